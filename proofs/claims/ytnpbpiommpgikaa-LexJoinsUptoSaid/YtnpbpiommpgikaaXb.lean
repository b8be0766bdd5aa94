/- The contract of Builder.String. -/
import Derived.Test.YtnpbpiommpgikaaXa
import Derived.Test.YtnpbpiommpgikaaMb
set_option linter.unusedVariables false
set_option linter.unusedSimpArgs false
namespace Go.Proofs.Ytnpbpiommpgikaa.Vc
open Go Go.RowKit
theorem String_0 (v k : Nat) (X : List Ob) (hX : ObsId (X.length + 2) X) (c : V) (hc : c = .c (.pointer none) ∨ c = .p 0 v 0) : SpecM Try.prog 40 [.p 0 v 0] (⟨73, 2, v, true, [c, .o 1 k 0 0]⟩ :: ⟨5, 1, k, true, ints .u8 []⟩ :: X) (fun o H' => o = .ret (.s .empty) ∧ ∃ lv cs, H' = ⟨73, 2, v, true, [c, .o 1 k 0 0]⟩ :: ⟨5, 1, k, lv, cs⟩ :: X) := by
  refine specM_of [(0, .p 0 v 0)] rfl (X.length + 2) rfl Try.func40 rfl (Nat.le_of_ble_eq_true rfl) fun Γ hN hds => ?_
  have hd : ∀ d, Nat.blt d 14 = true → d < Γ.N := fun d h => by rw [hN]; exact Nat.le_of_ble_eq_true h
  refine jc_seq ?_
  refine jc_region ?_
  refine jo_l (ly_as rfl) (hd 2 rfl) ?_
  refine jo_nil ?_
  refine jc_seq ?_
  refine jc_draw (n := 12) _ rfl mixed ?_
  refine ja_l 0 (lo_l (ly_mv rfl) (hd 3 rfl)) rfl (by kernel_rfl) (by kernel_rfl) (by kernel_rfl) (fun _ _ _ _ h => h) ?_
  refine ja_l 1 (lo_l (ly_nilp rfl rfl) (hd 4 rfl)) rfl (by kernel_rfl) (by kernel_rfl) (by kernel_rfl) (fun _ _ _ _ h => h) ?_
  refine ja_l 2 (lo_l (ly_fa fld73_1 rfl rfl rfl) (hd 5 rfl)) rfl (by kernel_rfl) (by kernel_rfl) (by kernel_rfl) (fun _ _ _ _ h => h) ?_
  refine ja_l 3 (lo_l (ly_ld one71 rfl rfl rfl) (hd 6 rfl)) rfl (by kernel_rfl) (by kernel_rfl) (by kernel_rfl) (fun _ _ _ _ h => h) ?_
  refine ja_l 5 (lo_l (ly_mv rfl) (hd 8 rfl)) rfl (by kernel_rfl) (by kernel_rfl) (by kernel_rfl) (fun _ _ _ _ h => h) ?_
  refine ja_l 6 (lo_l (ly_nilp rfl rfl) (hd 9 rfl)) rfl (by kernel_rfl) (by kernel_rfl) (by kernel_rfl) (fun _ _ _ _ h => h) ?_
  refine ja_l 7 (lo_l (ly_fa fld73_1 rfl rfl rfl) (hd 10 rfl)) rfl (by kernel_rfl) (by kernel_rfl) (by kernel_rfl) (fun _ _ _ _ h => h) ?_
  refine ja_l 8 (lo_l (ly_ld one71 rfl rfl rfl) (hd 11 rfl)) rfl (by kernel_rfl) (by kernel_rfl) (by kernel_rfl) (fun _ _ _ _ h => h) ?_
  refine ja_l 9 (lo_l (ly_leno sl71 rfl rfl) (hd 12 rfl)) rfl (by kernel_rfl) (by kernel_rfl) (by kernel_rfl) (fun _ _ _ _ h => h) ?_
  refine ja_1 4 ?_ rfl (by kernel_rfl)
  refine js_usd0 undP84 rfl rfl (hd 7 rfl) (fun pp => ?_)
  refine ja_1 10 ?_ rfl (by kernel_rfl)
  refine js_h (hy_ustr0 rfl rfl) (hd 13 rfl) ?_
  refine ja_l 11 (lo_l (ly_as rfl) (hd 2 rfl)) rfl (by kernel_rfl) (by kernel_rfl) (by kernel_rfl) (fun _ _ _ _ h => h) ?_
  refine ja_nil (by kernel_rfl) ?_
  refine jc_ret ?_
  refine ⟨_, (.cons rfl .nil), rfl, (by show ObsId _ (List.take (X.length + 2) (_ :: _ :: X)); rw [take2]; exact .cons (by rcases hc with rfl | rfl <;> rfl) (.cons rfl hX)), ?_⟩
  exact ⟨rfl, true, [], take2 _ _ X⟩

theorem String_1 (v k : Nat) (X : List Ob) (hX : ObsId (X.length + 2) X) (c : V) (hc : c = .c (.pointer none) ∨ c = .p 0 v 0) (b : ByteArray) (h0 : 0 < b.size) (hb : b.size ≤ 140737488355328) : SpecM Try.prog 40 [.p 0 v 0] (⟨73, 2, v, true, [c, .o 1 k 0 b.size]⟩ :: ⟨5, 1, k, true, ints .u8 (bytesI b)⟩ :: X) (fun o H' => o = .ret (.s b) ∧ ∃ lv cs, H' = ⟨73, 2, v, true, [c, .o 1 k 0 b.size]⟩ :: ⟨5, 1, k, lv, cs⟩ :: X) := by
  refine specM_of [(0, .p 0 v 0)] rfl (X.length + 2) rfl Try.func40 rfl (Nat.le_of_ble_eq_true rfl) fun Γ hN hds => ?_
  have hd : ∀ d, Nat.blt d 14 = true → d < Γ.N := fun d h => by rw [hN]; exact Nat.le_of_ble_eq_true h
  refine jc_seq ?_
  refine jc_region ?_
  refine jo_l (ly_as rfl) (hd 2 rfl) ?_
  refine jo_nil ?_
  refine jc_seq ?_
  refine jc_draw (n := 12) _ rfl mixed ?_
  refine ja_l 0 (lo_l (ly_mv rfl) (hd 3 rfl)) rfl (by kernel_rfl) (by kernel_rfl) (by kernel_rfl) (fun _ _ _ _ h => h) ?_
  refine ja_l 1 (lo_l (ly_nilp rfl rfl) (hd 4 rfl)) rfl (by kernel_rfl) (by kernel_rfl) (by kernel_rfl) (fun _ _ _ _ h => h) ?_
  refine ja_l 2 (lo_l (ly_fa fld73_1 rfl rfl rfl) (hd 5 rfl)) rfl (by kernel_rfl) (by kernel_rfl) (by kernel_rfl) (fun _ _ _ _ h => h) ?_
  refine ja_l 3 (lo_l (ly_ld one71 rfl rfl rfl) (hd 6 rfl)) rfl (by kernel_rfl) (by kernel_rfl) (by kernel_rfl) (fun _ _ _ _ h => h) ?_
  refine ja_l 5 (lo_l (ly_mv rfl) (hd 8 rfl)) rfl (by kernel_rfl) (by kernel_rfl) (by kernel_rfl) (fun _ _ _ _ h => h) ?_
  refine ja_l 6 (lo_l (ly_nilp rfl rfl) (hd 9 rfl)) rfl (by kernel_rfl) (by kernel_rfl) (by kernel_rfl) (fun _ _ _ _ h => h) ?_
  refine ja_l 7 (lo_l (ly_fa fld73_1 rfl rfl rfl) (hd 10 rfl)) rfl (by kernel_rfl) (by kernel_rfl) (by kernel_rfl) (fun _ _ _ _ h => h) ?_
  refine ja_l 8 (lo_l (ly_ld one71 rfl rfl rfl) (hd 11 rfl)) rfl (by kernel_rfl) (by kernel_rfl) (by kernel_rfl) (fun _ _ _ _ h => h) ?_
  refine ja_l 9 (lo_l (ly_leno sl71 rfl rfl) (hd 12 rfl)) rfl (by kernel_rfl) (by kernel_rfl) (by kernel_rfl) (fun _ _ _ _ h => h) ?_
  refine ja_1 4 ?_ rfl (by kernel_rfl)
  refine js_h (hy_usd rfl rfl h0) (hd 7 rfl) ?_
  refine ja_1 10 ?_ rfl (by kernel_rfl)
  refine js_h (hy_ustr undP84 (by kernel_rfl) rfl rfl rfl rfl (by omega) (by omega)) (hd 13 rfl) ?_
  refine ja_l 11 (lo_l (ly_as rfl) (hd 2 rfl)) rfl (by kernel_rfl) (by kernel_rfl) (by kernel_rfl) (fun _ _ _ _ h => h) ?_
  refine ja_nil (by kernel_rfl) ?_
  refine jc_ret ?_
  refine ⟨_, (.cons rfl .nil), rfl, (by show ObsId _ (List.take (X.length + 2) (_ :: ⟨5, 1, k, false, []⟩ :: X)); rw [take2]; exact .cons (by rcases hc with rfl | rfl <;> rfl) (.dead rfl hX)), ?_⟩
  exact ⟨rfl, false, [], take2 _ ⟨5, 1, k, false, []⟩ X⟩

theorem String_s (v k : Nat) (X : List Ob) (hX : ObsId (X.length + 2) X) (c : V) (hc : c = .c (.pointer none) ∨ c = .p 0 v 0) (b : ByteArray) (hb : b.size ≤ 140737488355328) : SpecM Try.prog 40 [.p 0 v 0] (⟨73, 2, v, true, [c, .o 1 k 0 b.size]⟩ :: ⟨5, 1, k, true, ints .u8 (bytesI b)⟩ :: X) (fun o H' => o = .ret (.s b) ∧ ∃ lv cs, H' = ⟨73, 2, v, true, [c, .o 1 k 0 b.size]⟩ :: ⟨5, 1, k, lv, cs⟩ :: X) := by
  by_cases h0 : 0 < b.size
  · exact String_1 v k X hX c hc b h0 hb
  · have e : b = .empty := by
      apply ba_ext
      have h1 : b.data.toList.length = 0 := by rw [Array.length_toList]; show b.size = 0; omega
      rw [List.eq_nil_of_length_eq_zero h1]; rfl
    subst e
    exact String_0 v k X hX c hc
end Go.Proofs.Ytnpbpiommpgikaa.Vc
