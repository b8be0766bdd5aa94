/- The contracts of Builder.copyCheck, WriteString, WriteByte. -/
import Derived.Test.YtnpbpiommpgikaaTy
set_option linter.unusedVariables false
set_option linter.unusedSimpArgs false
namespace Go.Proofs.Ytnpbpiommpgikaa.Vc
open Go Go.RowKit
theorem copyCheck_0 (v k m : Nat) (l : List Int) (X : List Ob) (hX : ObsId (X.length + 2) X) : SpecM Try.prog 43 [.p 0 v 0] (⟨73, 2, v, true, [.c (.pointer none), .o 1 k 0 m]⟩ :: ⟨5, 1, k, true, ints .u8 l⟩ :: X) (fun o H' => o = .ret (.t []) ∧ H' = ⟨73, 2, v, true, [.p 0 v 0, .o 1 k 0 m]⟩ :: ⟨5, 1, k, true, ints .u8 l⟩ :: X) := by
  refine specM_of [(0, .p 0 v 0)] rfl (X.length + 2) rfl Try.func43 rfl (Nat.le_of_ble_eq_true rfl) fun Γ hN hds => ?_
  have hd : ∀ d, Nat.blt d 20 = true → d < Γ.N := fun d h => by rw [hN]; exact Nat.le_of_ble_eq_true h
  refine jc_seq ?_
  refine jc_region ?_
  refine jo_l (ly_mv rfl) (hd 2 rfl) ?_
  refine jo_l (ly_nilp rfl rfl) (hd 3 rfl) ?_
  refine jo_l (ly_fa fld73_0 rfl rfl rfl) (hd 4 rfl) ?_
  refine jo_l (ly_ld one70 rfl rfl rfl) (hd 5 rfl) ?_
  refine jo_l (ly_eqn0 undP70 rfl) (hd 6 rfl) ?_
  refine jo_nil ?_
  refine jc_litt rfl ?_
  refine jc_region ?_
  refine jo_l (ly_mv rfl) (hd 7 rfl) ?_
  refine jo_l (ly_mv rfl) (hd 8 rfl) ?_
  refine jo_h (hy_tou undP70 undU85 (by kernel_rfl) rfl rfl (Nat.zero_lt_succ _)) (hd 9 rfl) ?_
  refine jo_h (hy_ext1 (e := Extern.AbiNoEscape.same) Try.func44 rfl rfl (by kernel_rfl) (by kernel_rfl) (fun _ _ => rfl) rfl) (hd 10 rfl) ?_
  refine jo_h (hy_ofu undU85 undP70 (by kernel_rfl) rfl rfl cells73 lies73 (by decide) (Nat.le_refl _)) (hd 11 rfl) ?_
  refine jo_l (ly_nilp rfl rfl) (hd 12 rfl) ?_
  refine jo_l (ly_fa fld73_0 rfl rfl rfl) (hd 13 rfl) ?_
  refine jo_st (sy_store rfl rfl rfl siz70 rfl (by simp [cellsV, oneO]) (Nat.le_of_ble_eq_true rfl)) ?_
  refine jo_nil ?_
  refine ⟨_, .nil, rfl, (by show ObsId _ (List.take (X.length + 2) (_ :: _ :: X)); rw [take2]; exact .cons rfl (.cons ints_id hX)), ?_⟩
  exact ⟨rfl, take2 _ _ X⟩

theorem copyCheck_1 (v k m : Nat) (l : List Int) (X : List Ob) (hX : ObsId (X.length + 2) X) : SpecM Try.prog 43 [.p 0 v 0] (⟨73, 2, v, true, [.p 0 v 0, .o 1 k 0 m]⟩ :: ⟨5, 1, k, true, ints .u8 l⟩ :: X) (fun o H' => o = .ret (.t []) ∧ H' = ⟨73, 2, v, true, [.p 0 v 0, .o 1 k 0 m]⟩ :: ⟨5, 1, k, true, ints .u8 l⟩ :: X) := by
  refine specM_of [(0, .p 0 v 0)] rfl (X.length + 2) rfl Try.func43 rfl (Nat.le_of_ble_eq_true rfl) fun Γ hN hds => ?_
  have hd : ∀ d, Nat.blt d 20 = true → d < Γ.N := fun d h => by rw [hN]; exact Nat.le_of_ble_eq_true h
  refine jc_seq ?_
  refine jc_region ?_
  refine jo_l (ly_mv rfl) (hd 2 rfl) ?_
  refine jo_l (ly_nilp rfl rfl) (hd 3 rfl) ?_
  refine jo_l (ly_fa fld73_0 rfl rfl rfl) (hd 4 rfl) ?_
  refine jo_l (ly_ld one70 rfl rfl rfl) (hd 5 rfl) ?_
  refine jo_l (ly_eqp0 undP70 rfl rfl) (hd 6 rfl) ?_
  refine jo_nil ?_
  refine jc_litf rfl ?_
  refine jc_seq ?_
  refine jc_region ?_
  refine jo_l (ly_mv rfl) (hd 14 rfl) ?_
  refine jo_l (ly_nilp rfl rfl) (hd 15 rfl) ?_
  refine jo_l (ly_fa fld73_0 rfl rfl rfl) (hd 16 rfl) ?_
  refine jo_l (ly_ld one70 rfl rfl rfl) (hd 17 rfl) ?_
  refine jo_l (ly_mv rfl) (hd 18 rfl) ?_
  refine jo_l (ly_nepp undP70 (by kernel_rfl) rfl rfl rfl) (hd 19 rfl) ?_
  refine jo_nil ?_
  refine jc_litf rfl ?_
  refine jc_skip ?_
  refine ⟨_, .nil, rfl, (by show ObsId _ (List.take (X.length + 2) (_ :: _ :: X)); rw [take2]; exact .cons rfl (.cons ints_id hX)), ?_⟩
  exact ⟨rfl, take2 _ _ X⟩

theorem copyCheck_s (v k m : Nat) (l : List Int) (X : List Ob) (hX : ObsId (X.length + 2) X) (c : V) (hc : c = .c (.pointer none) ∨ c = .p 0 v 0) : SpecM Try.prog 43 [.p 0 v 0] (⟨73, 2, v, true, [c, .o 1 k 0 m]⟩ :: ⟨5, 1, k, true, ints .u8 l⟩ :: X) (fun o H' => o = .ret (.t []) ∧ H' = ⟨73, 2, v, true, [.p 0 v 0, .o 1 k 0 m]⟩ :: ⟨5, 1, k, true, ints .u8 l⟩ :: X) := by
  rcases hc with rfl | rfl
  · exact copyCheck_0 v k m l X hX
  · exact copyCheck_1 v k m l X hX

theorem WriteString_s (v k m : Nat) (l : List Int) (X : List Ob) (s : ByteArray) (hX : ObsId (X.length + 2) X) (hF : freshless X) (c : V) (hc : c = .c (.pointer none) ∨ c = .p 0 v 0) (hl : l.length = m) (hb : m + s.size ≤ 140737488355328) : SpecM Try.prog 39 [.p 0 v 0, .s s] (⟨73, 2, v, true, [c, .o 1 k 0 m]⟩ :: ⟨5, 1, k, true, ints .u8 l⟩ :: X) (fun o H' => o = .ret (.t [.i .i64 (s.size : Int), .c .nilIface]) ∧ H' = ⟨73, 2, v, true, [.p 0 v 0, .o 1 (k + 1) 0 (m + s.size)]⟩ :: ⟨5, 1, k + 1, true, ints .u8 (l ++ bytesI s)⟩ :: X) := by
  refine specM_of [(0, .p 0 v 0), (1, .s s)] rfl (X.length + 2) rfl Try.func39 rfl (Nat.le_of_ble_eq_true rfl) fun Γ hN hds => ?_
  have hd : ∀ d, Nat.blt d 19 = true → d < Γ.N := fun d h => by rw [hN]; exact Nat.le_of_ble_eq_true h
  refine jc_seq ?_
  refine jc_region ?_
  refine jo_l (ly_as rfl) (hd 4 rfl) ?_
  refine jo_l (ly_as rfl) (hd 5 rfl) ?_
  refine jo_nil ?_
  refine jc_seq ?_
  refine jc_region ?_
  refine jo_l (ly_mv rfl) (hd 6 rfl) ?_
  refine jo_callM Try.f43 (copyCheck_s v k m l X hX c hc) rfl Try.func43 rfl rfl (ovL_cons rfl ovL_nil) (.cons (.same rfl) .nil) (freshless_cons (by rcases hc with rfl | rfl <;> rfl) (freshless_cons ints_noFr hF)) (hd 7 rfl) ?_ (fun ch H2 hp => by simp at hp)
  rintro y H2 ⟨hy, rfl⟩
  injection hy with hy
  subst hy
  refine jo_nil ?_
  refine jc_seq ?_
  refine jc_region ?_
  refine jo_l (ly_mv rfl) (hd 8 rfl) ?_
  refine jo_l (ly_mv rfl) (hd 9 rfl) ?_
  refine jo_l (ly_nilp rfl rfl) (hd 10 rfl) ?_
  refine jo_l (ly_fa fld73_1 rfl rfl rfl) (hd 11 rfl) ?_
  refine jo_l (ly_ld one71 rfl rfl rfl) (hd 12 rfl) ?_
  refine jo_l (ly_mv rfl) (hd 13 rfl) ?_
  refine jo_apps el71 und9 rfl rfl hl rfl hb (hd 14 rfl) ?_
  refine jo_l (ly_nilp rfl rfl) (hd 15 rfl) ?_
  refine jo_l (ly_fa fld73_1 rfl rfl rfl) (hd 16 rfl) ?_
  refine jo_st (sy_store rfl rfl rfl siz71 rfl (by simp [cellsV, oneO]) (Nat.le_of_ble_eq_true rfl)) ?_
  refine jo_nil ?_
  refine jc_seq ?_
  refine jc_region ?_
  refine jo_l (ly_mv rfl) (hd 17 rfl) ?_
  refine jo_l (ly_lens und9 rfl) (hd 18 rfl) ?_
  refine jo_l (ly_as rfl) (hd 4 rfl) ?_
  refine jo_l (ly_as rfl) (hd 5 rfl) ?_
  refine jo_nil ?_
  refine jc_ret ?_
  refine ⟨_, (.cons rfl (.cons rfl .nil)), rfl, (by show ObsId _ (List.take (X.length + 2) (_ :: _ :: X)); rw [take2, ints_append]; exact .cons rfl (.cons ints_id hX)), ?_⟩
  exact ⟨rfl, by show List.take (X.length + 2) (_ :: _ :: X) = _; rw [take2, ints_append]; rfl⟩

theorem WriteByte_s (v k m : Nat) (l : List Int) (X : List Ob) (d : Int) (hX : ObsId (X.length + 2) X) (hF : freshless X) (c : V) (hc : c = .c (.pointer none) ∨ c = .p 0 v 0) (hl : l.length = m) (hb : m + 1 ≤ 140737488355328) : SpecM Try.prog 38 [.p 0 v 0, .i .u8 d] (⟨73, 2, v, true, [c, .o 1 k 0 m]⟩ :: ⟨5, 1, k, true, ints .u8 l⟩ :: X) (fun o H' => o = .ret (.c .nilIface) ∧ H' = ⟨73, 2, v, true, [.p 0 v 0, .o 1 (k + 1) 0 (m + 1)]⟩ :: ⟨5, 1, k + 1, true, ints .u8 (l ++ [d])⟩ :: X) := by
  refine specM_of [(0, .p 0 v 0), (1, .i .u8 d)] rfl (X.length + 2) rfl Try.func38 rfl (Nat.le_of_ble_eq_true rfl) fun Γ hN hds => ?_
  have hd : ∀ d, Nat.blt d 17 = true → d < Γ.N := fun d h => by rw [hN]; exact Nat.le_of_ble_eq_true h
  refine jc_seq ?_
  refine jc_region ?_
  refine jo_l (ly_as rfl) (hd 4 rfl) ?_
  refine jo_nil ?_
  refine jc_seq ?_
  refine jc_region ?_
  refine jo_l (ly_mv rfl) (hd 5 rfl) ?_
  refine jo_callM Try.f43 (copyCheck_s v k m l X hX c hc) rfl Try.func43 rfl rfl (ovL_cons rfl ovL_nil) (.cons (.same rfl) .nil) (freshless_cons (by rcases hc with rfl | rfl <;> rfl) (freshless_cons ints_noFr hF)) (hd 6 rfl) ?_ (fun ch H2 hp => by simp at hp)
  rintro y H2 ⟨hy, rfl⟩
  injection hy with hy
  subst hy
  refine jo_nil ?_
  refine jc_seq ?_
  refine jc_region ?_
  refine jo_l (ly_mv rfl) (hd 7 rfl) ?_
  refine jo_l (ly_mv rfl) (hd 8 rfl) ?_
  refine jo_l (ly_nilp rfl rfl) (hd 9 rfl) ?_
  refine jo_l (ly_fa fld73_1 rfl rfl rfl) (hd 10 rfl) ?_
  refine jo_l (ly_ld one71 rfl rfl rfl) (hd 11 rfl) ?_
  refine jo_l (ly_mv rfl) (hd 12 rfl) ?_
  refine jo_h (hy_lit (id := (X.length + 2)) (xs := [.tmp 12]) el71 rfl (ovL_cons rfl ovL_nil) rfl (all2_of rfl) (by decide) rfl) (hd 13 rfl) ?_
  refine jo_app el71 rfl rfl (by rw [ints_length, hl, Nat.mul_one]) rfl (src_o (look2 _ _ _ X) rfl rfl) (by omega) (by unfold maxLen; omega) (hd 14 rfl) ?_
  refine jo_l (ly_nilp rfl rfl) (hd 15 rfl) ?_
  refine jo_l (ly_fa fld73_1 rfl rfl rfl) (hd 16 rfl) ?_
  refine jo_st (sy_store rfl rfl rfl siz71 rfl (by simp [cellsV, oneO]) (Nat.le_of_ble_eq_true rfl)) ?_
  refine jo_nil ?_
  refine jc_seq ?_
  refine jc_region ?_
  refine jo_l (ly_as rfl) (hd 4 rfl) ?_
  refine jo_nil ?_
  refine jc_ret ?_
  refine ⟨_, (.cons rfl .nil), rfl, (by show ObsId _ (List.take (X.length + 2) (_ :: ⟨5, 1, k + 1, true, ints .u8 l ++ ints .u8 [d]⟩ :: (X ++ [_]))); rw [take2', ints_append]; exact .cons rfl (.cons ints_id hX)), ?_⟩
  exact ⟨rfl, by show List.take (X.length + 2) (_ :: ⟨5, 1, k + 1, true, ints .u8 l ++ ints .u8 [d]⟩ :: (X ++ [_])) = _; rw [take2', ints_append]; rfl⟩
end Go.Proofs.Ytnpbpiommpgikaa.Vc
