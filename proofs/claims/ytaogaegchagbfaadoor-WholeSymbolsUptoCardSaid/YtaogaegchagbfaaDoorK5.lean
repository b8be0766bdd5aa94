/- The card of the law WholeSymbols of surdlaw06: it returns true for every two whole numbers of bulk at most 1048576 where the table of math/bits lies as the program lays it Texts joined: Wv, Wx, Wy, Wz, Ya, Yb, Ye, Yg, Yh. -/
import Derived.Test.YtaogaegchagbfaaDoorK4
set_option linter.unusedVariables false
set_option linter.unusedSimpArgs false
/- Numbers with a sign that are handed in. -/
namespace Go.Proofs.YtaogaegchagbfaaDoor.Vc
open Go Go.RowKit
set_option maxRecDepth 100000 in
theorem openW {H : Type} {enc : TypeId × Value → H} {w : World} {sp : Nat → Bool} {held : Bool} {r : Reach} {b0 : Nat} {v : Value} {d : DataW H} {ps : List MemPlace} (hval : Value.okWide Tryd.prog w r b0 24 v) (hd : DataW.Trod enc Tryd.prog w 0 sp held 24 v d ps) :
    ∃ (s : Bool) (l : List Int), Rel w (fun _ => False) w.heap.size [] (.a [.b s, .n false .u64 l]) v ∧ l.length + 2 ≤ Rows.uptoBulk d ∧ u64s l := by
  obtain ⟨cs, rfl, hsz⟩ := Go.WideShapes.okWide_struct Tryd.underlying24 hval
  obtain ⟨fuel, hd⟩ := hd
  have hcl : (Value.agg cs).cells.toList = cs.toList := rfl
  rw [hcl] at hd
  obtain ⟨y0, y1, n, hx, hl, h0, h1⟩ := Go.ChangeShapes.trod_struct2 Tryd.underlying24 hd
  injection hx with hx _; subst hx
  have hl' : cs.toList.length = 2 := hl
  obtain ⟨c0, c1, hcs⟩ : ∃ c0 c1, cs.toList = [c0, c1] := by
    match hm : cs.toList, hl' with
    | [a, b], _ => exact ⟨a, b, rfl⟩
  rw [hcs] at h0 h1
  obtain ⟨s, e0, hy0⟩ := DataW.trod_bool Tryd.underlying4 h0
  have e0' : [c0] = [Value.bool s] := e0
  injection e0' with e0'; subst e0'; subst hy0
  have h1' : DataW.trod enc Tryd.prog w 0 sp held n 22 [c1] = some y1 := h1
  obtain ⟨l, k1, k2, k3⟩ := open_numsV Tryd.underlying22 Tryd.underlying76 (show Tryd.prog.cellsOf 76 = 1 by kernel_rfl) h1'
  refine ⟨s, l, ⟨cs.toList, by simp, ?_⟩, ?_, fun y hy => wf_u64 (k3 y hy)⟩
  · rw [hcs]; exact ⟨_, _, rfl, rfl, _, _, rfl, k1, rfl⟩
  · simp only [Rows.uptoBulk, Rows.uptoBulkAll]; omega
end Go.Proofs.YtaogaegchagbfaaDoor.Vc

/- Contracts of the references' Len, of Lend, lent, Kept. -/
namespace Go.Proofs.YtaogaegchagbfaaDoor.Vc
open Go Go.RowKit
set_option maxHeartbeats 4000000 in
theorem Len_s (v : Int) (hl : (dg v).length < 1099511627776) : Spec Tryd.prog 49 [.n false .u64 (dg v)] (fun o => o = .ret (.i .i64 (lenV v : Int))) := by
  refine spec_of' [(0, .n false .u64 (dg v))] rfl Tryd.func49 rfl (Nat.le_of_ble_eq_true rfl) fun Γ hN hds hL hR => ?_
  have hd : ∀ d, Nat.blt d 25 = true → d < Γ.N := fun d h => by rw [hN]; exact Nat.le_of_ble_eq_true h
  have hB := lenV_le v
  have hT := dg_top v ((dg v).length - 1)
  have hE := lenD_eq v
  have hN := dg_nil (v := v)
  refine jc_seq ?_; refine jc_region ?_; refine jo_l (ly_as rfl) (hd 2 rfl) ?_; refine jo_nil ?_; refine jc_seq ?_; refine jc_seq ?_; refine jc_region ?_; refine jo_l (ly_mv rfl) (hd 5 rfl) ?_; refine jo_l (ly_lenn sl33 rfl) (hd 6 rfl) ?_; refine jo_l (ly_eq rfl rfl) (hd 7 rfl) ?_; refine jo_nil ?_
  refine jc_if rfl (fun h1 => ?_) (fun h1 => ?_)
  · have h0 : dg v = [] := List.eq_nil_of_length_eq_zero (by omega)
    refine jc_seq ?_; refine jc_region ?_; refine jo_l (ly_as rfl) (hd 2 rfl) ?_; refine jo_nil ?_; refine jc_ret ?_
    refine ⟨_, _, (.cons rfl .nil), .i, ?_⟩
    rw [hN.1 h0]
    rfl
  · have h0 : dg v ≠ [] := fun e => by rw [e] at h1; exact h1 rfl
    have hE := hE h0
    refine jc_skip ?_; refine jc_seq ?_; refine jc_region ?_; refine jo_l (ly_mv rfl) (hd 8 rfl) ?_; refine jo_l (ly_lenn sl33 rfl) (hd 9 rfl) ?_; refine jo_l (ly_sub rfl rfl (wrap_i64 (by first | omega | (dsimp only; omega)) (by first | omega | (dsimp only; omega)))) (hd 10 rfl) ?_; refine jo_l (ly_mul rfl rfl (r := ((32 * ((dg v).length - 1) : Nat) : Int)) (by have := List.length_pos_iff.2 h0; rw [wrap_i64 (by omega) (by omega)]; omega)) (hd 11 rfl) ?_; refine jo_l (ly_as rfl) (hd 3 rfl) ?_; refine jo_nil ?_; refine jc_seq ?_; refine jc_seq ?_; refine jc_region ?_; refine jo_l (ly_mv rfl) (hd 12 rfl) ?_; refine jo_l (ly_mv rfl) (hd 13 rfl) ?_; refine jo_l (ly_lenn sl33 rfl) (hd 14 rfl) ?_; refine jo_l (ly_sub rfl rfl (wrap_i64 (by first | omega | (dsimp only; omega)) (by first | omega | (dsimp only; omega)))) (hd 15 rfl) ?_; refine jo_l (ly_ian (i := (dg v).length - 1) sl33 rfl rfl (by have := List.length_pos_iff.2 h0; omega) (by have := List.length_pos_iff.2 h0; omega)) (hd 16 rfl) ?_; refine jo_l (ly_ldq one82 rfl rfl) (hd 17 rfl) ?_; refine jo_l (ly_as rfl) (hd 4 rfl) ?_; refine jo_nil ?_; refine jc_block ?_
    refine jc_loopF (G := Nat × Nat) (fun g => g.2 + nbits g.1 = lenV v ∧ g.1 < 4294967296) (fun g => [(3, .i .i64 (g.2 : Int)), (4, .i .u64 (g.1 : Int)), (18, .u), (19, .u), (20, .u), (21, .u), (22, .u), (23, .u)]) (fun _ => _) (fun g => g.1) (((dg v).getD ((dg v).length - 1) 0).toNat, 32 * ((dg v).length - 1)) ?_ ?_ rfl ?_
    · exact ⟨hE, by dsimp only; omega⟩
    · exact (.cons rfl (.cons (by show some (V.i .u64 _) = some (V.i .u64 _); congr 2; dsimp only; omega) (.u (.u (.u (.u (.u (.u .nil))))))))
    · rintro ⟨m, c⟩ ⟨hc1, hc2⟩
      dsimp only at hc1 hc2 ⊢
      refine jc_seq ?_; refine jc_seq ?_; refine jc_region ?_; refine jo_l (ly_mv rfl) (hd 18 rfl) ?_; refine jo_l (ly_gt rfl rfl) (hd 19 rfl) ?_; refine jo_nil ?_
      refine jc_if rfl (fun h2 => ?_) (fun h2 => ?_)
      · refine jc_skip ?_; refine jc_seq ?_; refine jc_block ?_; refine jc_region ?_; refine jo_l (ly_mv rfl) (hd 22 rfl) ?_; refine jo_l (ly_add rfl rfl (wrap_i64 (by first | omega | (dsimp only; omega)) (by first | omega | (dsimp only; omega)))) (hd 23 rfl) ?_; refine jo_l (ly_as rfl) (hd 3 rfl) ?_; refine jo_nil ?_; refine jc_region ?_; refine jo_l (ly_mv rfl) (hd 20 rfl) ?_; refine jo_l (ly_quo rfl rfl (by first | omega | (dsimp only; omega)) (r := ((m / 2 : Nat) : Int)) (by rw [show ((m : Int).tdiv 2) = ((m / 2 : Nat) : Int) from rfl, wrap_u64 (by omega) (by omega)])) (hd 21 rfl) ?_; refine jo_l (ly_as rfl) (hd 4 rfl) ?_; refine jo_nil ?_
        refine ⟨(m / 2, c + 1), ?_, ?_, rfl, cov_n 16 rfl rfl ?_⟩
        · exact ⟨by have := nbits_half (m := m) (by omega); dsimp only; omega, by dsimp only; omega⟩
        · show m / 2 < m; omega
        · exact (.cons rfl (.cons rfl (.u (.u (.u (.u (.u (.u .nil))))))))
      · refine jc_exit ?_; refine jc_seq ?_; refine jc_region ?_; refine jo_l (ly_mv rfl) (hd 24 rfl) ?_; refine jo_l (ly_as rfl) (hd 2 rfl) ?_; refine jo_nil ?_; refine jc_ret ?_
        refine ⟨_, _, (.cons rfl .nil), .i, ?_⟩
        have hm : m = 0 := by omega
        subst hm
        rw [nbits_0] at hc1
        rw [← hc1]
        rfl

set_option maxHeartbeats 4000000 in
theorem Lend_s (l : List Int) (hl : l.length < 1099511627776) : Spec Tryd.prog 34 [.n false .u64 l] (fun o => o = .ret (.t [.n true .u64 (wrapP l), .n true .u64 l])) := by
  refine spec_of' [(0, .n false .u64 l)] rfl Tryd.func34 rfl (Nat.le_of_ble_eq_true rfl) fun Γ hN hds hL hR => ?_
  have hd : ∀ d, Nat.blt d 40 = true → d < Γ.N := fun d h => by rw [hN]; exact Nat.le_of_ble_eq_true h
  refine jc_seq ?_; refine jc_region ?_; refine jo_l (ly_as rfl) (hd 2 rfl) ?_; refine jo_l (ly_as rfl) (hd 3 rfl) ?_; refine jo_nil ?_; refine jc_seq ?_; refine jc_region ?_; refine jo_l (ly_mv rfl) (hd 8 rfl) ?_; refine jo_l (ly_lenn sl25 rfl) (hd 9 rfl) ?_; refine jo_l (ly_add rfl rfl (r := ((l.length + 4 : Nat) : Int)) (by rw [wrap_i64 (by omega) (by omega)]; omega)) (hd 10 rfl) ?_; refine jo_h (hy_mk (m := l.length + 4) el25 rfl rfl rfl (by show 8 * (l.length + 4) ≤ _; omega) (by unfold maxLen; omega) rfl) (hd 11 rfl) ?_; refine jo_l (ly_as rfl) (hd 4 rfl) ?_; refine jo_nil ?_; refine jc_seq ?_; refine jc_seq ?_; refine jc_H (H' := [⟨76, 1, 0, true, ints .u64 (lendA (l.length + 4) 0)⟩]) (by rw [← lendA_0]; rfl) ?_; refine jc_region ?_; refine jo_l (ly_mv rfl) (hd 12 rfl) ?_; refine jo_l (ly_leno sl25 rfl rfl) (hd 13 rfl) ?_; refine jo_l (ly_mv rfl) (hd 14 rfl) ?_; refine jo_nil ?_; refine jc_block ?_
  refine jc_loopF (G := Nat) (fun i => i ≤ l.length + 4) (fun i => [(14, .i .i64 (i : Int)), (5, .u), (15, .u), (16, .u), (17, .u), (18, .u), (19, .u), (20, .u)]) (fun i => [⟨76, 1, 0, true, ints .u64 (lendA (l.length + 4) i)⟩]) (fun i => l.length + 4 - i) 0 ?_ ?_ rfl ?_
  · exact Nat.zero_le _
  · exact (.cons rfl (.u (.u (.u (.u (.u (.u (.u .nil))))))))
  · rintro i hc1
    have hlA := lendA_len hc1
    refine jc_seq ?_; refine jc_region ?_; refine jo_l (ly_lt rfl rfl) (hd 15 rfl) ?_; refine jo_nil ?_; refine jc_seq ?_
    refine jc_if rfl (fun h1 => ?_) (fun h1 => ?_)
    · refine jc_skip ?_; refine jc_seq ?_; refine jc_block ?_; refine jc_seq ?_; refine jc_region ?_; refine jo_l (ly_mv rfl) (hd 16 rfl) ?_; refine jo_l (ly_as rfl) (hd 5 rfl) ?_; refine jo_nil ?_; refine jc_region ?_; refine jo_l (ly_mv rfl) (hd 17 rfl) ?_; refine jo_l (ly_mv rfl) (hd 18 rfl) ?_; refine jo_l (ly_ia (i := i) sl25 rfl rfl rfl (by first | rfl | omega) (by first | omega | (dsimp only; omega)) rfl) (hd 19 rfl) ?_; refine jo_st (sy_storei rfl rfl rfl one82 (by first | omega | (dsimp only; omega))) ?_; refine jo_nil ?_; refine jc_region ?_; refine jo_l (ly_add rfl rfl (wrap_i64 (by first | omega | (dsimp only; omega)) (by first | omega | (dsimp only; omega)))) (hd 20 rfl) ?_; refine jo_l (ly_mv rfl) (hd 14 rfl) ?_; refine jo_nil ?_
      refine ⟨i + 1, ?_, ?_, (by show [(⟨76, 1, 0, true, ints .u64 _⟩ : Ob)] = [⟨76, 1, 0, true, ints .u64 _⟩]; rw [lendA_set (by omega)]), cov_n 16 rfl rfl ?_⟩
      · omega
      · omega
      · exact (.cons rfl (.u (.u (.u (.u (.u (.u (.u .nil))))))))
    · refine jc_exit ?_; refine jc_seq ?_; refine jc_seq ?_; refine jc_H (H' := [⟨76, 1, 0, true, ints .u64 (lendB l 0)⟩]) (by rw [← lendB_0, show l.length + 4 = i by omega]) ?_; refine jc_region ?_; refine jo_l (ly_mv rfl) (hd 21 rfl) ?_; refine jo_l (ly_lenn sl25 rfl) (hd 22 rfl) ?_; refine jo_l (ly_mv rfl) (hd 23 rfl) ?_; refine jo_nil ?_; refine jc_block ?_
      refine jc_loopF (G := Nat) (fun k => k ≤ l.length) (fun k => [(23, .i .i64 (k : Int)), (6, .u), (7, .u), (24, .u), (25, .u), (26, .u), (27, .u), (28, .u), (29, .u), (30, .u), (31, .u), (32, .u), (33, .u)]) (fun k => [⟨76, 1, 0, true, ints .u64 (lendB l k)⟩]) (fun k => l.length - k) 0 ?_ ?_ rfl ?_
      · exact Nat.zero_le _
      · exact (.cons rfl (.u (.u (.u (.u (.u (.u (.u (.u (.u (.u (.u (.u .nil)))))))))))))
      · rintro k hc2
        have hlB := lendB_len hc2
        refine jc_seq ?_; refine jc_region ?_; refine jo_l (ly_lt rfl rfl) (hd 24 rfl) ?_; refine jo_nil ?_; refine jc_seq ?_
        refine jc_if rfl (fun h2 => ?_) (fun h2 => ?_)
        · refine jc_skip ?_; refine jc_seq ?_; refine jc_block ?_; refine jc_seq ?_; refine jc_region ?_; refine jo_l (ly_mv rfl) (hd 25 rfl) ?_; refine jo_l (ly_ian (i := k) sl25 rfl rfl (by first | rfl | omega) (by first | omega | (dsimp only; omega))) (hd 26 rfl) ?_; refine jo_l (ly_ldq one82 rfl rfl) (hd 27 rfl) ?_; refine jo_l (ly_as rfl) (hd 6 rfl) ?_; refine jo_l (ly_as rfl) (hd 7 rfl) ?_; refine jo_nil ?_; refine jc_region ?_; refine jo_l (ly_mv rfl) (hd 28 rfl) ?_; refine jo_l (ly_mv rfl) (hd 29 rfl) ?_; refine jo_l (ly_add rfl rfl (wrap_i64 (by first | omega | (dsimp only; omega)) (by first | omega | (dsimp only; omega)))) (hd 30 rfl) ?_; refine jo_l (ly_mv rfl) (hd 31 rfl) ?_; refine jo_l (ly_ia (i := k + 2) sl25 rfl rfl rfl (by first | rfl | omega) (by first | omega | (dsimp only; omega)) rfl) (hd 32 rfl) ?_; refine jo_st (sy_storei rfl rfl rfl one82 (by first | omega | (dsimp only; omega))) ?_; refine jo_nil ?_; refine jc_region ?_; refine jo_l (ly_add rfl rfl (wrap_i64 (by first | omega | (dsimp only; omega)) (by first | omega | (dsimp only; omega)))) (hd 33 rfl) ?_; refine jo_l (ly_mv rfl) (hd 23 rfl) ?_; refine jo_nil ?_
          refine ⟨k + 1, ?_, ?_, (by show [(⟨76, 1, 0, true, ints .u64 _⟩ : Ob)] = [⟨76, 1, 0, true, ints .u64 _⟩]; rw [lendB_set (by omega)]), cov_n 26 rfl rfl ?_⟩
          · omega
          · omega
          · exact (.cons rfl (.u (.u (.u (.u (.u (.u (.u (.u (.u (.u (.u (.u .nil)))))))))))))
        · refine jc_exit ?_; refine jc_seq ?_; refine jc_H (H' := [⟨76, 1, 0, true, ints .u64 (wrapP l)⟩]) (by rw [← lendB_end, show l.length = k by omega]) ?_; refine jc_draw (n := 8) _ rfl mixed ?_; refine ja_l 0 (lo_l (ly_mv rfl) (hd 34 rfl)) rfl (by kernel_rfl) (by kernel_rfl) (by kernel_rfl) (fun _ _ _ _ h => h) ?_; refine ja_l 1 (lo_l (ly_mv rfl) (hd 35 rfl)) rfl (by kernel_rfl) (by kernel_rfl) (by kernel_rfl) (fun _ _ _ _ h => h) ?_; refine ja_l2 2 [3, 4, 5, 7] (lo_l (ly_mv rfl) (hd 36 rfl)) rfl (by kernel_rfl) (by kernel_rfl) (by kernel_rfl) (by kernel_rfl) (fun _ _ _ _ h => h) ?_; refine ja_l2 3 [4, 5, 7] (lo_l (ly_lenn sl25 rfl) (hd 37 rfl)) rfl (by kernel_rfl) (by kernel_rfl) (by kernel_rfl) (by kernel_rfl) (fun _ _ _ _ h => h) ?_; refine ja_l 4 (lo_l (ly_add rfl rfl (wrap_i64 (by first | omega | (dsimp only; omega)) (by first | omega | (dsimp only; omega)))) (hd 38 rfl)) rfl (by kernel_rfl) (by kernel_rfl) (by kernel_rfl) (fun _ _ _ _ h => h) ?_; refine ja_l 5 (lo_l (ly_slo (l := 2) (h := l.length + 2) (r := 2) (n := l.length) sl25 rfl rfl (bnd_some' rfl rfl) (bnd_some' rfl (by omega)) (by omega) (by omega) rfl (by omega)) (hd 39 rfl)) rfl (by kernel_rfl) (by kernel_rfl) (by kernel_rfl) (fun _ _ _ _ h => h) ?_; refine ja_l 6 (lo_l (ly_as rfl) (hd 2 rfl)) rfl (by kernel_rfl) (by kernel_rfl) (by kernel_rfl) (fun _ _ _ _ h => h) ?_; refine ja_l 7 (lo_l (ly_as rfl) (hd 3 rfl)) rfl (by kernel_rfl) (by kernel_rfl) (by kernel_rfl) (fun _ _ _ _ h => h) ?_; refine ja_nil (by kernel_rfl) ?_; refine jc_ret ?_
          refine ⟨_, _, (.cons rfl (.cons rfl .nil)), (.t1 (.o (l := wrapP l) rfl (by rw [wrap_len]; omega) rfl) (.t1 (.o (l := wrapP l) rfl (by rw [wrap_len]; omega) rfl) .t0)), ?_⟩
          rw [show ((wrapP l).drop 0).take (l.length + 4) = wrapP l by rw [List.drop_zero, ← wrap_len, List.take_length], wrap_mid]

set_option maxHeartbeats 4000000 in
theorem lent_s (s : Bool) (l : List Int) (hl : l.length < 1099511627776) : Spec Tryd.prog 6 [.a [.b s, .n false .u64 l]] (fun o => o = .ret (.t [.n true .u64 (wrapP l), .a [.b s, .n true .u64 l]])) := by
  refine spec_of' [(0, .a [.b s, .n false .u64 l])] rfl Tryd.func6 rfl (Nat.le_of_ble_eq_true rfl) fun Γ hN hds hL hR => ?_
  have hd : ∀ d, Nat.blt d 17 = true → d < Γ.N := fun d h => by rw [hN]; exact Nat.le_of_ble_eq_true h
  refine jc_seq ?_; refine jc_region ?_; refine jo_h (hy_box (id := 0) (n := 2) rfl rfl rfl (by decide) rfl) (hd 1 rfl) ?_; refine jo_l (ly_as rfl) (hd 2 rfl) ?_; refine jo_h (hy_alloc (id := 1) zero30 (by decide) rfl (by decide) rfl) (hd 3 rfl) ?_; refine jo_nil ?_; refine jc_seq ?_; refine jc_region ?_; refine jo_l (ly_fa fld27_1 rfl rfl rfl) (hd 7 rfl) ?_; refine jo_l (ly_ld one25 rfl rfl rfl) (hd 8 rfl) ?_
  refine jo_call Tryd.f34 (Lend_s l hl) rfl Tryd.func34 rfl rfl (ovL_cons rfl ovL_nil) (.cons .n .nil) (hd 9 rfl) ?_ (fun ch hp => by simp at hp)
  rintro y hy; injection hy with hy; subst hy; refine jo_l (ly_mv rfl) (hd 6 rfl) ?_; refine jo_l (ly_ext rfl rfl) (hd 10 rfl) ?_; refine jo_l (ly_ext rfl rfl) (hd 11 rfl) ?_; refine jo_l (ly_as rfl) (hd 4 rfl) ?_; refine jo_l (ly_as rfl) (hd 5 rfl) ?_; refine jo_nil ?_; refine jc_seq ?_; refine jc_draw (n := 7) _ rfl mixed ?_; refine ja_l 0 (lo_l (ly_mv rfl) (hd 12 rfl)) rfl (by kernel_rfl) (by kernel_rfl) (by kernel_rfl) (fun _ _ _ _ h => h) ?_; refine ja_l2 1 [2, 4, 6] (lo_l (ly_fa fld27_0 rfl rfl rfl) (hd 13 rfl)) rfl (by kernel_rfl) (by kernel_rfl) (by kernel_rfl) (by kernel_rfl) (fun _ _ _ _ h => h) ?_; refine ja_l 2 (lo_l (ly_ld one4 rfl rfl rfl) (hd 14 rfl)) rfl (by kernel_rfl) (by kernel_rfl) (by kernel_rfl) (fun _ _ _ _ h => h) ?_; refine ja_l 3 (lo_l (ly_mv rfl) (hd 15 rfl)) rfl (by kernel_rfl) (by kernel_rfl) (by kernel_rfl) (fun _ _ _ _ h => h) ?_; refine ja_l 4 (lo_l (ly_build (is := [0, 1]) (xs := [.tmp 14, .tmp 15]) zero30 pls30_0_1 rfl (ovL_cons rfl (ovL_cons rfl ovL_nil)) rfl (by first | (simp [plsOk, cellsV]; done) | (simp [plsOk, cellsV, old]; done)) (all_of rfl) rfl) (hd 16 rfl)) rfl (by kernel_rfl) (by kernel_rfl) (by kernel_rfl) (fun _ _ _ _ h => h) ?_; refine ja_l 5 (lo_l (ly_as rfl) (hd 2 rfl)) rfl (by kernel_rfl) (by kernel_rfl) (by kernel_rfl) (fun _ _ _ _ h => h) ?_
  refine ja_1 6 ?_ rfl (by kernel_rfl)
  refine js_st (sy_store rfl rfl rfl siz30 rfl rfl (Nat.le_of_ble_eq_true rfl)) rfl ?_; refine ja_nil (by kernel_rfl) ?_; refine jc_ret ?_
  refine ⟨_, _, (.cons rfl (.cons (ResV.cell agg30 rfl rfl rfl rfl) .nil)), (.t1 .n (.t1 (.a1 .b (.a1 .n .a0)) .t0)), ?_⟩
  exact rfl

set_option maxHeartbeats 4000000 in
theorem Kept_s (l : List Int) (hl : l.length < 1099511627776) : Spec Tryd.prog 23 [.n false .u64 (wrapP l), .n false .u64 l] (fun o => o = .ret (.b true)) := by
  refine spec_of' [(0, .n false .u64 (wrapP l)), (1, .n false .u64 l)] rfl Tryd.func23 rfl (Nat.le_of_ble_eq_true rfl) fun Γ hN hds hL hR => ?_
  have hd : ∀ d, Nat.blt d 39 = true → d < Γ.N := fun d h => by rw [hN]; exact Nat.le_of_ble_eq_true h
  have hw := wrap_len (l := l)
  refine jc_seq ?_; refine jc_region ?_; refine jo_l (ly_as rfl) (hd 4 rfl) ?_; refine jo_nil ?_; refine jc_seq ?_; refine jc_seq ?_; refine jc_region ?_; refine jo_l (ly_mv rfl) (hd 7 rfl) ?_; refine jo_l (ly_lenn sl25 rfl) (hd 8 rfl) ?_; refine jo_l (ly_mv rfl) (hd 9 rfl) ?_; refine jo_l (ly_lenn sl25 rfl) (hd 10 rfl) ?_; refine jo_l (ly_add rfl rfl (wrap_i64 (by first | omega | (dsimp only; omega)) (by first | omega | (dsimp only; omega)))) (hd 11 rfl) ?_; refine jo_l (ly_ff (ly_ne rfl rfl) (by omega)) (hd 12 rfl) ?_; refine jo_nil ?_; refine jc_litf rfl ?_; refine jc_skip ?_; refine jc_seq ?_; refine jc_seq ?_; refine jc_region ?_; refine jo_l (ly_mv rfl) (hd 13 rfl) ?_; refine jo_l (ly_lenn sl25 rfl) (hd 14 rfl) ?_; refine jo_l (ly_mv rfl) (hd 15 rfl) ?_; refine jo_nil ?_; refine jc_block ?_
  refine jc_loopF (G := Nat) (fun i => i ≤ l.length + 4) (fun i => [(15, .i .i64 (i : Int)), (4, .u), (5, .u), (6, .u), (16, .u), (17, .u), (18, .u), (19, .u), (20, .u), (21, .u), (22, .u), (23, .u), (24, .u), (25, .u), (26, .u), (27, .u), (28, .u), (29, .u), (30, .u), (31, .u), (32, .u), (33, .u), (34, .u), (35, .u), (36, .u), (37, .u), (38, .u)]) (fun _ => _) (fun i => l.length + 4 - i) 0 ?_ ?_ rfl ?_
  · exact Nat.zero_le _
  · exact (.cons rfl (.u (.u (.u (.u (.u (.u (.u (.u (.u (.u (.u (.u (.u (.u (.u (.u (.u (.u (.u (.u (.u (.u (.u (.u (.u (.u .nil)))))))))))))))))))))))))))
  · rintro i hc1; refine jc_seq ?_; refine jc_region ?_; refine jo_l (ly_lt rfl rfl) (hd 16 rfl) ?_; refine jo_nil ?_; refine jc_seq ?_
    refine jc_if rfl (fun h2 => ?_) (fun h2 => ?_)
    · refine jc_skip ?_; refine jc_seq ?_; refine jc_block ?_; refine jc_seq ?_; refine jc_region ?_; refine jo_l (ly_mv rfl) (hd 17 rfl) ?_; refine jo_l (ly_ian (i := i) sl25 rfl rfl (by first | rfl | omega) (by first | omega | (dsimp only; omega))) (hd 18 rfl) ?_; refine jo_l (ly_ldq one82 rfl rfl) (hd 19 rfl) ?_; refine jo_l (ly_as rfl) (hd 5 rfl) ?_; refine jo_l (ly_as rfl) (hd 6 rfl) ?_; refine jo_nil ?_; refine jc_seq ?_; refine jc_region ?_; refine jo_l (ly_mv rfl) (hd 20 rfl) ?_; refine jo_l (ly_lt rfl rfl) (hd 21 rfl) ?_; refine jo_l (ly_mv rfl) (hd 22 rfl) ?_
      refine jo_ifp 22 rfl (fun h3 => ?_) (fun h3 => ?_)
      · refine jo_s 22 rfl rfl rfl (hd 23 rfl) ?_; refine jo_s 22 rfl rfl rfl (hd 24 rfl) ?_; refine jo_s 22 rfl rfl rfl (hd 25 rfl) ?_; refine jo_s 22 rfl rfl rfl (hd 26 rfl) ?_; refine jo_s 22 rfl rfl rfl (hd 27 rfl) ?_; refine jo_l (ly_pick_t rfl rfl) (hd 28 rfl) ?_; refine jo_nil ?_; refine jc_litt rfl ?_; refine jc_seq ?_; refine jc_region ?_; refine jo_l (ly_mv rfl) (hd 29 rfl) ?_; refine jo_l (ly_ff (ly_ne rfl rfl) (fun hh => hh (wrap_out (by omega) (by omega)))) (hd 30 rfl) ?_; refine jo_nil ?_; refine jc_litf rfl ?_; refine jc_skip ?_; refine jc_region ?_; refine jo_l (ly_add rfl rfl (wrap_i64 (by first | omega | (dsimp only; omega)) (by first | omega | (dsimp only; omega)))) (hd 38 rfl) ?_; refine jo_l (ly_mv rfl) (hd 15 rfl) ?_; refine jo_nil ?_
        refine ⟨i + 1, ?_, ?_, rfl, cov_n 47 rfl rfl ?_⟩
        · omega
        · omega
        · exact (.cons rfl (.u (.u (.u (.u (.u (.u (.u (.u (.u (.u (.u (.u (.u (.u (.u (.u (.u (.u (.u (.u (.u (.u (.u (.u (.u (.u .nil)))))))))))))))))))))))))))
      · refine jo_g 22 rfl rfl (ly_mv rfl) (hd 23 rfl) ?_; refine jo_g 22 rfl rfl (ly_mv rfl) (hd 24 rfl) ?_; refine jo_g 22 rfl rfl (ly_lenn sl25 rfl) (hd 25 rfl) ?_; refine jo_g 22 rfl rfl (ly_add rfl rfl (wrap_i64 (by first | omega | (dsimp only; omega)) (by first | omega | (dsimp only; omega)))) (hd 26 rfl) ?_; refine jo_g 22 rfl rfl (ly_ge rfl rfl) (hd 27 rfl) ?_; refine jo_l (ly_pick_f rfl rfl) (hd 28 rfl) ?_; refine jo_nil ?_
        refine jc_if rfl (fun h6 => ?_) (fun h6 => ?_)
        · refine jc_seq ?_; refine jc_region ?_; refine jo_l (ly_mv rfl) (hd 29 rfl) ?_; refine jo_l (ly_ff (ly_ne rfl rfl) (fun hh => hh (wrap_out (by omega) (by omega)))) (hd 30 rfl) ?_; refine jo_nil ?_; refine jc_litf rfl ?_; refine jc_skip ?_; refine jc_region ?_; refine jo_l (ly_add rfl rfl (wrap_i64 (by first | omega | (dsimp only; omega)) (by first | omega | (dsimp only; omega)))) (hd 38 rfl) ?_; refine jo_l (ly_mv rfl) (hd 15 rfl) ?_; refine jo_nil ?_
          refine ⟨i + 1, ?_, ?_, rfl, cov_n 47 rfl rfl ?_⟩
          · omega
          · omega
          · exact (.cons rfl (.u (.u (.u (.u (.u (.u (.u (.u (.u (.u (.u (.u (.u (.u (.u (.u (.u (.u (.u (.u (.u (.u (.u (.u (.u (.u .nil)))))))))))))))))))))))))))
        · refine jc_seq ?_; refine jc_region ?_; refine jo_l (ly_mv rfl) (hd 31 rfl) ?_; refine jo_l (ly_mv rfl) (hd 32 rfl) ?_; refine jo_l (ly_mv rfl) (hd 33 rfl) ?_; refine jo_l (ly_sub rfl rfl (wrap_i64 (by first | omega | (dsimp only; omega)) (by first | omega | (dsimp only; omega)))) (hd 34 rfl) ?_; refine jo_l (ly_ian (i := i - 2) sl25 rfl rfl (by first | rfl | omega) (by first | omega | (dsimp only; omega))) (hd 35 rfl) ?_; refine jo_l (ly_ldq one82 rfl rfl) (hd 36 rfl) ?_; refine jo_l (ly_ff (ly_ne rfl rfl) (fun hh => hh (wrap_in (by omega) (by omega)))) (hd 37 rfl) ?_; refine jo_nil ?_; refine jc_litf rfl ?_; refine jc_skip ?_; refine jc_region ?_; refine jo_l (ly_add rfl rfl (wrap_i64 (by first | omega | (dsimp only; omega)) (by first | omega | (dsimp only; omega)))) (hd 38 rfl) ?_; refine jo_l (ly_mv rfl) (hd 15 rfl) ?_; refine jo_nil ?_
          refine ⟨i + 1, ?_, ?_, rfl, cov_n 52 rfl rfl ?_⟩
          · omega
          · omega
          · exact (.cons rfl (.u (.u (.u (.u (.u (.u (.u (.u (.u (.u (.u (.u (.u (.u (.u (.u (.u (.u (.u (.u (.u (.u (.u (.u (.u (.u .nil)))))))))))))))))))))))))))
    · refine jc_exit ?_; refine jc_seq ?_; refine jc_region ?_; refine jo_l (ly_as rfl) (hd 4 rfl) ?_; refine jo_nil ?_; refine jc_ret ?_
      refine ⟨_, _, (.cons rfl .nil), .b, ?_⟩
      exact rfl
end Go.Proofs.YtaogaegchagbfaaDoor.Vc

/- Contracts with the error: mul.Mul, nat.Add, nat.Sub. -/
namespace Go.Proofs.YtaogaegchagbfaaDoor.Vc
open Go Go.RowKit
end Go.Proofs.YtaogaegchagbfaaDoor.Vc

/- Contracts of whole.norm, fits, result, Add, Sub, Mul, Neg, Make, Abs: the answer is the caller's own. -/
namespace Go.Proofs.YtaogaegchagbfaaDoor.Vc
open Go Go.RowKit
end Go.Proofs.YtaogaegchagbfaaDoor.Vc

/- Contracts of the references' naturals: at, Cmp, Add, Sub, Mul. -/
namespace Go.Proofs.YtaogaegchagbfaaDoor.Vc
open Go Go.RowKit
set_option maxHeartbeats 4000000 in
theorem at_s (x i d : Nat) (hx : (digs B32 x).length < 1099511627776) (hi : x / B32 ^ i % B32 = d) : Spec Tryd.prog 81 [.n false .u64 (digs B32 x), .i .i64 (i : Int)] (fun o => o = .ret (.i .u64 (d : Int))) := by
  refine spec_of' [(0, .n false .u64 (digs B32 x)), (1, .i .i64 (i : Int))] rfl Tryd.func81 rfl (Nat.le_of_ble_eq_true rfl) fun Γ hN hds hL hR => ?_
  have hd : ∀ d, Nat.blt d 13 = true → d < Γ.N := fun d h => by rw [hN]; exact Nat.le_of_ble_eq_true h
  have hv := digs_at (b := B32) (by decide) i x
  have ht := rng_getD (b := B32) (by decide) (rng_digs (by decide) x) i
  refine jc_seq ?_; refine jc_region ?_; refine jo_l (ly_as rfl) (hd 4 rfl) ?_; refine jo_nil ?_; refine jc_seq ?_; refine jc_seq ?_; refine jc_region ?_; refine jo_l (ly_mv rfl) (hd 5 rfl) ?_; refine jo_l (ly_mv rfl) (hd 6 rfl) ?_; refine jo_l (ly_lenn sl33 rfl) (hd 7 rfl) ?_; refine jo_l (ly_lt rfl rfl) (hd 8 rfl) ?_; refine jo_nil ?_
  refine jc_if rfl (fun h1 => ?_) (fun h1 => ?_)
  · refine jc_seq ?_; refine jc_region ?_; refine jo_l (ly_mv rfl) (hd 9 rfl) ?_; refine jo_l (ly_mv rfl) (hd 10 rfl) ?_; refine jo_l (ly_ian (i := i) sl33 rfl rfl (by first | rfl | omega) (by omega)) (hd 11 rfl) ?_; refine jo_l (ly_ldq one82 rfl rfl) (hd 12 rfl) ?_; refine jo_l (ly_as rfl) (hd 4 rfl) ?_; refine jo_nil ?_; refine jc_ret ?_
    refine ⟨_, _, (.cons rfl .nil), .i, ?_⟩
    rw [hv, hi]
  · refine jc_skip ?_; refine jc_seq ?_; refine jc_region ?_; refine jo_l (ly_as rfl) (hd 4 rfl) ?_; refine jo_nil ?_; refine jc_ret ?_
    refine ⟨_, _, (.cons rfl .nil), .i, ?_⟩
    rw [← hi]
    have h0 : (digs B32 x).getD i 0 = 0 := getD_ge (by omega)
    rw [h0] at hv
    rw [← hv]

set_option maxHeartbeats 4000000 in
theorem rCmp_s (x y : Nat) (hx : (digs B32 x).length < 1099511627776) (hy : (digs B32 y).length < 1099511627776) : Spec Tryd.prog 85 [.n false .u64 (digs B32 x), .n false .u64 (digs B32 y)] (fun o => o = .ret (.i .i64 (cmpI x y))) := by
  refine spec_of' [(0, .n false .u64 (digs B32 x)), (1, .n false .u64 (digs B32 y))] rfl Tryd.func85 rfl (Nat.le_of_ble_eq_true rfl) fun Γ hN hds hL hR => ?_
  have hd : ∀ d, Nat.blt d 41 = true → d < Γ.N := fun d h => by rw [hN]; exact Nat.le_of_ble_eq_true h
  have hcm := cmpL_digs (b := B32) (by decide) x y
  unfold cmpL at hcm
  refine jc_seq ?_; refine jc_region ?_; refine jo_l (ly_as rfl) (hd 4 rfl) ?_; refine jo_nil ?_; refine jc_seq ?_; refine jc_seq ?_; refine jc_region ?_; refine jo_l (ly_mv rfl) (hd 6 rfl) ?_; refine jo_l (ly_lenn sl33 rfl) (hd 7 rfl) ?_; refine jo_l (ly_mv rfl) (hd 8 rfl) ?_; refine jo_l (ly_lenn sl33 rfl) (hd 9 rfl) ?_; refine jo_l (ly_ne rfl rfl) (hd 10 rfl) ?_; refine jo_nil ?_
  refine jc_if rfl (fun h1 => ?_) (fun h1 => ?_)
  · refine jc_seq ?_; refine jc_seq ?_; refine jc_region ?_; refine jo_l (ly_mv rfl) (hd 11 rfl) ?_; refine jo_l (ly_lenn sl33 rfl) (hd 12 rfl) ?_; refine jo_l (ly_mv rfl) (hd 13 rfl) ?_; refine jo_l (ly_lenn sl33 rfl) (hd 14 rfl) ?_; refine jo_l (ly_lt rfl rfl) (hd 15 rfl) ?_; refine jo_nil ?_
    refine jc_if rfl (fun h2 => ?_) (fun h2 => ?_)
    · refine jc_seq ?_; refine jc_region ?_; refine jo_l (ly_as rfl) (hd 4 rfl) ?_; refine jo_nil ?_; refine jc_ret ?_
      refine ⟨_, _, (.cons rfl .nil), .i, ?_⟩
      rw [← hcm, if_pos (by omega)]
    · refine jc_skip ?_; refine jc_seq ?_; refine jc_region ?_; refine jo_l (ly_as rfl) (hd 4 rfl) ?_; refine jo_nil ?_; refine jc_ret ?_
      refine ⟨_, _, (.cons rfl .nil), .i, ?_⟩
      rw [← hcm, if_neg (by omega), if_pos (by omega)]
  · refine jc_skip ?_; refine jc_seq ?_; refine jc_seq ?_; refine jc_region ?_; refine jo_l (ly_mv rfl) (hd 16 rfl) ?_; refine jo_l (ly_lenn sl33 rfl) (hd 17 rfl) ?_; refine jo_l (ly_sub rfl rfl (wrap_i64 (by omega) (by omega))) (hd 18 rfl) ?_; refine jo_l (ly_as rfl) (hd 5 rfl) ?_; refine jo_nil ?_; refine jc_block ?_
    refine jc_loopF (G := Nat) (fun k => k ≤ (digs B32 x).length ∧ cmpN (digs B32 x) (digs B32 y) k = cmpN (digs B32 x) (digs B32 y) (digs B32 x).length) (fun k => [(5, .i .i64 ((k : Int) - 1)), (4, .u), (19, .u), (20, .u), (21, .u), (22, .u), (23, .u), (24, .u), (25, .u), (26, .u), (27, .u), (28, .u), (29, .u), (30, .u), (31, .u), (32, .u), (33, .u), (34, .u), (35, .u), (36, .u), (37, .u), (38, .u), (39, .u), (40, .u)]) (fun _ => _) (fun k => k) (digs B32 x).length ?_ ?_ rfl ?_
    · exact ⟨Nat.le_refl _, rfl⟩
    · exact (.cons rfl (.u (.u (.u (.u (.u (.u (.u (.u (.u (.u (.u (.u (.u (.u (.u (.u (.u (.u (.u (.u (.u (.u (.u .nil))))))))))))))))))))))))
    · rintro k ⟨hc1, hc2⟩; refine jc_seq ?_; refine jc_seq ?_; refine jc_region ?_; refine jo_l (ly_mv rfl) (hd 19 rfl) ?_; refine jo_l (ly_ge rfl rfl) (hd 20 rfl) ?_; refine jo_nil ?_
      refine jc_if rfl (fun h3 => ?_) (fun h3 => ?_)
      · refine jc_skip ?_; refine jc_seq ?_; refine jc_block ?_; refine jc_seq ?_; refine jc_seq ?_; refine jc_draw (n := 9) _ rfl mixed ?_; refine ja_l2 0 [2, 3, 8] (lo_l (ly_mv rfl) (hd 23 rfl)) rfl (by kernel_rfl) (by kernel_rfl) (by kernel_rfl) (by kernel_rfl) (fun _ _ _ _ h => h) ?_; refine ja_l2 1 [2, 3, 8] (lo_l (ly_mv rfl) (hd 24 rfl)) rfl (by kernel_rfl) (by kernel_rfl) (by kernel_rfl) (by kernel_rfl) (fun _ _ _ _ h => h) ?_; refine ja_l2 2 [3, 8] (lo_l (ly_ian (i := k - 1) sl33 rfl rfl (by omega) (by omega)) (hd 25 rfl)) rfl (by kernel_rfl) (by kernel_rfl) (by kernel_rfl) (by kernel_rfl) (fun _ _ _ _ h => h) ?_; refine ja_l 3 (lo_l (ly_ldq one82 rfl rfl) (hd 26 rfl)) rfl (by kernel_rfl) (by kernel_rfl) (by kernel_rfl) (fun _ _ _ _ h => h) ?_; refine ja_l2 4 [6, 7, 8] (lo_l (ly_mv rfl) (hd 27 rfl)) rfl (by kernel_rfl) (by kernel_rfl) (by kernel_rfl) (by kernel_rfl) (fun _ _ _ _ h => h) ?_; refine ja_l2 5 [6, 7, 8] (lo_l (ly_mv rfl) (hd 28 rfl)) rfl (by kernel_rfl) (by kernel_rfl) (by kernel_rfl) (by kernel_rfl) (fun _ _ _ _ h => h) ?_; refine ja_l2 6 [7, 8] (lo_l (ly_ian (i := k - 1) sl33 rfl rfl (by omega) (by omega)) (hd 29 rfl)) rfl (by kernel_rfl) (by kernel_rfl) (by kernel_rfl) (by kernel_rfl) (fun _ _ _ _ h => h) ?_; refine ja_l 7 (lo_l (ly_ldq one82 rfl rfl) (hd 30 rfl)) rfl (by kernel_rfl) (by kernel_rfl) (by kernel_rfl) (fun _ _ _ _ h => h) ?_; refine ja_l 8 (lo_l (ly_lt rfl rfl) (hd 31 rfl)) rfl (by kernel_rfl) (by kernel_rfl) (by kernel_rfl) (fun _ _ _ _ h => h) ?_; refine ja_nil (by kernel_rfl) ?_
        refine jc_if rfl (fun h4 => ?_) (fun h4 => ?_)
        · refine jc_seq ?_; refine jc_region ?_; refine jo_l (ly_as rfl) (hd 4 rfl) ?_; refine jo_nil ?_; refine jc_ret ?_
          refine ⟨_, _, (.cons rfl .nil), .i, ?_⟩
          rw [← hcm, if_neg (by omega), if_neg (by omega), ← hc2, cmpN_lt (by omega) (by assumption)]
        · refine jc_skip ?_; refine jc_seq ?_; refine jc_draw (n := 9) _ rfl mixed ?_; refine ja_l2 0 [2, 3, 8] (lo_l (ly_mv rfl) (hd 32 rfl)) rfl (by kernel_rfl) (by kernel_rfl) (by kernel_rfl) (by kernel_rfl) (fun _ _ _ _ h => h) ?_; refine ja_l2 1 [2, 3, 8] (lo_l (ly_mv rfl) (hd 33 rfl)) rfl (by kernel_rfl) (by kernel_rfl) (by kernel_rfl) (by kernel_rfl) (fun _ _ _ _ h => h) ?_; refine ja_l2 2 [3, 8] (lo_l (ly_ian (i := k - 1) sl33 rfl rfl (by omega) (by omega)) (hd 34 rfl)) rfl (by kernel_rfl) (by kernel_rfl) (by kernel_rfl) (by kernel_rfl) (fun _ _ _ _ h => h) ?_; refine ja_l 3 (lo_l (ly_ldq one82 rfl rfl) (hd 35 rfl)) rfl (by kernel_rfl) (by kernel_rfl) (by kernel_rfl) (fun _ _ _ _ h => h) ?_; refine ja_l2 4 [6, 7, 8] (lo_l (ly_mv rfl) (hd 36 rfl)) rfl (by kernel_rfl) (by kernel_rfl) (by kernel_rfl) (by kernel_rfl) (fun _ _ _ _ h => h) ?_; refine ja_l2 5 [6, 7, 8] (lo_l (ly_mv rfl) (hd 37 rfl)) rfl (by kernel_rfl) (by kernel_rfl) (by kernel_rfl) (by kernel_rfl) (fun _ _ _ _ h => h) ?_; refine ja_l2 6 [7, 8] (lo_l (ly_ian (i := k - 1) sl33 rfl rfl (by omega) (by omega)) (hd 38 rfl)) rfl (by kernel_rfl) (by kernel_rfl) (by kernel_rfl) (by kernel_rfl) (fun _ _ _ _ h => h) ?_; refine ja_l 7 (lo_l (ly_ldq one82 rfl rfl) (hd 39 rfl)) rfl (by kernel_rfl) (by kernel_rfl) (by kernel_rfl) (fun _ _ _ _ h => h) ?_; refine ja_l 8 (lo_l (ly_gt rfl rfl) (hd 40 rfl)) rfl (by kernel_rfl) (by kernel_rfl) (by kernel_rfl) (fun _ _ _ _ h => h) ?_; refine ja_nil (by kernel_rfl) ?_
          refine jc_if rfl (fun h5 => ?_) (fun h5 => ?_)
          · refine jc_seq ?_; refine jc_region ?_; refine jo_l (ly_as rfl) (hd 4 rfl) ?_; refine jo_nil ?_; refine jc_ret ?_
            refine ⟨_, _, (.cons rfl .nil), .i, ?_⟩
            rw [← hcm, if_neg (by omega), if_neg (by omega), ← hc2, cmpN_gt (by omega) (by assumption)]
          · refine jc_skip ?_; refine jc_region ?_; refine jo_l (ly_mv rfl) (hd 21 rfl) ?_; refine jo_l (ly_sub rfl rfl (wrap_i64 (by omega) (by omega))) (hd 22 rfl) ?_; refine jo_l (ly_as rfl) (hd 5 rfl) ?_; refine jo_nil ?_
            refine ⟨k - 1, ?_, ?_, rfl, cov_n 47 rfl rfl ?_⟩
            · exact ⟨by omega, by rw [← hc2]; exact cmpN_eq (by omega) (by assumption) (by assumption)⟩
            · omega
            · exact (.cons (by show some (V.i .i64 _) = some (V.i .i64 _); congr 2; omega) (.u (.u (.u (.u (.u (.u (.u (.u (.u (.u (.u (.u (.u (.u (.u (.u (.u (.u (.u (.u (.u (.u (.u .nil))))))))))))))))))))))))
      · refine jc_exit ?_; refine jc_seq ?_; refine jc_region ?_; refine jo_l (ly_as rfl) (hd 4 rfl) ?_; refine jo_nil ?_; refine jc_ret ?_
        refine ⟨_, _, (.cons rfl .nil), .i, ?_⟩
        rw [← hcm, if_neg (by omega), if_neg (by omega), ← hc2]
        obtain rfl : k = 0 := by omega
        rfl

set_option maxHeartbeats 4000000 in
theorem rAdd_s (x y : Nat) (hx : (digs B32 x).length < 549755813888) (hy : (digs B32 y).length < 549755813888) : Spec Tryd.prog 84 [.n false .u64 (digs B32 x), .n false .u64 (digs B32 y)] (fun o => o = .ret (.n false .u64 (digs B32 (x + y)))) := by
  refine spec_of' [(0, .n false .u64 (digs B32 x)), (1, .n false .u64 (digs B32 y))] rfl Tryd.func84 rfl (Nat.le_of_ble_eq_true rfl) fun Γ hN hds hL hR => ?_
  have hd : ∀ d, Nat.blt d 44 = true → d < Γ.N := fun d h => by rw [hN]; exact Nat.le_of_ble_eq_true h
  refine jc_seq ?_; refine jc_region ?_; refine jo_l (ly_as rfl) (hd 4 rfl) ?_; refine jo_nil ?_; refine jc_seq ?_; refine jc_region ?_; refine jo_l (ly_mv rfl) (hd 10 rfl) ?_; refine jo_l (ly_lenn sl33 rfl) (hd 11 rfl) ?_; refine jo_l (ly_as rfl) (hd 5 rfl) ?_; refine jo_nil ?_
  refine jc_meetH (G := Nat) (fun n => n = max (digs B32 x).length (digs B32 y).length) (fun n => [(5, .i .i64 (n : Int)), (12, .u), (13, .u), (14, .u), (15, .u), (16, .u), (17, .u)]) ?_ ?_
  · refine jc_seq ?_; refine jc_region ?_; refine jo_l (ly_mv rfl) (hd 12 rfl) ?_; refine jo_l (ly_lenn sl33 rfl) (hd 13 rfl) ?_; refine jo_l (ly_mv rfl) (hd 14 rfl) ?_; refine jo_l (ly_gt rfl rfl) (hd 15 rfl) ?_; refine jo_nil ?_
    refine jc_if rfl (fun h1 => ?_) (fun h1 => ?_)
    · refine jc_region ?_; refine jo_l (ly_mv rfl) (hd 16 rfl) ?_; refine jo_l (ly_lenn sl33 rfl) (hd 17 rfl) ?_; refine jo_l (ly_as rfl) (hd 5 rfl) ?_; refine jo_nil ?_
      refine ⟨(digs B32 y).length, ?_, rfl, cov_n 7 rfl rfl ?_⟩
      · omega
      · exact (.cons rfl (.u (.u (.u (.u (.u (.u .nil)))))))
    · refine jc_skip ?_
      refine ⟨(digs B32 x).length, ?_, rfl, cov_n 4 rfl rfl ?_⟩
      · omega
      · exact (.cons rfl (.u (.u (.u (.u (.u (.u .nil)))))))
  · rintro n hn; refine jc_seq ?_; refine jc_region ?_; refine jo_l (ly_mv rfl) (hd 18 rfl) ?_; refine jo_l (ly_add rfl rfl (r := ((n + 1 : Nat) : Int)) (by rw [wrap_i64 (by omega) (by omega)]; omega)) (hd 19 rfl) ?_; refine jo_h (hy_mk (m := n + 1) el33 rfl rfl rfl (by show 8 * (n + 1) ≤ _; omega) (by unfold maxLen; omega) rfl) (hd 20 rfl) ?_; refine jo_l (ly_as rfl) (hd 6 rfl) ?_; refine jo_nil ?_; refine jc_seq ?_; refine jc_H (H' := [⟨76, 1, 0, true, ints .u64 (fillI (dvl (x + y) 0) (n + 1))⟩]) (by rw [← dvl_start]; rfl) ?_; refine jc_region ?_; refine jo_l (ly_as rfl) (hd 7 rfl) ?_; refine jo_nil ?_; refine jc_seq ?_; refine jc_seq ?_; refine jc_region ?_; refine jo_l (ly_as rfl) (hd 8 rfl) ?_; refine jo_nil ?_; refine jc_block ?_
    refine jc_loopF (G := Nat) (fun i => i ≤ n + 1) (fun i => [(7, .i .u64 (cry x y i : Int)), (8, .i .i64 (i : Int)), (9, .u), (21, .u), (22, .u), (23, .u), (24, .u), (25, .u), (26, .u), (27, .u), (28, .u), (29, .u), (30, .u), (31, .u), (32, .u), (33, .u), (34, .u), (35, .u), (36, .u), (37, .u), (38, .u), (39, .u), (40, .u), (41, .u)]) (fun i => [⟨76, 1, 0, true, ints .u64 (fillI (dvl (x + y) i) (n + 1))⟩]) (fun i => n + 1 - i) 0 ?_ ?_ rfl ?_
    · exact Nat.zero_le _
    · exact (.cons (by show some (V.i .u64 _) = some (V.i .u64 _); rw [cry_0]; rfl) (.cons rfl (.u (.u (.u (.u (.u (.u (.u (.u (.u (.u (.u (.u (.u (.u (.u (.u (.u (.u (.u (.u (.u (.u .nil))))))))))))))))))))))))
    · rintro i hc1
      have hfl := fill_len (z := x + y) hc1
      have hcl := cry_le x y i
      have had := add_digit x y i
      obtain ⟨dx, hdx⟩ : ∃ q, x / B32 ^ i % B32 = q := ⟨_, rfl⟩
      obtain ⟨dy, hdy⟩ : ∃ q, y / B32 ^ i % B32 = q := ⟨_, rfl⟩
      have hb1 : x / B32 ^ i % B32 < 4294967296 := Nat.mod_lt _ (by decide)
      have hb2 : y / B32 ^ i % B32 < 4294967296 := Nat.mod_lt _ (by decide)
      rw [hdx] at hb1
      rw [hdy] at hb2
      rw [hdx, hdy] at had
      have hv1 : (dx + dy + cry x y i) % 4294967296 = (x + y) / B32 ^ i % B32 := had.1
      have hv2 : (dx + dy + cry x y i) / 4294967296 = cry x y (i + 1) := had.2
      refine jc_seq ?_; refine jc_seq ?_; refine jc_region ?_; refine jo_l (ly_mv rfl) (hd 21 rfl) ?_; refine jo_l (ly_mv rfl) (hd 22 rfl) ?_; refine jo_l (ly_le rfl rfl) (hd 23 rfl) ?_; refine jo_nil ?_
      refine jc_if rfl (fun h2 => ?_) (fun h2 => ?_)
      · refine jc_skip ?_; refine jc_seq ?_; refine jc_block ?_; refine jc_seq ?_; refine jc_region ?_; refine jo_l (ly_mv rfl) (hd 26 rfl) ?_; refine jo_l (ly_mv rfl) (hd 27 rfl) ?_
        refine jo_call Tryd.f81 (at_s x i dx (by omega) hdx) rfl Tryd.func81 rfl rfl (ovL_cons rfl (ovL_cons rfl ovL_nil)) (.cons .n (.cons .i .nil)) (hd 28 rfl) ?_ (fun ch hp => by simp at hp)
        rintro y hy; injection hy with hy; subst hy; refine jo_l (ly_mv rfl) (hd 29 rfl) ?_; refine jo_l (ly_mv rfl) (hd 30 rfl) ?_
        refine jo_call Tryd.f81 (at_s y i dy (by omega) hdy) rfl Tryd.func81 rfl rfl (ovL_cons rfl (ovL_cons rfl ovL_nil)) (.cons .n (.cons .i .nil)) (hd 31 rfl) ?_ (fun ch hp => by simp at hp)
        rintro y hy; injection hy with hy; subst hy; refine jo_l (ly_add rfl rfl (r := ((dx + dy : Nat) : Int)) (by rw [wrap_u64 (by omega) (by omega)]; omega)) (hd 32 rfl) ?_; refine jo_l (ly_mv rfl) (hd 33 rfl) ?_; refine jo_l (ly_add rfl rfl (r := ((dx + dy + cry x y i : Nat) : Int)) (by rw [wrap_u64 (by omega) (by omega)]; omega)) (hd 34 rfl) ?_; refine jo_l (ly_as rfl) (hd 9 rfl) ?_; refine jo_nil ?_; refine jc_seq ?_; refine jc_region ?_; refine jo_l (ly_mv rfl) (hd 35 rfl) ?_; refine jo_l (ly_mv rfl) (hd 36 rfl) ?_; refine jo_l (ly_mv rfl) (hd 37 rfl) ?_; refine jo_l (ly_is (ly_rem rfl rfl (by decide) rfl) (show V.i .u64 (((dx + dy + cry x y i : Nat) : Int).tmod 4294967296) = V.i .u64 (dgt (x + y) i) by rw [show (((dx + dy + cry x y i : Nat) : Int).tmod 4294967296) = (((dx + dy + cry x y i) % 4294967296 : Nat) : Int) from rfl, hv1]; rfl)) (hd 38 rfl) ?_; refine jo_l (ly_ia (i := i) sl33 rfl rfl rfl (by first | rfl | omega) (by first | omega | (dsimp only; omega)) rfl) (hd 39 rfl) ?_; refine jo_st (sy_storei rfl rfl rfl one82 (by first | omega | (dsimp only; omega))) ?_; refine jo_nil ?_; refine jc_region ?_; refine jo_l (ly_mv rfl) (hd 40 rfl) ?_; refine jo_l (ly_quo rfl rfl (by decide) (r := ((cry x y (i + 1) : Nat) : Int)) (by rw [show (((dx + dy + cry x y i : Nat) : Int).tdiv 4294967296) = (((dx + dy + cry x y i) / 4294967296 : Nat) : Int) from rfl, hv2]; have := cry_le x y (i + 1); rw [wrap_u64 (by omega) (by omega)])) (hd 41 rfl) ?_; refine jo_l (ly_as rfl) (hd 7 rfl) ?_; refine jo_nil ?_; refine jc_region ?_; refine jo_l (ly_mv rfl) (hd 24 rfl) ?_; refine jo_l (ly_add rfl rfl (wrap_i64 (by first | omega | (dsimp only; omega)) (by first | omega | (dsimp only; omega)))) (hd 25 rfl) ?_; refine jo_l (ly_as rfl) (hd 8 rfl) ?_; refine jo_nil ?_
        refine ⟨i + 1, ?_, ?_, (by show [(⟨76, 1, 0, true, ints .u64 _⟩ : Ob)] = [⟨76, 1, 0, true, ints .u64 _⟩]; rw [fill_dvl (by omega)]), cov_n 48 rfl rfl ?_⟩
        · omega
        · omega
        · exact (.cons rfl (.cons rfl (.u (.u (.u (.u (.u (.u (.u (.u (.u (.u (.u (.u (.u (.u (.u (.u (.u (.u (.u (.u (.u (.u .nil))))))))))))))))))))))))
      · refine jc_exit ?_; refine jc_seq ?_
        obtain rfl : i = n + 1 := by omega
        refine jc_frz (k := .u64) (l' := dvl (x + y) (n + 1)) 6 rfl rfl (by rw [fill_all, dvl_len]; omega) (by rw [fill_all, List.drop_zero, List.take_of_length_le (by rw [dvl_len]; omega)]) hL ?_; refine jc_region ?_; refine jo_l (ly_mv rfl) (hd 42 rfl) ?_
        refine jo_call Tryd.f82 (rnorm_s (dvl (x + y) (n + 1)) (by rw [dvl_len]; omega)) rfl Tryd.func82 rfl rfl (ovL_cons rfl ovL_nil) (.cons .n .nil) (hd 43 rfl) ?_ (fun ch hp => by simp at hp)
        rintro y hy; injection hy with hy; subst hy; refine jo_l (ly_as rfl) (hd 4 rfl) ?_; refine jo_nil ?_; refine jc_ret ?_
        refine ⟨_, _, (.cons rfl .nil), .n, ?_⟩
        rw [trm_dvl (sum_lt (by omega) (by omega))]

set_option maxHeartbeats 4000000 in
theorem rSub_s (x y : Nat) (hle : y ≤ x) (hx : (digs B32 x).length < 1099511627776) (hy : (digs B32 y).length < 1099511627776) : Spec Tryd.prog 46 [.n false .u64 (digs B32 x), .n false .u64 (digs B32 y)] (fun o => o = .ret (.n false .u64 (digs B32 (x - y)))) := by
  refine spec_of' [(0, .n false .u64 (digs B32 x)), (1, .n false .u64 (digs B32 y))] rfl Tryd.func46 rfl (Nat.le_of_ble_eq_true rfl) fun Γ hN hds hL hR => ?_
  have hd : ∀ d, Nat.blt d 39 = true → d < Γ.N := fun d h => by rw [hN]; exact Nat.le_of_ble_eq_true h
  refine jc_seq ?_; refine jc_region ?_; refine jo_l (ly_as rfl) (hd 4 rfl) ?_; refine jo_nil ?_; refine jc_seq ?_; refine jc_region ?_; refine jo_l (ly_mv rfl) (hd 9 rfl) ?_; refine jo_l (ly_lenn sl33 rfl) (hd 10 rfl) ?_; refine jo_h (hy_mk (m := (digs B32 x).length) el33 rfl rfl rfl (by show 8 * (digs B32 x).length ≤ _; omega) (by unfold maxLen; omega) rfl) (hd 11 rfl) ?_; refine jo_l (ly_as rfl) (hd 5 rfl) ?_; refine jo_nil ?_; refine jc_seq ?_; refine jc_H (H' := [⟨76, 1, 0, true, ints .u64 (fillI (dvl (x - y) 0) (digs B32 x).length)⟩]) (by rw [← dvl_start]; rfl) ?_; refine jc_region ?_; refine jo_l (ly_as rfl) (hd 6 rfl) ?_; refine jo_nil ?_; refine jc_seq ?_; refine jc_seq ?_; refine jc_region ?_; refine jo_l (ly_mv rfl) (hd 12 rfl) ?_; refine jo_l (ly_lenn sl33 rfl) (hd 13 rfl) ?_; refine jo_l (ly_mv rfl) (hd 14 rfl) ?_; refine jo_nil ?_; refine jc_block ?_
  refine jc_loopF (G := Nat) (fun i => i ≤ (digs B32 x).length) (fun i => [(6, .i .u64 (brw x y i : Int)), (14, .i .i64 (i : Int)), (7, .u), (8, .u), (15, .u), (16, .u), (17, .u), (18, .u), (19, .u), (20, .u), (21, .u), (22, .u), (23, .u), (24, .u), (25, .u), (26, .u), (27, .u), (28, .u), (29, .u), (30, .u), (31, .u), (32, .u), (33, .u), (34, .u), (35, .u), (36, .u)]) (fun i => [⟨76, 1, 0, true, ints .u64 (fillI (dvl (x - y) i) ((digs B32 x).length))⟩]) (fun i => (digs B32 x).length - i) 0 ?_ ?_ rfl ?_
  · exact Nat.zero_le _
  · exact (.cons (by show some (V.i .u64 _) = some (V.i .u64 _); rw [brw_0]; rfl) (.cons rfl (.u (.u (.u (.u (.u (.u (.u (.u (.u (.u (.u (.u (.u (.u (.u (.u (.u (.u (.u (.u (.u (.u (.u (.u .nil))))))))))))))))))))))))))
  · rintro i hc1
    have hfl := fill_len (z := x - y) hc1
    have hcl := brw_le x y i
    have had := sub_digit hle i
    have hvx := digs_at (b := B32) (by decide) i x
    obtain ⟨dx, hdx⟩ : ∃ q, x / B32 ^ i % B32 = q := ⟨_, rfl⟩
    obtain ⟨dy, hdy⟩ : ∃ q, y / B32 ^ i % B32 = q := ⟨_, rfl⟩
    have hb1 : x / B32 ^ i % B32 < 4294967296 := Nat.mod_lt _ (by decide)
    have hb2 : y / B32 ^ i % B32 < 4294967296 := Nat.mod_lt _ (by decide)
    rw [hdx] at hb1
    rw [hdy] at hb2
    rw [hdx, hdy] at had
    rw [hdx] at hvx
    have hv1 : (dx + 4294967296 - dy - brw x y i) % 4294967296 = (x - y) / B32 ^ i % B32 := had.1
    have hv2 : 1 - (dx + 4294967296 - dy - brw x y i) / 4294967296 = brw x y (i + 1) := had.2
    refine jc_seq ?_; refine jc_region ?_; refine jo_l (ly_lt rfl rfl) (hd 15 rfl) ?_; refine jo_nil ?_; refine jc_seq ?_
    refine jc_if rfl (fun h1 => ?_) (fun h1 => ?_)
    · refine jc_skip ?_; refine jc_seq ?_; refine jc_block ?_; refine jc_seq ?_; refine jc_region ?_; refine jo_l (ly_mv rfl) (hd 16 rfl) ?_; refine jo_l (ly_as rfl) (hd 7 rfl) ?_; refine jo_nil ?_; refine jc_seq ?_; refine jc_draw (n := 12) _ rfl mixed ?_; refine ja_l2 0 [2, 3, 4, 8, 10, 11] (lo_l (ly_mv rfl) (hd 17 rfl)) rfl (by kernel_rfl) (by kernel_rfl) (by kernel_rfl) (by kernel_rfl) (fun _ _ _ _ h => h) ?_; refine ja_l2 1 [2, 3, 4, 8, 10, 11] (lo_l (ly_mv rfl) (hd 18 rfl)) rfl (by kernel_rfl) (by kernel_rfl) (by kernel_rfl) (by kernel_rfl) (fun _ _ _ _ h => h) ?_; refine ja_l2 2 [3, 4, 8, 10, 11] (lo_l (ly_ian (i := i) sl33 rfl rfl (by first | rfl | omega) (by omega)) (hd 19 rfl)) rfl (by kernel_rfl) (by kernel_rfl) (by kernel_rfl) (by kernel_rfl) (fun _ _ _ _ h => h) ?_; refine ja_l2 3 [4, 8, 10, 11] (lo_l (ly_is (ly_ldq one82 rfl rfl) (by exact congrArg (V.i .u64) hvx)) (hd 20 rfl)) rfl (by kernel_rfl) (by kernel_rfl) (by kernel_rfl) (by kernel_rfl) (fun _ _ _ _ h => h) ?_; refine ja_l2 4 [8, 10, 11] (lo_l (ly_add rfl rfl (r := ((dx + 4294967296 : Nat) : Int)) (by rw [wrap_u64 (by omega) (by omega)]; omega)) (hd 21 rfl)) rfl (by kernel_rfl) (by kernel_rfl) (by kernel_rfl) (by kernel_rfl) (fun _ _ _ _ h => h) ?_; refine ja_l2 5 [7, 8, 10, 11] (lo_l (ly_mv rfl) (hd 22 rfl)) rfl (by kernel_rfl) (by kernel_rfl) (by kernel_rfl) (by kernel_rfl) (fun _ _ _ _ h => h) ?_; refine ja_l2 6 [7, 8, 10, 11] (lo_l (ly_mv rfl) (hd 23 rfl)) rfl (by kernel_rfl) (by kernel_rfl) (by kernel_rfl) (by kernel_rfl) (fun _ _ _ _ h => h) ?_; refine ja_l 9 (lo_l (ly_mv rfl) (hd 26 rfl)) rfl (by kernel_rfl) (by kernel_rfl) (by kernel_rfl) (fun _ _ _ _ h => h) ?_
      refine ja_1 7 ?_ rfl (by kernel_rfl)
      refine js_call Tryd.f81 (at_s y i dy hy hdy) rfl Tryd.func81 rfl rfl (ovL_cons rfl (ovL_cons rfl ovL_nil)) (.cons .n (.cons .i .nil)) (hd 24 rfl) ?_ (fun ch hp => by simp at hp)
      rintro y hy; injection hy with hy; subst hy; refine ja_l 8 (lo_l (ly_sub rfl rfl (r := ((dx + 4294967296 - dy : Nat) : Int)) (by rw [wrap_u64 (by omega) (by omega)]; omega)) (hd 25 rfl)) rfl (by kernel_rfl) (by kernel_rfl) (by kernel_rfl) (fun _ _ _ _ h => h) ?_; refine ja_l 10 (lo_l (ly_sub rfl rfl (r := ((dx + 4294967296 - dy - brw x y i : Nat) : Int)) (by rw [wrap_u64 (by omega) (by omega)]; omega)) (hd 27 rfl)) rfl (by kernel_rfl) (by kernel_rfl) (by kernel_rfl) (fun _ _ _ _ h => h) ?_; refine ja_l 11 (lo_l (ly_as rfl) (hd 8 rfl)) rfl (by kernel_rfl) (by kernel_rfl) (by kernel_rfl) (fun _ _ _ _ h => h) ?_; refine ja_nil (by kernel_rfl) ?_; refine jc_seq ?_; refine jc_region ?_; refine jo_l (ly_mv rfl) (hd 28 rfl) ?_; refine jo_l (ly_mv rfl) (hd 29 rfl) ?_; refine jo_l (ly_mv rfl) (hd 30 rfl) ?_; refine jo_l (ly_is (ly_rem rfl rfl (by decide) rfl) (show V.i .u64 (((dx + 4294967296 - dy - brw x y i : Nat) : Int).tmod 4294967296) = V.i .u64 (dgt (x - y) i) by rw [show (((dx + 4294967296 - dy - brw x y i : Nat) : Int).tmod 4294967296) = (((dx + 4294967296 - dy - brw x y i) % 4294967296 : Nat) : Int) from rfl, hv1]; rfl)) (hd 31 rfl) ?_; refine jo_l (ly_ia (i := i) sl33 rfl rfl rfl (by first | rfl | omega) (by first | omega | (dsimp only; omega)) rfl) (hd 32 rfl) ?_; refine jo_st (sy_storei rfl rfl rfl one82 (by first | omega | (dsimp only; omega))) ?_; refine jo_nil ?_; refine jc_region ?_; refine jo_l (ly_mv rfl) (hd 33 rfl) ?_; refine jo_l (ly_quo rfl rfl (by decide) (r := (((dx + 4294967296 - dy - brw x y i) / 4294967296 : Nat) : Int)) (by rw [show (((dx + 4294967296 - dy - brw x y i : Nat) : Int).tdiv 4294967296) = (((dx + 4294967296 - dy - brw x y i) / 4294967296 : Nat) : Int) from rfl, wrap_u64 (by omega) (by omega)])) (hd 34 rfl) ?_; refine jo_l (ly_sub rfl rfl (r := ((brw x y (i + 1) : Nat) : Int)) (by rw [← hv2]; rw [wrap_u64 (by omega) (by omega)]; omega)) (hd 35 rfl) ?_; refine jo_l (ly_as rfl) (hd 6 rfl) ?_; refine jo_nil ?_; refine jc_region ?_; refine jo_l (ly_add rfl rfl (wrap_i64 (by first | omega | (dsimp only; omega)) (by first | omega | (dsimp only; omega)))) (hd 36 rfl) ?_; refine jo_l (ly_mv rfl) (hd 14 rfl) ?_; refine jo_nil ?_
      refine ⟨i + 1, ?_, ?_, (by show [(⟨76, 1, 0, true, ints .u64 _⟩ : Ob)] = [⟨76, 1, 0, true, ints .u64 _⟩]; rw [fill_dvl (by omega)]), cov_n 52 rfl rfl ?_⟩
      · omega
      · omega
      · exact (.cons rfl (.cons rfl (.u (.u (.u (.u (.u (.u (.u (.u (.u (.u (.u (.u (.u (.u (.u (.u (.u (.u (.u (.u (.u (.u (.u (.u .nil))))))))))))))))))))))))))
    · refine jc_exit ?_; refine jc_seq ?_
      obtain rfl : i = (digs B32 x).length := by omega
      refine jc_frz (k := .u64) (l' := dvl (x - y) (digs B32 x).length) 5 rfl rfl (by rw [fill_all, dvl_len]; omega) (by rw [fill_all, List.drop_zero, List.take_of_length_le (by rw [dvl_len]; omega)]) hL ?_; refine jc_region ?_; refine jo_l (ly_mv rfl) (hd 37 rfl) ?_
      refine jo_call Tryd.f82 (rnorm_s (dvl (x - y) (digs B32 x).length) (by rw [dvl_len]; omega)) rfl Tryd.func82 rfl rfl (ovL_cons rfl ovL_nil) (.cons .n .nil) (hd 38 rfl) ?_ (fun ch hp => by simp at hp)
      rintro y hy; injection hy with hy; subst hy; refine jo_l (ly_as rfl) (hd 4 rfl) ?_; refine jo_nil ?_; refine jc_ret ?_
      refine ⟨_, _, (.cons rfl .nil), .n, ?_⟩
      rw [trm_dvl dif_lt]

set_option maxHeartbeats 4000000 in
theorem rMul_r (a b : List Int) (hla : a.length < 549755813888) (hlb : b.length < 549755813888) (ra : rng B32 a) (rb : rng B32 b) : Spec Tryd.prog 112 [.n false .u64 a, .n false .u64 b] (fun o => ∃ r, o = .ret (.n false .u64 (trm r)) ∧ rng B32 r ∧ vb B32 r = vb B32 a * vb B32 b) := by
  refine spec_of' [(0, .n false .u64 a), (1, .n false .u64 b)] rfl Tryd.func112 rfl (Nat.le_of_ble_eq_true rfl) fun Γ hN hds hL hR => ?_
  have hd : ∀ d, Nat.blt d 65 = true → d < Γ.N := fun d h => by rw [hN]; exact Nat.le_of_ble_eq_true h
  have hB : B32 = 4294967296 := rfl
  refine jc_seq ?_; refine jc_region ?_; refine jo_l (ly_as rfl) (hd 4 rfl) ?_; refine jo_nil ?_; refine jc_seq ?_; refine jc_region ?_; refine jo_l (ly_mv rfl) (hd 12 rfl) ?_; refine jo_l (ly_lenn sl33 rfl) (hd 13 rfl) ?_; refine jo_l (ly_mv rfl) (hd 14 rfl) ?_; refine jo_l (ly_lenn sl33 rfl) (hd 15 rfl) ?_; refine jo_l (ly_add rfl rfl (r := ((a.length + b.length : Nat) : Int)) (by rw [wrap_i64 (by omega) (by omega)]; omega)) (hd 16 rfl) ?_; refine jo_l (ly_add rfl rfl (r := ((a.length + b.length + 1 : Nat) : Int)) (by rw [wrap_i64 (by omega) (by omega)]; omega)) (hd 17 rfl) ?_; refine jo_h (hy_mk (m := a.length + b.length + 1) el33 rfl rfl rfl (by show 8 * (a.length + b.length + 1) ≤ _; omega) (by unfold maxLen; omega) rfl) (hd 18 rfl) ?_; refine jo_l (ly_as rfl) (hd 5 rfl) ?_; refine jo_nil ?_; refine jc_seq ?_; refine jc_seq ?_; refine jc_region ?_; refine jo_l (ly_mv rfl) (hd 19 rfl) ?_; refine jo_l (ly_lenn sl33 rfl) (hd 20 rfl) ?_; refine jo_l (ly_mv rfl) (hd 21 rfl) ?_; refine jo_nil ?_; refine jc_block ?_
  refine jc_loopF (G := Nat × List Int) (fun g => g.1 ≤ a.length ∧ g.2.length = a.length + b.length + 1 ∧ rng B32 g.2 ∧ D.vl g.2 = D.vk a g.1 * D.vl b ∧ ∀ j, g.1 + b.length ≤ j → g.2.getD j 0 = 0) (fun g => [(21, .i .i64 (g.1 : Int)), (6, .u), (7, .u), (8, .u), (9, .u), (10, .u), (11, .u), (22, .u), (23, .u), (24, .u), (25, .u), (26, .u), (27, .u), (28, .u), (29, .u), (30, .u), (31, .u), (32, .u), (33, .u), (34, .u), (35, .u), (36, .u), (37, .u), (38, .u), (39, .u), (40, .u), (41, .u), (42, .u), (43, .u), (44, .u), (45, .u), (46, .u), (47, .u), (48, .u), (49, .u), (50, .u), (51, .u), (52, .u), (53, .u), (54, .u), (55, .u), (56, .u), (57, .u), (58, .u), (59, .u), (60, .u), (61, .u), (62, .u)]) (fun g => [⟨76, 1, 0, true, ints .u64 g.2⟩]) (fun g => a.length - g.1) (0, List.replicate (a.length + b.length + 1) 0) ?_ ?_ rfl ?_
  · exact ⟨Nat.zero_le _, List.length_replicate, fun x hx => by rw [List.eq_of_mem_replicate hx]; exact ⟨Int.le_refl 0, by decide⟩, by show D.vl (List.replicate (a.length + b.length + 1) 0) = D.vk a 0 * _; rw [D.vk_0, Int.zero_mul, ← vb_D]; have h9 := vb_app 4294967296 [] (a.length + b.length + 1); rw [List.nil_append] at h9; exact h9, fun j _ => getD_zeros _ j⟩
  · exact (.cons rfl (.u (.u (.u (.u (.u (.u (.u (.u (.u (.u (.u (.u (.u (.u (.u (.u (.u (.u (.u (.u (.u (.u (.u (.u (.u (.u (.u (.u (.u (.u (.u (.u (.u (.u (.u (.u (.u (.u (.u (.u (.u (.u (.u (.u (.u (.u (.u .nil))))))))))))))))))))))))))))))))))))))))))))))))
  · rintro ⟨i, r⟩ ⟨hc1, hc2, hc3, hc4, hc5⟩
    dsimp only at hc1 hc2 hc3 hc4 hc5 ⊢
    have hX : 0 ≤ a.getD i 0 ∧ a.getD i 0 < 4294967296 := rng_getD (by decide) ra i
    refine jc_seq ?_; refine jc_region ?_; refine jo_l (ly_lt rfl rfl) (hd 22 rfl) ?_; refine jo_nil ?_; refine jc_seq ?_
    refine jc_if rfl (fun h1 => ?_) (fun h1 => ?_)
    · refine jc_skip ?_; refine jc_seq ?_; refine jc_block ?_; refine jc_seq ?_; refine jc_region ?_; refine jo_l (ly_mv rfl) (hd 23 rfl) ?_; refine jo_l (ly_ian (i := i) sl33 rfl rfl (by first | rfl | omega) (by first | omega | (dsimp only; omega))) (hd 24 rfl) ?_; refine jo_l (ly_ldq one82 rfl rfl) (hd 25 rfl) ?_; refine jo_l (ly_as rfl) (hd 6 rfl) ?_; refine jo_l (ly_as rfl) (hd 7 rfl) ?_; refine jo_nil ?_; refine jc_seq ?_; refine jc_region ?_; refine jo_l (ly_as rfl) (hd 8 rfl) ?_; refine jo_nil ?_; refine jc_seq ?_; refine jc_seq ?_; refine jc_region ?_; refine jo_l (ly_mv rfl) (hd 26 rfl) ?_; refine jo_l (ly_lenn sl33 rfl) (hd 27 rfl) ?_; refine jo_l (ly_mv rfl) (hd 28 rfl) ?_; refine jo_nil ?_; refine jc_block ?_
      refine jc_loopF (G := Nat × List Int × Int) (fun g => g.1 ≤ b.length ∧ g.2.1.length = a.length + b.length + 1 ∧ rng B32 g.2.1 ∧ (0 ≤ g.2.2 ∧ g.2.2 < 4294967296) ∧ D.vl g.2.1 + g.2.2 * D.pB (i + g.1) = D.vl r + a.getD i 0 * D.pB i * D.vk b g.1 ∧ ∀ j, i + b.length ≤ j → g.2.1.getD j 0 = 0) (fun g => [(8, .i .u64 g.2.2), (28, .i .i64 (g.1 : Int)), (9, .u), (10, .u), (11, .u), (29, .u), (30, .u), (31, .u), (32, .u), (33, .u), (34, .u), (35, .u), (36, .u), (37, .u), (38, .u), (39, .u), (40, .u), (41, .u), (42, .u), (43, .u), (44, .u), (45, .u), (46, .u), (47, .u), (48, .u), (49, .u), (50, .u), (51, .u), (52, .u), (53, .u), (54, .u)]) (fun g => [⟨76, 1, 0, true, ints .u64 g.2.1⟩]) (fun g => b.length - g.1) (0, r, 0) ?_ ?_ rfl ?_
      · exact ⟨Nat.zero_le _, hc2, hc3, ⟨Int.le_refl 0, by show (0 : Int) < _; decide⟩, by show D.vl r + 0 * _ = _ + _ * D.vk b 0; rw [D.vk_0, Int.mul_zero, Int.zero_mul], hc5⟩
      · exact (.cons rfl (.cons rfl (.u (.u (.u (.u (.u (.u (.u (.u (.u (.u (.u (.u (.u (.u (.u (.u (.u (.u (.u (.u (.u (.u (.u (.u (.u (.u (.u (.u (.u .nil)))))))))))))))))))))))))))))))
      · rintro ⟨k, q, c⟩ ⟨hd1, hd2, hd3, hd4, hd5, hd6⟩
        dsimp only at hd1 hd2 hd3 hd4 hd5 hd6
        have hY : 0 ≤ b.getD k 0 ∧ b.getD k 0 < 4294967296 := rng_getD (by decide) rb k
        have hT : 0 ≤ q.getD (i + k) 0 ∧ q.getD (i + k) 0 < 4294967296 := rng_getD (by decide) hd3 (i + k)
        have hP := mul_bd (m := 4294967295) hX.1 hY.1 (by omega) (by omega)
        have hP2 : (a.getD i 0 * b.getD k 0) ≤ 18446744065119617025 := by have := hP.2; simpa using this
        have hP1 := hP.1
        refine jc_seq ?_; refine jc_region ?_; refine jo_l (ly_lt rfl rfl) (hd 29 rfl) ?_; refine jo_nil ?_; refine jc_seq ?_
        refine jc_if rfl (fun h2 => ?_) (fun h2 => ?_)
        · refine jc_skip ?_; refine jc_seq ?_; refine jc_block ?_; refine jc_seq ?_; refine jc_region ?_; refine jo_l (ly_mv rfl) (hd 30 rfl) ?_; refine jo_l (ly_ian (i := k) sl33 rfl rfl (by first | rfl | omega) (by first | omega | (dsimp only; omega))) (hd 31 rfl) ?_; refine jo_l (ly_ldq one82 rfl rfl) (hd 32 rfl) ?_; refine jo_l (ly_as rfl) (hd 9 rfl) ?_; refine jo_l (ly_as rfl) (hd 10 rfl) ?_; refine jo_nil ?_; refine jc_seq ?_; refine jc_region ?_; refine jo_l (ly_mv rfl) (hd 33 rfl) ?_; refine jo_l (ly_mv rfl) (hd 34 rfl) ?_; refine jo_l (ly_mul rfl rfl (r := (a.getD i 0 * b.getD k 0)) (by rw [wrap_u64 (by omega) (by omega)])) (hd 35 rfl) ?_; refine jo_l (ly_mv rfl) (hd 36 rfl) ?_; refine jo_l (ly_mv rfl) (hd 37 rfl) ?_; refine jo_l (ly_mv rfl) (hd 38 rfl) ?_; refine jo_l (ly_add rfl rfl (r := ((i + k : Nat) : Int)) (by rw [wrap_i64 (by omega) (by omega)]; omega)) (hd 39 rfl) ?_; refine jo_l (ly_ia (i := i + k) sl33 rfl rfl rfl (by first | rfl | omega) (by first | omega | (dsimp only; omega)) rfl) (hd 40 rfl) ?_; refine jo_l (ly_is (ly_ldi one82 rfl rfl (by dsimp only; omega)) (show V.i .u64 (q.getD ((0 + (i + k)) * 1) 0) = V.i .u64 (q.getD (i + k) 0) by rw [Nat.zero_add, Nat.mul_one])) (hd 41 rfl) ?_; refine jo_l (ly_add rfl rfl (r := (a.getD i 0 * b.getD k 0) + q.getD (i + k) 0) (by rw [wrap_u64 (by omega) (by omega)])) (hd 42 rfl) ?_; refine jo_l (ly_mv rfl) (hd 43 rfl) ?_; refine jo_l (ly_add rfl rfl (r := ((a.getD i 0 * b.getD k 0) + q.getD (i + k) 0 + c)) (by rw [wrap_u64 (by dsimp only; omega) (by dsimp only; omega)])) (hd 44 rfl) ?_; refine jo_l (ly_as rfl) (hd 11 rfl) ?_; refine jo_nil ?_; refine jc_seq ?_; refine jc_region ?_; refine jo_l (ly_mv rfl) (hd 45 rfl) ?_; refine jo_l (ly_mv rfl) (hd 46 rfl) ?_; refine jo_l (ly_mv rfl) (hd 47 rfl) ?_; refine jo_l (ly_add rfl rfl (r := ((i + k : Nat) : Int)) (by rw [wrap_i64 (by omega) (by omega)]; omega)) (hd 48 rfl) ?_; refine jo_l (ly_mv rfl) (hd 49 rfl) ?_; refine jo_l (ly_is (ly_rem rfl rfl (by decide) rfl) (congrArg (V.i .u64) (Int.tmod_eq_emod_of_nonneg (by omega)))) (hd 50 rfl) ?_; refine jo_l (ly_ia (i := i + k) sl33 rfl rfl rfl (by first | rfl | omega) (by first | omega | (dsimp only; omega)) rfl) (hd 51 rfl) ?_; refine jo_st (sy_storei rfl rfl rfl one82 (by dsimp only; omega)) ?_; refine jo_nil ?_; refine jc_region ?_; refine jo_l (ly_mv rfl) (hd 52 rfl) ?_; refine jo_l (ly_quo rfl rfl (by decide) (r := ((a.getD i 0 * b.getD k 0) + q.getD (i + k) 0 + c) / 4294967296) (by rw [Int.tdiv_eq_ediv_of_nonneg (by omega), wrap_u64 (by omega) (by omega)])) (hd 53 rfl) ?_; refine jo_l (ly_as rfl) (hd 8 rfl) ?_; refine jo_nil ?_; refine jc_region ?_; refine jo_l (ly_add rfl rfl (wrap_i64 (by first | omega | (dsimp only; omega)) (by first | omega | (dsimp only; omega)))) (hd 54 rfl) ?_; refine jo_l (ly_mv rfl) (hd 28 rfl) ?_; refine jo_nil ?_
          refine ⟨(k + 1, q.set ((0 + (i + k)) * 1) (((a.getD i 0 * b.getD k 0) + q.getD (i + k) 0 + c) % 4294967296), ((a.getD i 0 * b.getD k 0) + q.getD (i + k) 0 + c) / 4294967296), ?_, ?_, rfl, cov_n 62 rfl rfl ?_⟩
          · refine ⟨by show k + 1 ≤ b.length; omega, by rw [List.length_set]; exact hd2, rng_set hd3 (by omega) (by show _ < ((4294967296 : Nat) : Int); omega), ⟨by show 0 ≤ ((a.getD i 0 * b.getD k 0) + q.getD (i + k) 0 + c) / 4294967296; omega, by show ((a.getD i 0 * b.getD k 0) + q.getD (i + k) 0 + c) / 4294967296 < 4294967296; omega⟩, ?_, fun j hj => ?_⟩
            · exact D.school_in (by omega) (by rw [Nat.zero_add, Nat.mul_one]) rfl hd5 (by show ((a.getD i 0 * b.getD k 0) + q.getD (i + k) 0 + c) % 4294967296 + 4294967296 * (((a.getD i 0 * b.getD k 0) + q.getD (i + k) 0 + c) / 4294967296) = q.getD (i + k) 0 + (a.getD i 0 * b.getD k 0) + c; omega)
            · rw [Nat.zero_add, Nat.mul_one, getD_set (by omega)]; exact hd6 j hj
          · show b.length - (k + 1) < b.length - k
            omega
          · exact (.cons rfl (.cons rfl (.u (.u (.u (.u (.u (.u (.u (.u (.u (.u (.u (.u (.u (.u (.u (.u (.u (.u (.u (.u (.u (.u (.u (.u (.u (.u (.u (.u (.u .nil)))))))))))))))))))))))))))))))
        · obtain rfl : k = b.length := by omega
          refine jc_exit ?_; refine jc_region ?_; refine jo_l (ly_mv rfl) (hd 55 rfl) ?_; refine jo_l (ly_mv rfl) (hd 56 rfl) ?_; refine jo_l (ly_mv rfl) (hd 57 rfl) ?_; refine jo_l (ly_lenn sl33 rfl) (hd 58 rfl) ?_; refine jo_l (ly_add rfl rfl (r := ((i + b.length : Nat) : Int)) (by rw [wrap_i64 (by omega) (by omega)]; omega)) (hd 59 rfl) ?_; refine jo_l (ly_mv rfl) (hd 60 rfl) ?_; refine jo_l (ly_ia (i := i + b.length) sl33 rfl rfl rfl (by first | rfl | omega) (by first | omega | (dsimp only; omega)) rfl) (hd 61 rfl) ?_; refine jo_st (sy_storei rfl rfl rfl one82 (by dsimp only; omega)) ?_; refine jo_nil ?_; refine jc_region ?_; refine jo_l (ly_add rfl rfl (wrap_i64 (by first | omega | (dsimp only; omega)) (by first | omega | (dsimp only; omega)))) (hd 62 rfl) ?_; refine jo_l (ly_mv rfl) (hd 21 rfl) ?_; refine jo_nil ?_
          refine ⟨(i + 1, q.set ((0 + (i + b.length)) * 1) c), ?_, ?_, rfl, cov_n 99 rfl rfl ?_⟩
          · exact ⟨by show i + 1 ≤ a.length; omega, by rw [List.length_set]; exact hd2, rng_set hd3 hd4.1 hd4.2, D.school_row (by omega) (hd6 _ (Nat.le_refl _)) (by rw [Nat.zero_add, Nat.mul_one]) (by rw [hd5, hc4]), fun j hj => by rw [Nat.zero_add, Nat.mul_one, getD_set (by omega)]; exact hd6 j (by omega)⟩
          · show a.length - (i + 1) < a.length - i
            omega
          · exact (.cons rfl (.u (.u (.u (.u (.u (.u (.u (.u (.u (.u (.u (.u (.u (.u (.u (.u (.u (.u (.u (.u (.u (.u (.u (.u (.u (.u (.u (.u (.u (.u (.u (.u (.u (.u (.u (.u (.u (.u (.u (.u (.u (.u (.u (.u (.u (.u (.u .nil))))))))))))))))))))))))))))))))))))))))))))))))
    · refine jc_exit ?_; refine jc_seq ?_
      obtain rfl : i = a.length := by omega
      refine jc_frz (k := .u64) (l' := r) 5 rfl rfl (by omega) (by rw [List.drop_zero, List.take_of_length_le (by omega)]) hL ?_; refine jc_region ?_; refine jo_l (ly_mv rfl) (hd 63 rfl) ?_
      refine jo_call Tryd.f82 (rnorm_s r (by omega)) rfl Tryd.func82 rfl rfl (ovL_cons rfl ovL_nil) (.cons .n .nil) (hd 64 rfl) ?_ (fun ch hp => by simp at hp)
      rintro y hy; injection hy with hy; subst hy; refine jo_l (ly_as rfl) (hd 4 rfl) ?_; refine jo_nil ?_; refine jc_ret ?_
      refine ⟨_, _, (.cons rfl .nil), .n, ?_⟩
      exact ⟨r, rfl, hc3, by rw [vb_D, vb_D, vb_D, hc4, D.vk_all (Nat.le_refl _)]⟩

theorem rMul_s (x y : Nat) (hx : (digs B32 x).length < 549755813888) (hy : (digs B32 y).length < 549755813888) : Spec Tryd.prog 112 [.n false .u64 (digs B32 x), .n false .u64 (digs B32 y)] (fun o => o = .ret (.n false .u64 (digs B32 (x * y)))) :=
  (rMul_r _ _ hx hy (rng_digs (by decide) x) (rng_digs (by decide) y)).mono fun o ⟨r, ho, h1, h2⟩ => by
    rw [ho, trm_digs (b := B32) (n := x * y) (by decide) h1 (by rw [h2, vb_digs (by decide), vb_digs (by decide), Int.natCast_mul])]
end Go.Proofs.YtaogaegchagbfaaDoor.Vc

/- Contracts of the references' numbers with a sign; alike. -/
namespace Go.Proofs.YtaogaegchagbfaaDoor.Vc
open Go Go.RowKit
theorem make1_z (s : Bool) (n : Nat) : Spec Tryd.prog 52 [.b s, .n false .u64 (digs B32 n)] (fun o => o = .ret (.a [.b (decide ((zs s n) < 0)), .n false .u64 (dg (zs s n))])) := by
  have h := make1_s s (digs B32 n)
  rw [mk_zs] at h
  rw [dg_zs]
  exact h
theorem make1_o (s : Bool) (l : List Int) (hu : u64s l) : Spec Tryd.prog 52 [.b s, .n false .u64 (trm (dig l))] (fun o => o = .ret (.a [.b (decide ((sv s l) < 0)), .n false .u64 (dg (sv s l))])) := by
  have h := make1_s s (trm (dig l))
  rw [zv_of hu, trm_dig (s := s) hu rfl] at h
  rw [trm_dig (s := s) hu rfl]
  exact h

set_option maxHeartbeats 4000000 in
theorem ZOf_s (s : Bool) (l : List Int) (hl : l.length < 4294967296) (hu : u64s l) : Spec Tryd.prog 35 [.b s, .n false .u64 l] (fun o => o = .ret (.a [.b (decide ((sv s l) < 0)), .n false .u64 (dg (sv s l))])) := by
  refine spec_of' [(0, .b s), (1, .n false .u64 l)] rfl Tryd.func35 rfl (Nat.le_of_ble_eq_true rfl) fun Γ hN hds hL hR => ?_
  have hd : ∀ d, Nat.blt d 9 = true → d < Γ.N := fun d h => by rw [hN]; exact Nat.le_of_ble_eq_true h
  refine jc_seq ?_; refine jc_region ?_; refine jo_h (hy_alloc (id := 0) zero35 (by decide) rfl (by decide) rfl) (hd 4 rfl) ?_; refine jo_nil ?_; refine jc_seq ?_; refine jc_region ?_; refine jo_l (ly_mv rfl) (hd 5 rfl) ?_; refine jo_l (ly_mv rfl) (hd 6 rfl) ?_
  refine jo_call Tryd.f56 (rOf_s l hl hu) rfl Tryd.func56 rfl rfl (ovL_cons rfl ovL_nil) (.cons .n .nil) (hd 7 rfl) ?_ (fun ch hp => by simp at hp)
  rintro y hy; injection hy with hy; subst hy
  refine jo_call Tryd.f52 (make1_o s l hu) rfl Tryd.func52 rfl rfl (ovL_cons rfl (ovL_cons rfl ovL_nil)) (.cons .b (.cons .n .nil)) (hd 8 rfl) ?_ (fun ch hp => by simp at hp)
  rintro y hy; injection hy with hy; subst hy; refine jo_st (sy_store rfl rfl rfl siz35 rfl rfl (Nat.le_of_ble_eq_true rfl)) ?_; refine jo_nil ?_; refine jc_ret ?_
  refine ⟨_, _, (.cons (ResV.cell agg35 rfl rfl rfl rfl) .nil), (.a1 .b (.a1 .n .a0)), ?_⟩
  exact rfl

set_option maxHeartbeats 4000000 in
theorem of_s (s : Bool) (l : List Int) (hl : l.length < 4294967296) (hu : u64s l) : Spec Tryd.prog 7 [.a [.b s, .n false .u64 l]] (fun o => o = .ret (.a [.b (decide ((sv s l) < 0)), .n false .u64 (dg (sv s l))])) := by
  refine spec_of' [(0, .a [.b s, .n false .u64 l])] rfl Tryd.func7 rfl (Nat.le_of_ble_eq_true rfl) fun Γ hN hds hL hR => ?_
  have hd : ∀ d, Nat.blt d 8 = true → d < Γ.N := fun d h => by rw [hN]; exact Nat.le_of_ble_eq_true h
  refine jc_seq ?_; refine jc_region ?_; refine jo_h (hy_box (id := 0) (n := 2) rfl rfl rfl (by decide) rfl) (hd 1 rfl) ?_; refine jo_h (hy_alloc (id := 1) zero35 (by decide) rfl (by decide) rfl) (hd 2 rfl) ?_; refine jo_nil ?_; refine jc_seq ?_; refine jc_region ?_; refine jo_l (ly_fa fld27_0 rfl rfl rfl) (hd 3 rfl) ?_; refine jo_l (ly_ld one4 rfl rfl rfl) (hd 4 rfl) ?_; refine jo_l (ly_fa fld27_1 rfl rfl rfl) (hd 5 rfl) ?_; refine jo_l (ly_ld one25 rfl rfl rfl) (hd 6 rfl) ?_
  refine jo_call Tryd.f35 (ZOf_s s l hl hu) rfl Tryd.func35 rfl rfl (ovL_cons rfl (ovL_cons rfl ovL_nil)) (.cons .b (.cons .n .nil)) (hd 7 rfl) ?_ (fun ch hp => by simp at hp)
  rintro y hy; injection hy with hy; subst hy; refine jo_st (sy_store rfl rfl rfl siz35 rfl rfl (Nat.le_of_ble_eq_true rfl)) ?_; refine jo_nil ?_; refine jc_ret ?_
  refine ⟨_, _, (.cons (ResV.cell agg35 rfl rfl rfl rfl) .nil), (.a1 .b (.a1 .n .a0)), ?_⟩
  exact rfl

set_option maxHeartbeats 4000000 in
theorem ZNeg_s (v : Int) : Spec Tryd.prog 55 [.a [.b (decide (v < 0)), .n false .u64 (dg v)]] (fun o => o = .ret (.a [.b (decide ((-v) < 0)), .n false .u64 (dg (-v))])) := by
  refine spec_of' [(0, .a [.b (decide (v < 0)), .n false .u64 (dg v)])] rfl Tryd.func55 rfl (Nat.le_of_ble_eq_true rfl) fun Γ hN hds hL hR => ?_
  have hd : ∀ d, Nat.blt d 9 = true → d < Γ.N := fun d h => by rw [hN]; exact Nat.le_of_ble_eq_true h
  refine jc_seq ?_; refine jc_region ?_; refine jo_h (hy_box (id := 0) (n := 2) rfl rfl rfl (by decide) rfl) (hd 1 rfl) ?_; refine jo_h (hy_alloc (id := 1) zero35 (by decide) rfl (by decide) rfl) (hd 2 rfl) ?_; refine jo_nil ?_; refine jc_seq ?_; refine jc_region ?_; refine jo_l (ly_fa fld35_0 rfl rfl rfl) (hd 3 rfl) ?_; refine jo_l (ly_ld one4 rfl rfl rfl) (hd 4 rfl) ?_; refine jo_l (ly_not rfl) (hd 5 rfl) ?_; refine jo_l (ly_fa fld35_1 rfl rfl rfl) (hd 6 rfl) ?_; refine jo_l (ly_ld one33 rfl rfl rfl) (hd 7 rfl) ?_
  refine jo_call Tryd.f52 (make1_z (!decide (v < 0)) v.natAbs) rfl Tryd.func52 rfl rfl (ovL_cons rfl (ovL_cons rfl ovL_nil)) (.cons .b (.cons .n .nil)) (hd 8 rfl) ?_ (fun ch hp => by simp at hp)
  rintro y hy; injection hy with hy; subst hy; refine jo_st (sy_store rfl rfl rfl siz35 rfl rfl (Nat.le_of_ble_eq_true rfl)) ?_; refine jo_nil ?_; refine jc_ret ?_
  refine ⟨_, _, (.cons (ResV.cell agg35 rfl rfl rfl rfl) .nil), (.a1 .b (.a1 .n .a0)), ?_⟩
  rw [zneg]

set_option maxHeartbeats 4000000 in
theorem ZAdd_s (x y : Int) (hx : (dg x).length < 549755813888) (hy : (dg y).length < 549755813888) : Spec Tryd.prog 54 [.a [.b (decide (x < 0)), .n false .u64 (dg x)], .a [.b (decide (y < 0)), .n false .u64 (dg y)]] (fun o => o = .ret (.a [.b (decide ((x + y) < 0)), .n false .u64 (dg (x + y))])) := by
  refine spec_of' [(0, .a [.b (decide (x < 0)), .n false .u64 (dg x)]), (1, .a [.b (decide (y < 0)), .n false .u64 (dg y)])] rfl Tryd.func54 rfl (Nat.le_of_ble_eq_true rfl) fun Γ hN hds hL hR => ?_
  have hd : ∀ d, Nat.blt d 40 = true → d < Γ.N := fun d h => by rw [hN]; exact Nat.le_of_ble_eq_true h
  refine jc_seq ?_; refine jc_region ?_; refine jo_h (hy_box (id := 0) (n := 2) rfl rfl rfl (by decide) rfl) (hd 2 rfl) ?_; refine jo_h (hy_box (id := 1) (n := 2) rfl rfl rfl (by decide) rfl) (hd 3 rfl) ?_; refine jo_h (hy_alloc (id := 2) zero35 (by decide) rfl (by decide) rfl) (hd 4 rfl) ?_; refine jo_nil ?_; refine jc_seq ?_; refine jc_seq ?_; refine jc_region ?_; refine jo_l (ly_fa fld35_0 rfl rfl rfl) (hd 5 rfl) ?_; refine jo_l (ly_ld one4 rfl rfl rfl) (hd 6 rfl) ?_; refine jo_l (ly_fa fld35_0 rfl rfl rfl) (hd 7 rfl) ?_; refine jo_l (ly_ld one4 rfl rfl rfl) (hd 8 rfl) ?_; refine jo_l (ly_eqb und4 rfl rfl) (hd 9 rfl) ?_; refine jo_nil ?_
  refine jc_cond rfl (fun h1 => ?_) (fun h1 => ?_)
  · refine jc_seq ?_; refine jc_draw (n := 9) _ rfl mixed ?_; refine ja_l2 0 [1, 7, 8] (lo_l (ly_fa fld35_0 rfl rfl rfl) (hd 10 rfl)) rfl (by kernel_rfl) (by kernel_rfl) (by kernel_rfl) (by kernel_rfl) (fun _ _ _ _ h => h) ?_; refine ja_l 1 (lo_l (ly_ld one4 rfl rfl rfl) (hd 11 rfl)) rfl (by kernel_rfl) (by kernel_rfl) (by kernel_rfl) (fun _ _ _ _ h => h) ?_; refine ja_l2 2 [3, 6, 7, 8] (lo_l (ly_fa fld35_1 rfl rfl rfl) (hd 12 rfl)) rfl (by kernel_rfl) (by kernel_rfl) (by kernel_rfl) (by kernel_rfl) (fun _ _ _ _ h => h) ?_; refine ja_l2 3 [6, 7, 8] (lo_l (ly_ld one33 rfl rfl rfl) (hd 13 rfl)) rfl (by kernel_rfl) (by kernel_rfl) (by kernel_rfl) (by kernel_rfl) (fun _ _ _ _ h => h) ?_; refine ja_l2 4 [5, 6, 7, 8] (lo_l (ly_fa fld35_1 rfl rfl rfl) (hd 14 rfl)) rfl (by kernel_rfl) (by kernel_rfl) (by kernel_rfl) (by kernel_rfl) (fun _ _ _ _ h => h) ?_; refine ja_l2 5 [6, 7, 8] (lo_l (ly_ld one33 rfl rfl rfl) (hd 15 rfl)) rfl (by kernel_rfl) (by kernel_rfl) (by kernel_rfl) (by kernel_rfl) (fun _ _ _ _ h => h) ?_
    refine ja_1 6 ?_ rfl (by kernel_rfl)
    refine js_call Tryd.f84 (rAdd_s x.natAbs y.natAbs hx hy) rfl Tryd.func84 rfl rfl (ovL_cons rfl (ovL_cons rfl ovL_nil)) (.cons .n (.cons .n .nil)) (hd 16 rfl) ?_ (fun ch hp => by simp at hp)
    rintro y hy; injection hy with hy; subst hy
    refine ja_1 7 ?_ rfl (by kernel_rfl)
    refine js_call Tryd.f52 (make1_z (decide (x < 0)) (x.natAbs + y.natAbs)) rfl Tryd.func52 rfl rfl (ovL_cons rfl (ovL_cons rfl ovL_nil)) (.cons .b (.cons .n .nil)) (hd 17 rfl) ?_ (fun ch hp => by simp at hp)
    rintro y hy; injection hy with hy; subst hy
    refine ja_1 8 ?_ rfl (by kernel_rfl)
    refine js_st (sy_store rfl rfl rfl siz35 rfl rfl (Nat.le_of_ble_eq_true rfl)) rfl ?_; refine ja_nil (by kernel_rfl) ?_; refine jc_ret ?_
    refine ⟨_, _, (.cons (ResV.cell agg35 rfl rfl rfl rfl) .nil), (.a1 .b (.a1 .n .a0)), ?_⟩
    rw [zadd_same (by assumption)]
  · refine jc_skip ?_; refine jc_seq ?_; refine jc_seq ?_; refine jc_region ?_; refine jo_l (ly_fa fld35_1 rfl rfl rfl) (hd 18 rfl) ?_; refine jo_l (ly_ld one33 rfl rfl rfl) (hd 19 rfl) ?_; refine jo_l (ly_fa fld35_1 rfl rfl rfl) (hd 20 rfl) ?_; refine jo_l (ly_ld one33 rfl rfl rfl) (hd 21 rfl) ?_
    refine jo_call Tryd.f85 (rCmp_s x.natAbs y.natAbs (by show (dg x).length < _; omega) (by show (dg y).length < _; omega)) rfl Tryd.func85 rfl rfl (ovL_cons rfl (ovL_cons rfl ovL_nil)) (.cons .n (.cons .n .nil)) (hd 22 rfl) ?_ (fun ch hp => by simp at hp)
    rintro y hy; injection hy with hy; subst hy; refine jo_l (ly_ge rfl rfl) (hd 23 rfl) ?_; refine jo_nil ?_
    refine jc_if rfl (fun h2 => ?_) (fun h2 => ?_)
    · refine jc_seq ?_; refine jc_draw (n := 9) _ rfl mixed ?_; refine ja_l2 0 [1, 7, 8] (lo_l (ly_fa fld35_0 rfl rfl rfl) (hd 24 rfl)) rfl (by kernel_rfl) (by kernel_rfl) (by kernel_rfl) (by kernel_rfl) (fun _ _ _ _ h => h) ?_; refine ja_l 1 (lo_l (ly_ld one4 rfl rfl rfl) (hd 25 rfl)) rfl (by kernel_rfl) (by kernel_rfl) (by kernel_rfl) (fun _ _ _ _ h => h) ?_; refine ja_l2 2 [3, 6, 7, 8] (lo_l (ly_fa fld35_1 rfl rfl rfl) (hd 26 rfl)) rfl (by kernel_rfl) (by kernel_rfl) (by kernel_rfl) (by kernel_rfl) (fun _ _ _ _ h => h) ?_; refine ja_l2 3 [6, 7, 8] (lo_l (ly_ld one33 rfl rfl rfl) (hd 27 rfl)) rfl (by kernel_rfl) (by kernel_rfl) (by kernel_rfl) (by kernel_rfl) (fun _ _ _ _ h => h) ?_; refine ja_l2 4 [5, 6, 7, 8] (lo_l (ly_fa fld35_1 rfl rfl rfl) (hd 28 rfl)) rfl (by kernel_rfl) (by kernel_rfl) (by kernel_rfl) (by kernel_rfl) (fun _ _ _ _ h => h) ?_; refine ja_l2 5 [6, 7, 8] (lo_l (ly_ld one33 rfl rfl rfl) (hd 29 rfl)) rfl (by kernel_rfl) (by kernel_rfl) (by kernel_rfl) (by kernel_rfl) (fun _ _ _ _ h => h) ?_
      refine ja_1 6 ?_ rfl (by kernel_rfl)
      refine js_call Tryd.f46 (rSub_s x.natAbs y.natAbs (cmp_le (by assumption)) (by show (dg x).length < _; omega) (by show (dg y).length < _; omega)) rfl Tryd.func46 rfl rfl (ovL_cons rfl (ovL_cons rfl ovL_nil)) (.cons .n (.cons .n .nil)) (hd 30 rfl) ?_ (fun ch hp => by simp at hp)
      rintro y hy; injection hy with hy; subst hy
      refine ja_1 7 ?_ rfl (by kernel_rfl)
      refine js_call Tryd.f52 (make1_z (decide (x < 0)) (x.natAbs - y.natAbs)) rfl Tryd.func52 rfl rfl (ovL_cons rfl (ovL_cons rfl ovL_nil)) (.cons .b (.cons .n .nil)) (hd 31 rfl) ?_ (fun ch hp => by simp at hp)
      rintro y hy; injection hy with hy; subst hy
      refine ja_1 8 ?_ rfl (by kernel_rfl)
      refine js_st (sy_store rfl rfl rfl siz35 rfl rfl (Nat.le_of_ble_eq_true rfl)) rfl ?_; refine ja_nil (by kernel_rfl) ?_; refine jc_ret ?_
      refine ⟨_, _, (.cons (ResV.cell agg35 rfl rfl rfl rfl) .nil), (.a1 .b (.a1 .n .a0)), ?_⟩
      rw [zadd_ge (by assumption) (by assumption)]
    · refine jc_skip ?_; refine jc_seq ?_; refine jc_draw (n := 9) _ rfl mixed ?_; refine ja_l2 0 [1, 7, 8] (lo_l (ly_fa fld35_0 rfl rfl rfl) (hd 32 rfl)) rfl (by kernel_rfl) (by kernel_rfl) (by kernel_rfl) (by kernel_rfl) (fun _ _ _ _ h => h) ?_; refine ja_l 1 (lo_l (ly_ld one4 rfl rfl rfl) (hd 33 rfl)) rfl (by kernel_rfl) (by kernel_rfl) (by kernel_rfl) (fun _ _ _ _ h => h) ?_; refine ja_l2 2 [3, 6, 7, 8] (lo_l (ly_fa fld35_1 rfl rfl rfl) (hd 34 rfl)) rfl (by kernel_rfl) (by kernel_rfl) (by kernel_rfl) (by kernel_rfl) (fun _ _ _ _ h => h) ?_; refine ja_l2 3 [6, 7, 8] (lo_l (ly_ld one33 rfl rfl rfl) (hd 35 rfl)) rfl (by kernel_rfl) (by kernel_rfl) (by kernel_rfl) (by kernel_rfl) (fun _ _ _ _ h => h) ?_; refine ja_l2 4 [5, 6, 7, 8] (lo_l (ly_fa fld35_1 rfl rfl rfl) (hd 36 rfl)) rfl (by kernel_rfl) (by kernel_rfl) (by kernel_rfl) (by kernel_rfl) (fun _ _ _ _ h => h) ?_; refine ja_l2 5 [6, 7, 8] (lo_l (ly_ld one33 rfl rfl rfl) (hd 37 rfl)) rfl (by kernel_rfl) (by kernel_rfl) (by kernel_rfl) (by kernel_rfl) (fun _ _ _ _ h => h) ?_
      refine ja_1 6 ?_ rfl (by kernel_rfl)
      refine js_call Tryd.f46 (rSub_s y.natAbs x.natAbs (cmp_gt (by assumption)) (by show (dg y).length < _; omega) (by show (dg x).length < _; omega)) rfl Tryd.func46 rfl rfl (ovL_cons rfl (ovL_cons rfl ovL_nil)) (.cons .n (.cons .n .nil)) (hd 38 rfl) ?_ (fun ch hp => by simp at hp)
      rintro y hy; injection hy with hy; subst hy
      refine ja_1 7 ?_ rfl (by kernel_rfl)
      refine js_call Tryd.f52 (make1_z (decide (y < 0)) (y.natAbs - x.natAbs)) rfl Tryd.func52 rfl rfl (ovL_cons rfl (ovL_cons rfl ovL_nil)) (.cons .b (.cons .n .nil)) (hd 39 rfl) ?_ (fun ch hp => by simp at hp)
      rintro y hy; injection hy with hy; subst hy
      refine ja_1 8 ?_ rfl (by kernel_rfl)
      refine js_st (sy_store rfl rfl rfl siz35 rfl rfl (Nat.le_of_ble_eq_true rfl)) rfl ?_; refine ja_nil (by kernel_rfl) ?_; refine jc_ret ?_
      refine ⟨_, _, (.cons (ResV.cell agg35 rfl rfl rfl rfl) .nil), (.a1 .b (.a1 .n .a0)), ?_⟩
      rw [zadd_lt (by assumption) (by assumption)]

set_option maxHeartbeats 4000000 in
theorem ZSub_s (x y : Int) (hx : (dg x).length < 549755813888) (hy : (dg y).length < 549755813888) : Spec Tryd.prog 20 [.a [.b (decide (x < 0)), .n false .u64 (dg x)], .a [.b (decide (y < 0)), .n false .u64 (dg y)]] (fun o => o = .ret (.a [.b (decide ((x - y) < 0)), .n false .u64 (dg (x - y))])) := by
  refine spec_of' [(0, .a [.b (decide (x < 0)), .n false .u64 (dg x)]), (1, .a [.b (decide (y < 0)), .n false .u64 (dg y)])] rfl Tryd.func20 rfl (Nat.le_of_ble_eq_true rfl) fun Γ hN hds hL hR => ?_
  have hd : ∀ d, Nat.blt d 9 = true → d < Γ.N := fun d h => by rw [hN]; exact Nat.le_of_ble_eq_true h
  refine jc_seq ?_; refine jc_region ?_; refine jo_h (hy_box (id := 0) (n := 2) rfl rfl rfl (by decide) rfl) (hd 2 rfl) ?_; refine jo_h (hy_box (id := 1) (n := 2) rfl rfl rfl (by decide) rfl) (hd 3 rfl) ?_; refine jo_h (hy_alloc (id := 2) zero35 (by decide) rfl (by decide) rfl) (hd 4 rfl) ?_; refine jo_nil ?_; refine jc_seq ?_; refine jc_draw (n := 5) _ rfl mixed ?_; refine ja_l 0 (lo_l (ly_lda agg35 rfl rfl rfl rfl) (hd 5 rfl)) rfl (by kernel_rfl) (by kernel_rfl) (by kernel_rfl) (fun _ _ _ _ h => h) ?_; refine ja_l2 1 [2, 3, 4] (lo_l (ly_lda agg35 rfl rfl rfl rfl) (hd 6 rfl)) rfl (by kernel_rfl) (by kernel_rfl) (by kernel_rfl) (by kernel_rfl) (fun _ _ _ _ h => h) ?_
  refine ja_1 2 ?_ rfl (by kernel_rfl)
  refine js_call Tryd.f55 (ZNeg_s y) rfl Tryd.func55 rfl rfl (ovL_cons rfl ovL_nil) (.cons (.a1 .b (.a1 .n .a0)) .nil) (hd 7 rfl) ?_ (fun ch hp => by simp at hp)
  rintro y hy; injection hy with hy; subst hy
  refine ja_1 3 ?_ rfl (by kernel_rfl)
  refine js_call Tryd.f54 (ZAdd_s x (-y) hx (by unfold dg; rw [Int.natAbs_neg]; exact hy)) rfl Tryd.func54 rfl rfl (ovL_cons rfl (ovL_cons rfl ovL_nil)) (.cons (.a1 .b (.a1 .n .a0)) (.cons (.a1 .b (.a1 .n .a0)) .nil)) (hd 8 rfl) ?_ (fun ch hp => by simp at hp)
  rintro y hy; injection hy with hy; subst hy
  refine ja_1 4 ?_ rfl (by kernel_rfl)
  refine js_st (sy_store rfl rfl rfl siz35 rfl rfl (Nat.le_of_ble_eq_true rfl)) rfl ?_; refine ja_nil (by kernel_rfl) ?_; refine jc_ret ?_
  refine ⟨_, _, (.cons (ResV.cell agg35 rfl rfl rfl rfl) .nil), (.a1 .b (.a1 .n .a0)), ?_⟩
  rw [Int.sub_eq_add_neg]

set_option maxHeartbeats 4000000 in
theorem ZMul_s (x y : Int) (hx : (dg x).length < 549755813888) (hy : (dg y).length < 549755813888) : Spec Tryd.prog 104 [.a [.b (decide (x < 0)), .n false .u64 (dg x)], .a [.b (decide (y < 0)), .n false .u64 (dg y)]] (fun o => o = .ret (.a [.b (decide ((x * y) < 0)), .n false .u64 (dg (x * y))])) := by
  refine spec_of' [(0, .a [.b (decide (x < 0)), .n false .u64 (dg x)]), (1, .a [.b (decide (y < 0)), .n false .u64 (dg y)])] rfl Tryd.func104 rfl (Nat.le_of_ble_eq_true rfl) fun Γ hN hds hL hR => ?_
  have hd : ∀ d, Nat.blt d 16 = true → d < Γ.N := fun d h => by rw [hN]; exact Nat.le_of_ble_eq_true h
  refine jc_seq ?_; refine jc_region ?_; refine jo_h (hy_box (id := 0) (n := 2) rfl rfl rfl (by decide) rfl) (hd 2 rfl) ?_; refine jo_h (hy_box (id := 1) (n := 2) rfl rfl rfl (by decide) rfl) (hd 3 rfl) ?_; refine jo_h (hy_alloc (id := 2) zero35 (by decide) rfl (by decide) rfl) (hd 4 rfl) ?_; refine jo_nil ?_; refine jc_seq ?_; refine jc_draw (n := 12) _ rfl mixed ?_; refine ja_l2 0 [1, 4, 10, 11] (lo_l (ly_fa fld35_0 rfl rfl rfl) (hd 5 rfl)) rfl (by kernel_rfl) (by kernel_rfl) (by kernel_rfl) (by kernel_rfl) (fun _ _ _ _ h => h) ?_; refine ja_l2 1 [4, 10, 11] (lo_l (ly_ld one4 rfl rfl rfl) (hd 6 rfl)) rfl (by kernel_rfl) (by kernel_rfl) (by kernel_rfl) (by kernel_rfl) (fun _ _ _ _ h => h) ?_; refine ja_l2 2 [3, 4, 10, 11] (lo_l (ly_fa fld35_0 rfl rfl rfl) (hd 7 rfl)) rfl (by kernel_rfl) (by kernel_rfl) (by kernel_rfl) (by kernel_rfl) (fun _ _ _ _ h => h) ?_; refine ja_l2 3 [4, 10, 11] (lo_l (ly_ld one4 rfl rfl rfl) (hd 8 rfl)) rfl (by kernel_rfl) (by kernel_rfl) (by kernel_rfl) (by kernel_rfl) (fun _ _ _ _ h => h) ?_; refine ja_l 4 (lo_l (ly_neb und4 rfl rfl) (hd 9 rfl)) rfl (by kernel_rfl) (by kernel_rfl) (by kernel_rfl) (fun _ _ _ _ h => h) ?_; refine ja_l2 5 [6, 9, 10, 11] (lo_l (ly_fa fld35_1 rfl rfl rfl) (hd 10 rfl)) rfl (by kernel_rfl) (by kernel_rfl) (by kernel_rfl) (by kernel_rfl) (fun _ _ _ _ h => h) ?_; refine ja_l2 6 [9, 10, 11] (lo_l (ly_ld one33 rfl rfl rfl) (hd 11 rfl)) rfl (by kernel_rfl) (by kernel_rfl) (by kernel_rfl) (by kernel_rfl) (fun _ _ _ _ h => h) ?_; refine ja_l2 7 [8, 9, 10, 11] (lo_l (ly_fa fld35_1 rfl rfl rfl) (hd 12 rfl)) rfl (by kernel_rfl) (by kernel_rfl) (by kernel_rfl) (by kernel_rfl) (fun _ _ _ _ h => h) ?_; refine ja_l2 8 [9, 10, 11] (lo_l (ly_ld one33 rfl rfl rfl) (hd 13 rfl)) rfl (by kernel_rfl) (by kernel_rfl) (by kernel_rfl) (by kernel_rfl) (fun _ _ _ _ h => h) ?_
  refine ja_1 9 ?_ rfl (by kernel_rfl)
  refine js_call Tryd.f112 (rMul_s x.natAbs y.natAbs hx hy) rfl Tryd.func112 rfl rfl (ovL_cons rfl (ovL_cons rfl ovL_nil)) (.cons .n (.cons .n .nil)) (hd 14 rfl) ?_ (fun ch hp => by simp at hp)
  rintro y hy; injection hy with hy; subst hy
  refine ja_1 10 ?_ rfl (by kernel_rfl)
  refine js_call Tryd.f52 (make1_z (!(decide (x < 0) == decide (y < 0))) (x.natAbs * y.natAbs)) rfl Tryd.func52 rfl rfl (ovL_cons rfl (ovL_cons rfl ovL_nil)) (.cons .b (.cons .n .nil)) (hd 15 rfl) ?_ (fun ch hp => by simp at hp)
  rintro y hy; injection hy with hy; subst hy
  refine ja_1 11 ?_ rfl (by kernel_rfl)
  refine js_st (sy_store rfl rfl rfl siz35 rfl rfl (Nat.le_of_ble_eq_true rfl)) rfl ?_; refine ja_nil (by kernel_rfl) ?_; refine jc_ret ?_
  refine ⟨_, _, (.cons (ResV.cell agg35 rfl rfl rfl rfl) .nil), (.a1 .b (.a1 .n .a0)), ?_⟩
  rw [zmul]

set_option maxHeartbeats 4000000 in
theorem ZSign_s (v : Int) : Spec Tryd.prog 16 [.a [.b (decide (v < 0)), .n false .u64 (dg v)]] (fun o => o = .ret (.i .i64 (sgnI v))) := by
  refine spec_of' [(0, .a [.b (decide (v < 0)), .n false .u64 (dg v)])] rfl Tryd.func16 rfl (Nat.le_of_ble_eq_true rfl) fun Γ hN hds hL hR => ?_
  have hd : ∀ d, Nat.blt d 8 = true → d < Γ.N := fun d h => by rw [hN]; exact Nat.le_of_ble_eq_true h
  have hc := sgn_cases (x := v)
  have hz := dg_lenv (v := v)
  refine jc_seq ?_; refine jc_region ?_; refine jo_h (hy_box (id := 0) (n := 2) rfl rfl rfl (by decide) rfl) (hd 1 rfl) ?_; refine jo_l (ly_as rfl) (hd 2 rfl) ?_; refine jo_nil ?_; refine jc_seq ?_; refine jc_seq ?_; refine jc_region ?_; refine jo_l (ly_fa fld35_0 rfl rfl rfl) (hd 3 rfl) ?_; refine jo_l (ly_ld one4 rfl rfl rfl) (hd 4 rfl) ?_; refine jo_nil ?_
  refine jc_if rfl (fun h1 => ?_) (fun h1 => ?_)
  · refine jc_seq ?_; refine jc_region ?_; refine jo_l (ly_as rfl) (hd 2 rfl) ?_; refine jo_nil ?_; refine jc_ret ?_
    refine ⟨_, _, (.cons rfl .nil), .i, ?_⟩
    rcases hc with ⟨h, e⟩ | ⟨h, e⟩ | ⟨h, e⟩
    · rw [e]
    · omega
    · omega
  · refine jc_skip ?_; refine jc_seq ?_; refine jc_seq ?_; refine jc_region ?_; refine jo_l (ly_fa fld35_1 rfl rfl rfl) (hd 5 rfl) ?_; refine jo_l (ly_ld one33 rfl rfl rfl) (hd 6 rfl) ?_
    refine jo_call Tryd.f48 (Zero_s (dg v)) rfl Tryd.func48 rfl rfl (ovL_cons rfl ovL_nil) (.cons .n .nil) (hd 7 rfl) ?_ (fun ch hp => by simp at hp)
    rintro y hy; injection hy with hy; subst hy; refine jo_nil ?_
    refine jc_if rfl (fun h2 => ?_) (fun h2 => ?_)
    · refine jc_seq ?_; refine jc_region ?_; refine jo_l (ly_as rfl) (hd 2 rfl) ?_; refine jo_nil ?_; refine jc_ret ?_
      refine ⟨_, _, (.cons rfl .nil), .i, ?_⟩
      rcases hc with ⟨h, e⟩ | ⟨h, e⟩ | ⟨h, e⟩
      · omega
      · rw [e]
      · omega
    · refine jc_skip ?_; refine jc_seq ?_; refine jc_region ?_; refine jo_l (ly_as rfl) (hd 2 rfl) ?_; refine jo_nil ?_; refine jc_ret ?_
      refine ⟨_, _, (.cons rfl .nil), .i, ?_⟩
      rcases hc with ⟨h, e⟩ | ⟨h, e⟩ | ⟨h, e⟩
      · omega
      · omega
      · rw [e]

end Go.Proofs.YtaogaegchagbfaaDoor.Vc

/- Contracts of the references' Bit, Tail; ints: nat.Small, whole.Int, Of. -/
namespace Go.Proofs.YtaogaegchagbfaaDoor.Vc
open Go Go.RowKit
set_option maxHeartbeats 4000000 in
theorem Bit_s (x i : Nat) (hx : (digs B32 x).length < 1099511627776) (hi : i < 1099511627776) : Spec Tryd.prog 32 [.n false .u64 (digs B32 x), .i .i64 (i : Int)] (fun o => o = .ret (.i .i64 ((x / 2 ^ i % 2 : Nat) : Int))) := by
  refine spec_of' [(0, .n false .u64 (digs B32 x)), (1, .i .i64 (i : Int))] rfl Tryd.func32 rfl (Nat.le_of_ble_eq_true rfl) fun Γ hN hds hL hR => ?_
  have hd : ∀ d, Nat.blt d 24 = true → d < Γ.N := fun d h => by rw [hN]; exact Nat.le_of_ble_eq_true h
  have hm1 : (x / B32 ^ (i / 32) % B32) < 4294967296 := Nat.mod_lt _ (by decide)
  have hm2 : (x / B32 ^ (i / 32) % B32) / 2 ^ (i % 32) ≤ (x / B32 ^ (i / 32) % B32) := Nat.div_le_self _ _
  refine jc_seq ?_; refine jc_region ?_; refine jo_l (ly_as rfl) (hd 4 rfl) ?_; refine jo_nil ?_; refine jc_seq ?_; refine jc_seq ?_; refine jc_region ?_; refine jo_l (ly_mv rfl) (hd 5 rfl) ?_; refine jo_l (ly_ff (ly_lt rfl rfl) (by omega)) (hd 6 rfl) ?_; refine jo_l (ly_mv rfl) (hd 7 rfl) ?_; refine jo_g 7 rfl rfl (ly_mv rfl) (hd 8 rfl) ?_; refine jo_g 7 rfl rfl (ly_quo rfl rfl (by decide) (r := ((i / 32 : Nat) : Int)) (by rw [show ((i : Int).tdiv 32) = ((i / 32 : Nat) : Int) from rfl, wrap_i64 (by omega) (by omega)])) (hd 9 rfl) ?_; refine jo_g 7 rfl rfl (ly_mv rfl) (hd 10 rfl) ?_; refine jo_g 7 rfl rfl (ly_lenn sl33 rfl) (hd 11 rfl) ?_; refine jo_g 7 rfl rfl (ly_ge rfl rfl) (hd 12 rfl) ?_; refine jo_l (ly_pick_f rfl rfl) (hd 13 rfl) ?_; refine jo_nil ?_
  refine jc_if rfl (fun h1 => ?_) (fun h1 => ?_)
  · refine jc_seq ?_; refine jc_region ?_; refine jo_l (ly_as rfl) (hd 4 rfl) ?_; refine jo_nil ?_; refine jc_ret ?_
    refine ⟨_, _, (.cons rfl .nil), .i, ?_⟩
    rw [bit_out (by omega)]
    rfl
  · refine jc_skip ?_; refine jc_seq ?_; refine jc_region ?_; refine jo_l (ly_mv rfl) (hd 14 rfl) ?_; refine jo_l (ly_mv rfl) (hd 15 rfl) ?_; refine jo_l (ly_quo rfl rfl (by decide) (r := ((i / 32 : Nat) : Int)) (by rw [show ((i : Int).tdiv 32) = ((i / 32 : Nat) : Int) from rfl, wrap_i64 (by omega) (by omega)])) (hd 16 rfl) ?_; refine jo_l (ly_ian (i := i / 32) sl33 rfl rfl (by first | rfl | omega) (by omega)) (hd 17 rfl) ?_; refine jo_l (ly_is (ly_ldq one82 rfl rfl) (by exact congrArg (V.i .u64) (digs_at (by decide) (i / 32) x))) (hd 18 rfl) ?_; refine jo_l (ly_mv rfl) (hd 19 rfl) ?_; refine jo_l (ly_is (ly_rem rfl rfl (by decide) rfl) (show V.i .i64 ((i : Int).tmod 32) = V.i .i64 ((i % 32 : Nat) : Int) from rfl)) (hd 20 rfl) ?_; refine jo_l (ly_is (ly_shr rfl rfl (by omega) rfl) (by exact congrArg (V.i .u64) (shr_nat (k := 2 ^ (i % 32)) (by rw [Int.toNat_natCast, Nat.min_eq_left (by have h : IntKind.u64.bits = 64 := rfl; omega)])))) (hd 21 rfl) ?_; refine jo_l (ly_is (ly_bit (by simp) rfl rfl rfl) (by exact congrArg (V.i .u64) (and1 (by omega)))) (hd 22 rfl) ?_; refine jo_l (ly_conv und82 und3 rfl (wrap_i64 (by omega) (by omega))) (hd 23 rfl) ?_; refine jo_l (ly_as rfl) (hd 4 rfl) ?_; refine jo_nil ?_; refine jc_ret ?_
    refine ⟨_, _, (.cons rfl .nil), .i, ?_⟩
    rw [bit_digit]

theorem ZInt_s (v : Int) (h : inI v) : Spec Tryd.prog 21 [.i .i64 v] (fun o => o = .ret (.a [.b (decide (v < 0)), .n false .u64 (dg v)])) := by
  have h' : -9223372036854775808 ≤ v ∧ v < 9223372036854775808 := h
  by_cases h0 : v < 0
  · have hu : u64s [-v] := u64s1 (by omega) (by omega)
    have h1 := Int_neg v h0 h'.1
    have e := zv_of (s := true) hu
    rw [e, trm_dig (s := true) (v := v) hu (by simp [sv, vl])] at h1
    have e2 : sv true [-v] = v := by simp [sv, vl]
    rw [e2] at h1
    exact h1
  · have hu : u64s [v] := u64s1 (by omega) (by omega)
    have h1 := Int_pos v (by omega) h'.2
    have e := zv_of (s := false) hu
    rw [e, trm_dig (s := false) (v := v) hu (by simp [sv, vl])] at h1
    have e2 : sv false [v] = v := by simp [sv, vl]
    rw [e2] at h1
    exact h1

end Go.Proofs.YtaogaegchagbfaaDoor.Vc

/- Contracts of bits.LeadingZeros64, Div64. -/
namespace Go.Proofs.YtaogaegchagbfaaDoor.Vc
open Go Go.RowKit
set_option maxHeartbeats 4000000 in
theorem Lz_s (x : Nat) (hx : x < 18446744073709551616) : Spec Tryd.prog 100 [.i .u64 (x : Int)] (fun o => o = .ret (.i .i64 ((64 - bl 64 x : Nat) : Int))) := by
  refine spec_of' [(0, .i .u64 (x : Int))] rfl Tryd.func100 rfl (Nat.le_of_ble_eq_true rfl) fun Γ hN hds hL hR => ?_
  have hd : ∀ d, Nat.blt d 6 = true → d < Γ.N := fun d h => by rw [hN]; exact Nat.le_of_ble_eq_true h
  have hb := bl_le 64 x
  refine jc_seq ?_; refine jc_region ?_; refine jo_l (ly_as rfl) (hd 2 rfl) ?_; refine jo_nil ?_; refine jc_seq ?_; refine jc_region ?_; refine jo_l (ly_mv rfl) (hd 3 rfl) ?_
  refine jo_call Tryd.f93 (Len64_s x hx) rfl Tryd.func93 rfl rfl (ovL_cons rfl ovL_nil) (.cons .i .nil) (hd 4 rfl) ?_ (fun ch hp => by simp at hp)
  rintro y hy; injection hy with hy; subst hy; refine jo_l (ly_sub rfl rfl (r := ((64 - bl 64 x : Nat) : Int)) (by rw [wrap_i64 (by omega) (by omega)]; omega)) (hd 5 rfl) ?_; refine jo_l (ly_as rfl) (hd 2 rfl) ?_; refine jo_nil ?_; refine jc_ret ?_
  refine ⟨_, _, (.cons rfl .nil), .i, ?_⟩
  exact rfl

set_option maxHeartbeats 4000000 in
theorem Div64_s (hi lo y : Int) (hh0 : 0 ≤ hi) (hhy : hi < y) (hl0 : 0 ≤ lo) (hl1 : lo < 18446744073709551616) (hy1 : y < 18446744073709551616) : Spec Tryd.prog 99 [.i .u64 hi, .i .u64 lo, .i .u64 y] (fun o => o = .ret (.t [.i .u64 ((hi * 18446744073709551616 + lo) / y), .i .u64 ((hi * 18446744073709551616 + lo) % y)])) := by
  refine spec_of' [(0, .i .u64 hi), (1, .i .u64 lo), (2, .i .u64 y)] rfl Tryd.func99 rfl (Nat.le_of_ble_eq_true rfl) fun Γ hN hds hL hR => ?_
  have hd : ∀ d, Nat.blt d 135 = true → d < Γ.N := fun d h => by rw [hN]; exact Nat.le_of_ble_eq_true h
  obtain ⟨s, hs⟩ : ∃ s : Nat, 64 - bl 64 y.toNat = s := ⟨_, rfl⟩
  have hz := lz_int (show 0 < y by omega) hy1
  rw [hs] at hz
  obtain ⟨s64, y0, y1⟩ := hz
  have hD := div_both s64 hh0 hhy hl0 hl1 y0 y1
  dsimp only at hD
  obtain ⟨Y, hY⟩ : ∃ Y, y * 2 ^ s = Y := ⟨_, rfl⟩
  obtain ⟨U, hU⟩ : ∃ U, hi * 2 ^ s + hiS lo s = U := ⟨_, rfl⟩
  obtain ⟨L, hLo⟩ : ∃ L, loS lo s = L := ⟨_, rfl⟩
  have hLb := @loS_bd lo s
  rw [hLo] at hLb
  rw [hY] at y0 y1
  rw [hY, hU, hLo] at hD
  obtain ⟨N1, hN1⟩ : ∃ N, U * 4294967296 + L / 4294967296 = N := ⟨_, rfl⟩
  rw [hN1] at hD
  obtain ⟨R1, hR1⟩ : ∃ N, N1 % Y = N := ⟨_, rfl⟩
  rw [hR1] at hD
  obtain ⟨N2, hN2⟩ : ∃ N, R1 * 4294967296 + L % 4294967296 = N := ⟨_, rfl⟩
  rw [hN2] at hD
  obtain ⟨hP1, hP2, hE1, hE2⟩ := hD
  have hU0 := hP1.u0
  have hU1 := hP1.lt
  have hp2 := p2pos s
  have hhs : 0 ≤ hi * 2 ^ s := Int.mul_nonneg hh0 (Int.le_of_lt hp2)
  have hhb := hiS_bd (s := s) (Nat.le_of_lt s64) hl0 hl1
  have hq1l := hP1.q_lt
  have hq1n := hP1.q_nn
  have hq2l := hP2.q_lt
  have hq2n := hP2.q_nn
  have hfi1 := hP1.first
  have hfi2 := hP2.first
  have hr20 := hP2.u0
  have hr21 := hP2.lt
  have hrr := hP2.rest_lt
  refine jc_seq ?_; refine jc_region ?_; refine jo_l (ly_as rfl) (hd 6 rfl) ?_; refine jo_l (ly_as rfl) (hd 7 rfl) ?_; refine jo_nil ?_; refine jc_seq ?_; refine jc_seq ?_; refine jc_region ?_; refine jo_l (ly_mv rfl) (hd 19 rfl) ?_; refine jo_l (ly_ff (ly_eq rfl rfl) (by omega)) (hd 20 rfl) ?_; refine jo_nil ?_; refine jc_litf rfl ?_; refine jc_skip ?_; refine jc_seq ?_; refine jc_seq ?_; refine jc_region ?_; refine jo_l (ly_mv rfl) (hd 22 rfl) ?_; refine jo_l (ly_mv rfl) (hd 23 rfl) ?_; refine jo_l (ly_ff (ly_le rfl rfl) (by omega)) (hd 24 rfl) ?_; refine jo_nil ?_; refine jc_litf rfl ?_; refine jc_skip ?_; refine jc_seq ?_; refine jc_seq ?_; refine jc_region ?_; refine jo_l (ly_mv rfl) (hd 26 rfl) ?_; refine jo_l (ly_eq rfl rfl) (hd 27 rfl) ?_; refine jo_nil ?_
  refine jc_if rfl (fun h3 => ?_) (fun h3 => ?_)
  · obtain rfl : hi = 0 := h3
    refine jc_seq ?_; refine jc_draw (n := 8) _ rfl mixed ?_; refine ja_l 0 (lo_l (ly_mv rfl) (hd 28 rfl)) rfl (by kernel_rfl) (by kernel_rfl) (by kernel_rfl) (fun _ _ _ _ h => h) ?_; refine ja_l 1 (lo_l (ly_mv rfl) (hd 29 rfl)) rfl (by kernel_rfl) (by kernel_rfl) (by kernel_rfl) (fun _ _ _ _ h => h) ?_; refine ja_l 2 (lo_l (ly_quo rfl rfl (by omega) (r := lo / y) (quo_u64 hl0 hl1 (by omega))) (hd 30 rfl)) rfl (by kernel_rfl) (by kernel_rfl) (by kernel_rfl) (fun _ _ _ _ h => h) ?_; refine ja_l 3 (lo_l (ly_mv rfl) (hd 31 rfl)) rfl (by kernel_rfl) (by kernel_rfl) (by kernel_rfl) (fun _ _ _ _ h => h) ?_; refine ja_l 4 (lo_l (ly_mv rfl) (hd 32 rfl)) rfl (by kernel_rfl) (by kernel_rfl) (by kernel_rfl) (fun _ _ _ _ h => h) ?_; refine ja_l 5 (lo_l (ly_is (ly_rem rfl rfl (by omega) rfl) (show V.i .u64 _ = V.i .u64 (lo % y) from congrArg (V.i .u64) (Int.tmod_eq_emod_of_nonneg hl0))) (hd 33 rfl)) rfl (by kernel_rfl) (by kernel_rfl) (by kernel_rfl) (fun _ _ _ _ h => h) ?_; refine ja_l 6 (lo_l (ly_as rfl) (hd 6 rfl)) rfl (by kernel_rfl) (by kernel_rfl) (by kernel_rfl) (fun _ _ _ _ h => h) ?_; refine ja_l 7 (lo_l (ly_as rfl) (hd 7 rfl)) rfl (by kernel_rfl) (by kernel_rfl) (by kernel_rfl) (fun _ _ _ _ h => h) ?_; refine ja_nil (by kernel_rfl) ?_; refine jc_ret ?_
    refine ⟨_, _, (.cons rfl (.cons rfl .nil)), (.t1 .i (.t1 .i .t0)), ?_⟩
    rw [Int.zero_mul, Int.zero_add]
  · refine jc_skip ?_; refine jc_seq ?_; refine jc_region ?_; refine jo_l (ly_is (ly_mv rfl) (show V.i .u64 _ = V.i .u64 ((y.toNat : Int)) from congrArg (V.i .u64) (Int.toNat_of_nonneg (by omega)).symm)) (hd 34 rfl) ?_
    refine jo_call Tryd.f100 (Lz_s y.toNat (by omega)) rfl Tryd.func100 rfl rfl (ovL_cons rfl ovL_nil) (.cons .i .nil) (hd 35 rfl) ?_ (fun ch hp => by simp at hp)
    rintro y hy; injection hy with hy; subst hy; refine jo_l (ly_conv und3 und116 rfl (r := (s : Int)) (by rw [hs]; exact wrap_u64 (by omega) (by omega))) (hd 36 rfl) ?_; refine jo_l (ly_as rfl) (hd 8 rfl) ?_; refine jo_nil ?_; refine jc_seq ?_; refine jc_region ?_; refine jo_l (ly_mv rfl) (hd 37 rfl) ?_; refine jo_l (ly_mv rfl) (hd 38 rfl) ?_; refine jo_l (ly_is (ly_shl rfl rfl (by omega) rfl) (show V.i .u64 _ = V.i .u64 (Y) from congrArg (V.i .u64) (shl_fit (by omega) hY (by omega) (by omega)))) (hd 39 rfl) ?_; refine jo_l (ly_as rfl) (hd 2 rfl) ?_; refine jo_nil ?_; refine jc_seq ?_; refine jc_region ?_; refine jo_l (ly_mv rfl) (hd 40 rfl) ?_; refine jo_l (ly_is (ly_shr rfl rfl (by omega) rfl) (show V.i .u64 _ = V.i .u64 (Y / 4294967296) from congrArg (V.i .u64) (shr32 (by omega)))) (hd 41 rfl) ?_; refine jo_l (ly_as rfl) (hd 9 rfl) ?_; refine jo_nil ?_; refine jc_seq ?_; refine jc_region ?_; refine jo_l (ly_mv rfl) (hd 42 rfl) ?_; refine jo_l (ly_is (ly_bit (by simp) rfl rfl rfl) (show V.i .u64 _ = V.i .u64 (Y % 4294967296) from congrArg (V.i .u64) (and32 (by omega) (by omega)))) (hd 43 rfl) ?_; refine jo_l (ly_as rfl) (hd 10 rfl) ?_; refine jo_nil ?_; refine jc_seq ?_; refine jc_region ?_; refine jo_l (ly_mv rfl) (hd 44 rfl) ?_; refine jo_l (ly_mv rfl) (hd 45 rfl) ?_; refine jo_l (ly_is (ly_shl rfl rfl (by omega) rfl) (show V.i .u64 _ = V.i .u64 (loS hi s) from congrArg (V.i .u64) (shl_sym (by omega)))) (hd 46 rfl) ?_; refine jo_l (ly_mv rfl) (hd 47 rfl) ?_; refine jo_l (ly_mv rfl) (hd 48 rfl) ?_; refine jo_l (ly_sub rfl rfl (r := ((64 - s : Nat) : Int)) (by rw [wrap_u64 (by omega) (by omega)]; omega)) (hd 49 rfl) ?_; refine jo_l (ly_is (ly_shr rfl rfl (by omega) rfl) (show V.i .u64 _ = V.i .u64 (lo / 2 ^ (64 - s)) from congrArg (V.i .u64) (shr_sym (by omega)))) (hd 50 rfl) ?_; refine jo_l (ly_is (ly_bit (by simp) rfl rfl rfl) (show V.i .u64 _ = V.i .u64 (U) from congrArg (V.i .u64) ((or_hi (by omega) hhs (by omega) hl0 hl1 hh0).trans hU))) (hd 51 rfl) ?_; refine jo_l (ly_as rfl) (hd 11 rfl) ?_; refine jo_nil ?_; refine jc_seq ?_; refine jc_region ?_; refine jo_l (ly_mv rfl) (hd 52 rfl) ?_; refine jo_l (ly_mv rfl) (hd 53 rfl) ?_; refine jo_l (ly_is (ly_shl rfl rfl (by omega) rfl) (show V.i .u64 _ = V.i .u64 (L) from congrArg (V.i .u64) ((shl_sym (by omega)).trans hLo))) (hd 54 rfl) ?_; refine jo_l (ly_as rfl) (hd 12 rfl) ?_; refine jo_nil ?_; refine jc_seq ?_; refine jc_region ?_; refine jo_l (ly_mv rfl) (hd 55 rfl) ?_; refine jo_l (ly_is (ly_shr rfl rfl (by omega) rfl) (show V.i .u64 _ = V.i .u64 (L / 4294967296) from congrArg (V.i .u64) (shr32 (by omega)))) (hd 56 rfl) ?_; refine jo_l (ly_as rfl) (hd 13 rfl) ?_; refine jo_nil ?_; refine jc_seq ?_; refine jc_region ?_; refine jo_l (ly_mv rfl) (hd 57 rfl) ?_; refine jo_l (ly_is (ly_bit (by simp) rfl rfl rfl) (show V.i .u64 _ = V.i .u64 (L % 4294967296) from congrArg (V.i .u64) (and32 (by omega) (by omega)))) (hd 58 rfl) ?_; refine jo_l (ly_as rfl) (hd 14 rfl) ?_; refine jo_nil ?_; refine jc_seq ?_; refine jc_region ?_; refine jo_l (ly_mv rfl) (hd 59 rfl) ?_; refine jo_l (ly_mv rfl) (hd 60 rfl) ?_; refine jo_l (ly_quo rfl rfl (by omega) (r := U / (Y / 4294967296)) (quo_u64 (by omega) (by omega) (by omega))) (hd 61 rfl) ?_; refine jo_l (ly_as rfl) (hd 15 rfl) ?_; refine jo_nil ?_; refine jc_seq ?_; refine jc_region ?_; refine jo_l (ly_mv rfl) (hd 62 rfl) ?_; refine jo_l (ly_mv rfl) (hd 63 rfl) ?_; refine jo_l (ly_mv rfl) (hd 64 rfl) ?_; refine jo_l (ly_mul rfl rfl rfl) (hd 65 rfl) ?_; refine jo_l (ly_is (ly_sub rfl rfl rfl) (show V.i .u64 _ = V.i .u64 (U - U / (Y / 4294967296) * (Y / 4294967296)) from congrArg (V.i .u64) (sub_fit hfi1.1.2.2.2 (by omega)))) (hd 66 rfl) ?_; refine jo_l (ly_as rfl) (hd 16 rfl) ?_; refine jo_nil ?_
    refine jc_meetH (G := Unit) (fun _ => True) (fun _ => [(15, .i .u64 (N1 / Y)), (16, .u), (67, .u), (68, .u), (69, .u), (70, .u), (71, .u), (72, .u), (73, .u), (74, .u), (75, .u), (76, .u), (77, .u), (78, .u), (79, .u), (80, .u), (81, .u), (82, .u), (83, .u), (84, .u), (85, .u)]) ?_ ?_
    · refine jc_block ?_
      refine jc_loopF (G := Int × Int) (fun g => Hf N1 Y U g.1 g.2 ∧ 0 ≤ g.1 ∧ g.2 < 4294967296) (fun g => [(15, .i .u64 g.1), (16, .i .u64 g.2), (67, .u), (68, .u), (69, .u), (70, .u), (71, .u), (72, .u), (73, .u), (74, .u), (75, .u), (76, .u), (77, .u), (78, .u), (79, .u), (80, .u), (81, .u), (82, .u), (83, .u), (84, .u), (85, .u)]) (fun _ => _) (fun g => g.1.toNat) (U / (Y / 4294967296), U - U / (Y / 4294967296) * (Y / 4294967296)) ?_ ?_ rfl ?_
      · exact ⟨hP1.first.1, hP1.first.2.1, hP1.first.2.2⟩
      · exact (.cons rfl (.cons rfl (.u (.u (.u (.u (.u (.u (.u (.u (.u (.u (.u (.u (.u (.u (.u (.u (.u (.u (.u .nil)))))))))))))))))))))
      · rintro ⟨q, r⟩ ⟨hf, hq0, hr1⟩
        dsimp only at hf hq0 hr1
        have hf4 := hf
        obtain ⟨he, hQ, hq1, hr0⟩ := hf4
        have hmb := mul_bd (m := 4294967295) hq0 (show 0 ≤ Y % 4294967296 by omega)
        refine jc_seq ?_; refine jc_seq ?_; refine jc_region ?_; refine jo_l (ly_mv rfl) (hd 67 rfl) ?_; refine jo_l (ly_ge rfl rfl) (hd 68 rfl) ?_; refine jo_l (ly_mv rfl) (hd 69 rfl) ?_
        refine jo_ifp 69 rfl (fun h4 => ?_) (fun h4 => ?_)
        · refine jo_s 69 rfl rfl rfl (hd 70 rfl) ?_; refine jo_s 69 rfl rfl rfl (hd 71 rfl) ?_; refine jo_s 69 rfl rfl rfl (hd 72 rfl) ?_; refine jo_s 69 rfl rfl rfl (hd 73 rfl) ?_; refine jo_s 69 rfl rfl rfl (hd 74 rfl) ?_; refine jo_s 69 rfl rfl rfl (hd 75 rfl) ?_; refine jo_s 69 rfl rfl rfl (hd 76 rfl) ?_; refine jo_s 69 rfl rfl rfl (hd 77 rfl) ?_; refine jo_l (ly_pick_t rfl rfl) (hd 78 rfl) ?_; refine jo_nil ?_; refine jc_litt rfl ?_; refine jc_skip ?_; refine jc_block ?_; refine jc_seq ?_
          obtain ⟨hn1, hn2, hn3⟩ := hP1.next hf (by first | (left; omega) | (right; omega))
          refine jc_region ?_; refine jo_l (ly_mv rfl) (hd 79 rfl) ?_; refine jo_l (ly_sub rfl rfl (wrap_u64 (by first | omega | (dsimp only; omega)) (by first | omega | (dsimp only; omega)))) (hd 80 rfl) ?_; refine jo_l (ly_as rfl) (hd 15 rfl) ?_; refine jo_nil ?_; refine jc_seq ?_; refine jc_region ?_; refine jo_l (ly_mv rfl) (hd 81 rfl) ?_; refine jo_l (ly_mv rfl) (hd 82 rfl) ?_; refine jo_l (ly_add rfl rfl (wrap_u64 (by first | omega | (dsimp only; omega)) (by first | omega | (dsimp only; omega)))) (hd 83 rfl) ?_; refine jo_l (ly_as rfl) (hd 16 rfl) ?_; refine jo_nil ?_; refine jc_seq ?_; refine jc_region ?_; refine jo_l (ly_mv rfl) (hd 84 rfl) ?_; refine jo_l (ly_ge rfl rfl) (hd 85 rfl) ?_; refine jo_nil ?_
          refine jc_if rfl (fun h6 => ?_) (fun h6 => ?_)
          · refine jc_exit ?_
            refine ⟨(), ?_, rfl, cov_n 43 rfl rfl ?_⟩
            · trivial
            · exact (.cons (by show some (V.i .u64 _) = some (V.i .u64 _); congr 2; first | exact hP1.over hn1 (by omega) (by omega) (by omega) | exact hP1.last hf (by omega)) (.u (.u (.u (.u (.u (.u (.u (.u (.u (.u (.u (.u (.u (.u (.u (.u (.u (.u (.u (.u .nil)))))))))))))))))))))
          · refine jc_skip ?_
            refine ⟨(q - 1, r + Y / 4294967296), ?_, ?_, rfl, cov_n 43 rfl rfl ?_⟩
            · exact ⟨hn1, by show 0 ≤ q - 1; omega, by show r + Y / 4294967296 < 4294967296; omega⟩
            · show (q - 1).toNat < q.toNat
              omega
            · exact (.cons rfl (.cons rfl (.u (.u (.u (.u (.u (.u (.u (.u (.u (.u (.u (.u (.u (.u (.u (.u (.u (.u (.u .nil)))))))))))))))))))))
        · refine jo_g 69 rfl rfl (ly_mv rfl) (hd 70 rfl) ?_; refine jo_g 69 rfl rfl (ly_mv rfl) (hd 71 rfl) ?_; refine jo_g 69 rfl rfl (ly_mul rfl rfl (wrap_u64 (by have := hmb (by omega) (by omega); dsimp only; omega) (by have := hmb (by omega) (by omega); dsimp only; omega))) (hd 72 rfl) ?_; refine jo_g 69 rfl rfl (ly_mv rfl) (hd 73 rfl) ?_; refine jo_g 69 rfl rfl (ly_mul rfl rfl (wrap_u64 (by first | omega | (dsimp only; omega)) (by first | omega | (dsimp only; omega)))) (hd 74 rfl) ?_; refine jo_g 69 rfl rfl (ly_mv rfl) (hd 75 rfl) ?_; refine jo_g 69 rfl rfl (ly_add rfl rfl (wrap_u64 (by first | omega | (dsimp only; omega)) (by first | omega | (dsimp only; omega)))) (hd 76 rfl) ?_; refine jo_g 69 rfl rfl (ly_gt rfl rfl) (hd 77 rfl) ?_; refine jo_l (ly_pick_f rfl rfl) (hd 78 rfl) ?_; refine jo_nil ?_
          refine jc_if rfl (fun h7 => ?_) (fun h7 => ?_)
          · refine jc_skip ?_; refine jc_block ?_; refine jc_seq ?_
            obtain ⟨hn1, hn2, hn3⟩ := hP1.next hf (by first | (left; omega) | (right; omega))
            refine jc_region ?_; refine jo_l (ly_mv rfl) (hd 79 rfl) ?_; refine jo_l (ly_sub rfl rfl (wrap_u64 (by first | omega | (dsimp only; omega)) (by first | omega | (dsimp only; omega)))) (hd 80 rfl) ?_; refine jo_l (ly_as rfl) (hd 15 rfl) ?_; refine jo_nil ?_; refine jc_seq ?_; refine jc_region ?_; refine jo_l (ly_mv rfl) (hd 81 rfl) ?_; refine jo_l (ly_mv rfl) (hd 82 rfl) ?_; refine jo_l (ly_add rfl rfl (wrap_u64 (by first | omega | (dsimp only; omega)) (by first | omega | (dsimp only; omega)))) (hd 83 rfl) ?_; refine jo_l (ly_as rfl) (hd 16 rfl) ?_; refine jo_nil ?_; refine jc_seq ?_; refine jc_region ?_; refine jo_l (ly_mv rfl) (hd 84 rfl) ?_; refine jo_l (ly_ge rfl rfl) (hd 85 rfl) ?_; refine jo_nil ?_
            refine jc_if rfl (fun h8 => ?_) (fun h8 => ?_)
            · refine jc_exit ?_
              refine ⟨(), ?_, rfl, cov_n 43 rfl rfl ?_⟩
              · trivial
              · exact (.cons (by show some (V.i .u64 _) = some (V.i .u64 _); congr 2; first | exact hP1.over hn1 (by omega) (by omega) (by omega) | exact hP1.last hf (by omega)) (.u (.u (.u (.u (.u (.u (.u (.u (.u (.u (.u (.u (.u (.u (.u (.u (.u (.u (.u (.u .nil)))))))))))))))))))))
            · refine jc_skip ?_
              refine ⟨(q - 1, r + Y / 4294967296), ?_, ?_, rfl, cov_n 43 rfl rfl ?_⟩
              · exact ⟨hn1, by show 0 ≤ q - 1; omega, by show r + Y / 4294967296 < 4294967296; omega⟩
              · show (q - 1).toNat < q.toNat
                omega
              · exact (.cons rfl (.cons rfl (.u (.u (.u (.u (.u (.u (.u (.u (.u (.u (.u (.u (.u (.u (.u (.u (.u (.u (.u .nil)))))))))))))))))))))
          · refine jc_exit ?_
            refine ⟨(), ?_, rfl, cov_n 34 rfl rfl ?_⟩
            · trivial
            · exact (.cons (by show some (V.i .u64 _) = some (V.i .u64 _); congr 2; first | exact hP1.over hn1 (by omega) (by omega) (by omega) | exact hP1.last hf (by omega)) (.u (.u (.u (.u (.u (.u (.u (.u (.u (.u (.u (.u (.u (.u (.u (.u (.u (.u (.u (.u .nil)))))))))))))))))))))
    · rintro _ _; refine jc_seq ?_; refine jc_region ?_; refine jo_l (ly_mv rfl) (hd 86 rfl) ?_; refine jo_l (ly_mul rfl rfl rfl) (hd 87 rfl) ?_; refine jo_l (ly_mv rfl) (hd 88 rfl) ?_; refine jo_l (ly_add rfl rfl rfl) (hd 89 rfl) ?_; refine jo_l (ly_mv rfl) (hd 90 rfl) ?_; refine jo_l (ly_mv rfl) (hd 91 rfl) ?_; refine jo_l (ly_mul rfl rfl rfl) (hd 92 rfl) ?_; refine jo_l (ly_is (ly_sub rfl rfl rfl) (show V.i .u64 _ = V.i .u64 (R1) from congrArg (V.i .u64) (hP1.rest.trans hR1))) (hd 93 rfl) ?_; refine jo_l (ly_as rfl) (hd 17 rfl) ?_; refine jo_nil ?_; refine jc_seq ?_; refine jc_region ?_; refine jo_l (ly_mv rfl) (hd 94 rfl) ?_; refine jo_l (ly_mv rfl) (hd 95 rfl) ?_; refine jo_l (ly_quo rfl rfl (by omega) (r := R1 / (Y / 4294967296)) (quo_u64 (by omega) (by omega) (by omega))) (hd 96 rfl) ?_; refine jo_l (ly_as rfl) (hd 18 rfl) ?_; refine jo_nil ?_; refine jc_seq ?_; refine jc_region ?_; refine jo_l (ly_mv rfl) (hd 97 rfl) ?_; refine jo_l (ly_mv rfl) (hd 98 rfl) ?_; refine jo_l (ly_mv rfl) (hd 99 rfl) ?_; refine jo_l (ly_mul rfl rfl rfl) (hd 100 rfl) ?_; refine jo_l (ly_is (ly_sub rfl rfl rfl) (show V.i .u64 _ = V.i .u64 (R1 - R1 / (Y / 4294967296) * (Y / 4294967296)) from congrArg (V.i .u64) (sub_fit hfi2.1.2.2.2 (by omega)))) (hd 101 rfl) ?_; refine jo_l (ly_as rfl) (hd 16 rfl) ?_; refine jo_nil ?_
      refine jc_meetH (G := Unit) (fun _ => True) (fun _ => [(18, .i .u64 (N2 / Y)), (16, .u), (102, .u), (103, .u), (104, .u), (105, .u), (106, .u), (107, .u), (108, .u), (109, .u), (110, .u), (111, .u), (112, .u), (113, .u), (114, .u), (115, .u), (116, .u), (117, .u), (118, .u), (119, .u), (120, .u)]) ?_ ?_
      · refine jc_block ?_
        refine jc_loopF (G := Int × Int) (fun g => Hf N2 Y R1 g.1 g.2 ∧ 0 ≤ g.1 ∧ g.2 < 4294967296) (fun g => [(18, .i .u64 g.1), (16, .i .u64 g.2), (102, .u), (103, .u), (104, .u), (105, .u), (106, .u), (107, .u), (108, .u), (109, .u), (110, .u), (111, .u), (112, .u), (113, .u), (114, .u), (115, .u), (116, .u), (117, .u), (118, .u), (119, .u), (120, .u)]) (fun _ => _) (fun g => g.1.toNat) (R1 / (Y / 4294967296), R1 - R1 / (Y / 4294967296) * (Y / 4294967296)) ?_ ?_ rfl ?_
        · exact ⟨hP2.first.1, hP2.first.2.1, hP2.first.2.2⟩
        · exact (.cons rfl (.cons rfl (.u (.u (.u (.u (.u (.u (.u (.u (.u (.u (.u (.u (.u (.u (.u (.u (.u (.u (.u .nil)))))))))))))))))))))
        · rintro ⟨q, r⟩ ⟨hf, hq0, hr1⟩
          dsimp only at hf hq0 hr1
          have hf4 := hf
          obtain ⟨he, hQ, hq1, hr0⟩ := hf4
          have hmb := mul_bd (m := 4294967295) hq0 (show 0 ≤ Y % 4294967296 by omega)
          refine jc_seq ?_; refine jc_seq ?_; refine jc_region ?_; refine jo_l (ly_mv rfl) (hd 102 rfl) ?_; refine jo_l (ly_ge rfl rfl) (hd 103 rfl) ?_; refine jo_l (ly_mv rfl) (hd 104 rfl) ?_
          refine jo_ifp 104 rfl (fun h9 => ?_) (fun h9 => ?_)
          · refine jo_s 104 rfl rfl rfl (hd 105 rfl) ?_; refine jo_s 104 rfl rfl rfl (hd 106 rfl) ?_; refine jo_s 104 rfl rfl rfl (hd 107 rfl) ?_; refine jo_s 104 rfl rfl rfl (hd 108 rfl) ?_; refine jo_s 104 rfl rfl rfl (hd 109 rfl) ?_; refine jo_s 104 rfl rfl rfl (hd 110 rfl) ?_; refine jo_s 104 rfl rfl rfl (hd 111 rfl) ?_; refine jo_s 104 rfl rfl rfl (hd 112 rfl) ?_; refine jo_l (ly_pick_t rfl rfl) (hd 113 rfl) ?_; refine jo_nil ?_; refine jc_litt rfl ?_; refine jc_skip ?_; refine jc_block ?_; refine jc_seq ?_
            obtain ⟨hn1, hn2, hn3⟩ := hP2.next hf (by first | (left; omega) | (right; omega))
            refine jc_region ?_; refine jo_l (ly_mv rfl) (hd 114 rfl) ?_; refine jo_l (ly_sub rfl rfl (wrap_u64 (by first | omega | (dsimp only; omega)) (by first | omega | (dsimp only; omega)))) (hd 115 rfl) ?_; refine jo_l (ly_as rfl) (hd 18 rfl) ?_; refine jo_nil ?_; refine jc_seq ?_; refine jc_region ?_; refine jo_l (ly_mv rfl) (hd 116 rfl) ?_; refine jo_l (ly_mv rfl) (hd 117 rfl) ?_; refine jo_l (ly_add rfl rfl (wrap_u64 (by first | omega | (dsimp only; omega)) (by first | omega | (dsimp only; omega)))) (hd 118 rfl) ?_; refine jo_l (ly_as rfl) (hd 16 rfl) ?_; refine jo_nil ?_; refine jc_seq ?_; refine jc_region ?_; refine jo_l (ly_mv rfl) (hd 119 rfl) ?_; refine jo_l (ly_ge rfl rfl) (hd 120 rfl) ?_; refine jo_nil ?_
            refine jc_if rfl (fun h11 => ?_) (fun h11 => ?_)
            · refine jc_exit ?_
              refine ⟨(), ?_, rfl, cov_n 43 rfl rfl ?_⟩
              · trivial
              · exact (.cons (by show some (V.i .u64 _) = some (V.i .u64 _); congr 2; first | exact hP2.over hn1 (by omega) (by omega) (by omega) | exact hP2.last hf (by omega)) (.u (.u (.u (.u (.u (.u (.u (.u (.u (.u (.u (.u (.u (.u (.u (.u (.u (.u (.u (.u .nil)))))))))))))))))))))
            · refine jc_skip ?_
              refine ⟨(q - 1, r + Y / 4294967296), ?_, ?_, rfl, cov_n 43 rfl rfl ?_⟩
              · exact ⟨hn1, by show 0 ≤ q - 1; omega, by show r + Y / 4294967296 < 4294967296; omega⟩
              · show (q - 1).toNat < q.toNat
                omega
              · exact (.cons rfl (.cons rfl (.u (.u (.u (.u (.u (.u (.u (.u (.u (.u (.u (.u (.u (.u (.u (.u (.u (.u (.u .nil)))))))))))))))))))))
          · refine jo_g 104 rfl rfl (ly_mv rfl) (hd 105 rfl) ?_; refine jo_g 104 rfl rfl (ly_mv rfl) (hd 106 rfl) ?_; refine jo_g 104 rfl rfl (ly_mul rfl rfl (wrap_u64 (by have := hmb (by omega) (by omega); dsimp only; omega) (by have := hmb (by omega) (by omega); dsimp only; omega))) (hd 107 rfl) ?_; refine jo_g 104 rfl rfl (ly_mv rfl) (hd 108 rfl) ?_; refine jo_g 104 rfl rfl (ly_mul rfl rfl (wrap_u64 (by first | omega | (dsimp only; omega)) (by first | omega | (dsimp only; omega)))) (hd 109 rfl) ?_; refine jo_g 104 rfl rfl (ly_mv rfl) (hd 110 rfl) ?_; refine jo_g 104 rfl rfl (ly_add rfl rfl (wrap_u64 (by first | omega | (dsimp only; omega)) (by first | omega | (dsimp only; omega)))) (hd 111 rfl) ?_; refine jo_g 104 rfl rfl (ly_gt rfl rfl) (hd 112 rfl) ?_; refine jo_l (ly_pick_f rfl rfl) (hd 113 rfl) ?_; refine jo_nil ?_
            refine jc_if rfl (fun h12 => ?_) (fun h12 => ?_)
            · refine jc_skip ?_; refine jc_block ?_; refine jc_seq ?_
              obtain ⟨hn1, hn2, hn3⟩ := hP2.next hf (by first | (left; omega) | (right; omega))
              refine jc_region ?_; refine jo_l (ly_mv rfl) (hd 114 rfl) ?_; refine jo_l (ly_sub rfl rfl (wrap_u64 (by first | omega | (dsimp only; omega)) (by first | omega | (dsimp only; omega)))) (hd 115 rfl) ?_; refine jo_l (ly_as rfl) (hd 18 rfl) ?_; refine jo_nil ?_; refine jc_seq ?_; refine jc_region ?_; refine jo_l (ly_mv rfl) (hd 116 rfl) ?_; refine jo_l (ly_mv rfl) (hd 117 rfl) ?_; refine jo_l (ly_add rfl rfl (wrap_u64 (by first | omega | (dsimp only; omega)) (by first | omega | (dsimp only; omega)))) (hd 118 rfl) ?_; refine jo_l (ly_as rfl) (hd 16 rfl) ?_; refine jo_nil ?_; refine jc_seq ?_; refine jc_region ?_; refine jo_l (ly_mv rfl) (hd 119 rfl) ?_; refine jo_l (ly_ge rfl rfl) (hd 120 rfl) ?_; refine jo_nil ?_
              refine jc_if rfl (fun h13 => ?_) (fun h13 => ?_)
              · refine jc_exit ?_
                refine ⟨(), ?_, rfl, cov_n 43 rfl rfl ?_⟩
                · trivial
                · exact (.cons (by show some (V.i .u64 _) = some (V.i .u64 _); congr 2; first | exact hP2.over hn1 (by omega) (by omega) (by omega) | exact hP2.last hf (by omega)) (.u (.u (.u (.u (.u (.u (.u (.u (.u (.u (.u (.u (.u (.u (.u (.u (.u (.u (.u (.u .nil)))))))))))))))))))))
              · refine jc_skip ?_
                refine ⟨(q - 1, r + Y / 4294967296), ?_, ?_, rfl, cov_n 43 rfl rfl ?_⟩
                · exact ⟨hn1, by show 0 ≤ q - 1; omega, by show r + Y / 4294967296 < 4294967296; omega⟩
                · show (q - 1).toNat < q.toNat
                  omega
                · exact (.cons rfl (.cons rfl (.u (.u (.u (.u (.u (.u (.u (.u (.u (.u (.u (.u (.u (.u (.u (.u (.u (.u (.u .nil)))))))))))))))))))))
            · refine jc_exit ?_
              refine ⟨(), ?_, rfl, cov_n 34 rfl rfl ?_⟩
              · trivial
              · exact (.cons (by show some (V.i .u64 _) = some (V.i .u64 _); congr 2; first | exact hP2.over hn1 (by omega) (by omega) (by omega) | exact hP2.last hf (by omega)) (.u (.u (.u (.u (.u (.u (.u (.u (.u (.u (.u (.u (.u (.u (.u (.u (.u (.u (.u (.u .nil)))))))))))))))))))))
      · rintro _ _; refine jc_seq ?_; refine jc_region ?_; refine jo_l (ly_mv rfl) (hd 121 rfl) ?_; refine jo_l (ly_mul rfl rfl (wrap_u64 (by first | omega | (dsimp only; omega)) (by first | omega | (dsimp only; omega)))) (hd 122 rfl) ?_; refine jo_l (ly_mv rfl) (hd 123 rfl) ?_; refine jo_l (ly_add rfl rfl (r := (hi * 18446744073709551616 + lo) / y) (by rw [wrap_u64 (by omega) (by omega)]; exact hE1)) (hd 124 rfl) ?_; refine jo_l (ly_mv rfl) (hd 125 rfl) ?_; refine jo_l (ly_mul rfl rfl rfl) (hd 126 rfl) ?_; refine jo_l (ly_mv rfl) (hd 127 rfl) ?_; refine jo_l (ly_add rfl rfl rfl) (hd 128 rfl) ?_; refine jo_l (ly_mv rfl) (hd 129 rfl) ?_; refine jo_l (ly_mv rfl) (hd 130 rfl) ?_; refine jo_l (ly_mul rfl rfl rfl) (hd 131 rfl) ?_; refine jo_l (ly_is (ly_sub rfl rfl rfl) (show V.i .u64 _ = V.i .u64 (N2 % Y) from congrArg (V.i .u64) hP2.rest)) (hd 132 rfl) ?_; refine jo_l (ly_mv rfl) (hd 133 rfl) ?_; refine jo_l (ly_is (ly_shr rfl rfl (by omega) rfl) (show V.i .u64 _ = V.i .u64 ((hi * 18446744073709551616 + lo) % y) from congrArg (V.i .u64) ((shr_sym (by omega)).trans hE2))) (hd 134 rfl) ?_; refine jo_l (ly_as rfl) (hd 6 rfl) ?_; refine jo_l (ly_as rfl) (hd 7 rfl) ?_; refine jo_nil ?_; refine jc_ret ?_
        refine ⟨_, _, (.cons rfl (.cons rfl .nil)), (.t1 .i (.t1 .i .t0)), ?_⟩
        rfl
end Go.Proofs.YtaogaegchagbfaaDoor.Vc

/- Contracts of div.up, down. -/
namespace Go.Proofs.YtaogaegchagbfaaDoor.Vc
open Go Go.RowKit
set_option maxHeartbeats 4000000 in
theorem up_s (s : Nat) (a : List Int) (hl : a.length < 1099511627776) (hs : s < 64) (ua : u64s a) : Spec Tryd.prog 101 [.n false .u64 a, .i .u64 (s : Int)] (fun o => o = .ret (.n true .u64 (upL a s))) := by
  refine spec_of' [(0, .n false .u64 a), (1, .i .u64 (s : Int))] rfl Tryd.func101 rfl (Nat.le_of_ble_eq_true rfl) fun Γ hN hds hL hR => ?_
  have hd : ∀ d, Nat.blt d 39 = true → d < Γ.N := fun d h => by rw [hN]; exact Nat.le_of_ble_eq_true h
  refine jc_seq ?_; refine jc_region ?_; refine jo_l (ly_as rfl) (hd 4 rfl) ?_; refine jo_nil ?_; refine jc_seq ?_; refine jc_region ?_; refine jo_l (ly_mv rfl) (hd 8 rfl) ?_; refine jo_l (ly_lenn sl28 rfl) (hd 9 rfl) ?_; refine jo_l (ly_add rfl rfl (r := ((a.length + 1 : Nat) : Int)) (by rw [wrap_i64 (by omega) (by omega)]; omega)) (hd 10 rfl) ?_; refine jo_h (hy_mk (m := a.length + 1) el28 rfl rfl rfl (by show 8 * (a.length + 1) ≤ _; omega) (by unfold maxLen; omega) rfl) (hd 11 rfl) ?_; refine jo_l (ly_as rfl) (hd 5 rfl) ?_; refine jo_nil ?_; refine jc_seq ?_; refine jc_seq ?_; refine jc_H (H' := [⟨76, 1, 0, true, ints .u64 (upR a s 0)⟩]) (by rw [← upR_0]; rfl) ?_; refine jc_region ?_; refine jo_l (ly_mv rfl) (hd 12 rfl) ?_; refine jo_l (ly_lenn sl28 rfl) (hd 13 rfl) ?_; refine jo_l (ly_mv rfl) (hd 14 rfl) ?_; refine jo_nil ?_; refine jc_block ?_
  refine jc_loopF (G := Nat) (fun i => i ≤ a.length) (fun i => [(14, .i .i64 (i : Int)), (6, .u), (7, .u), (15, .u), (16, .u), (17, .u), (18, .u), (19, .u), (20, .u), (21, .u), (22, .u), (23, .u), (24, .u), (25, .u), (26, .u), (27, .u), (28, .u), (29, .u), (30, .u), (31, .u), (32, .u), (33, .u), (34, .u), (35, .u), (36, .u), (37, .u)]) (fun i => [⟨76, 1, 0, true, ints .u64 (upR a s i)⟩]) (fun i => a.length - i) 0 ?_ ?_ rfl ?_
  · exact Nat.zero_le _
  · exact (.cons rfl (.u (.u (.u (.u (.u (.u (.u (.u (.u (.u (.u (.u (.u (.u (.u (.u (.u (.u (.u (.u (.u (.u (.u (.u (.u .nil))))))))))))))))))))))))))
  · rintro i hc1
    have hf := upR_len (s := s) hc1
    have hc := upN_c (Nat.le_of_lt hs) ua i
    have hx := u64s_getD ua i
    refine jc_seq ?_; refine jc_region ?_; refine jo_l (ly_lt rfl rfl) (hd 15 rfl) ?_; refine jo_nil ?_; refine jc_seq ?_
    refine jc_if rfl (fun h1 => ?_) (fun h1 => ?_)
    · refine jc_skip ?_; refine jc_seq ?_; refine jc_block ?_; refine jc_seq ?_; refine jc_region ?_; refine jo_l (ly_mv rfl) (hd 16 rfl) ?_; refine jo_l (ly_ian (i := i) sl28 rfl rfl (by first | rfl | omega) (by omega)) (hd 17 rfl) ?_; refine jo_l (ly_ldq one82 rfl rfl) (hd 18 rfl) ?_; refine jo_l (ly_as rfl) (hd 6 rfl) ?_; refine jo_l (ly_as rfl) (hd 7 rfl) ?_; refine jo_nil ?_; refine jc_seq ?_; refine jc_region ?_; refine jo_l (ly_mv rfl) (hd 19 rfl) ?_; refine jo_l (ly_mv rfl) (hd 20 rfl) ?_; refine jo_l (ly_ia (i := i) sl28 rfl rfl rfl (by first | rfl | omega) (by omega) rfl) (hd 21 rfl) ?_; refine jo_l (ly_is (ly_ldi one82 rfl rfl (by omega)) (show V.i .u64 _ = V.i .u64 ((upN a s i).2) from congrArg (V.i .u64) upR_get)) (hd 22 rfl) ?_; refine jo_l (ly_mv rfl) (hd 23 rfl) ?_; refine jo_l (ly_mv rfl) (hd 24 rfl) ?_; refine jo_l (ly_is (ly_shl rfl rfl (by omega) rfl) (show V.i .u64 _ = V.i .u64 (loS (a.getD i 0) s) from congrArg (V.i .u64) (shl_sym (by omega)))) (hd 25 rfl) ?_; refine jo_l (ly_is (ly_bit (by simp) rfl rfl rfl) (show V.i .u64 _ = V.i .u64 ((upN a s i).2 + loS (a.getD i 0) s) from congrArg (V.i .u64) (or_lo (by omega) hc.1 hc.2 hx.1).1)) (hd 26 rfl) ?_; refine jo_l (ly_ia (i := i) sl28 rfl rfl rfl (by first | rfl | omega) (by omega) rfl) (hd 27 rfl) ?_; refine jo_st (sy_storei rfl rfl rfl one82 (by omega)) ?_; refine jo_nil ?_; refine jc_region ?_; refine jo_l (ly_mv rfl) (hd 28 rfl) ?_; refine jo_l (ly_mv rfl) (hd 29 rfl) ?_; refine jo_l (ly_add rfl rfl (wrap_i64 (by omega) (by omega))) (hd 30 rfl) ?_; refine jo_l (ly_mv rfl) (hd 31 rfl) ?_; refine jo_l (ly_is (ly_shr rfl rfl (by omega) rfl) (show V.i .u64 _ = V.i .u64 (a.getD i 0 / 2) from congrArg (V.i .u64) (shr1 hx.1))) (hd 32 rfl) ?_; refine jo_l (ly_mv rfl) (hd 33 rfl) ?_; refine jo_l (ly_sub rfl rfl (r := ((63 - s : Nat) : Int)) (by rw [wrap_u64 (by omega) (by omega)]; omega)) (hd 34 rfl) ?_; refine jo_l (ly_is (ly_shr rfl rfl (by omega) rfl) (show V.i .u64 _ = V.i .u64 (hiS (a.getD i 0) s) from congrArg (V.i .u64) ((shr_sym (by omega)).trans (shr_two hs)))) (hd 35 rfl) ?_; refine jo_l (ly_ia (i := i + 1) sl28 rfl rfl rfl (by first | rfl | omega) (by omega) rfl) (hd 36 rfl) ?_; refine jo_st (sy_storei rfl rfl rfl one82 (by simp only [List.length_set]; omega)) ?_; refine jo_nil ?_; refine jc_region ?_; refine jo_l (ly_add rfl rfl (wrap_i64 (by omega) (by omega))) (hd 37 rfl) ?_; refine jo_l (ly_mv rfl) (hd 14 rfl) ?_; refine jo_nil ?_
      refine ⟨i + 1, ?_, ?_, (by show [(⟨76, 1, 0, true, ints .u64 _⟩ : Ob)] = [⟨76, 1, 0, true, ints .u64 _⟩]; rw [upR_set (by omega)]), cov_n 52 rfl rfl ?_⟩
      · omega
      · omega
      · exact (.cons rfl (.u (.u (.u (.u (.u (.u (.u (.u (.u (.u (.u (.u (.u (.u (.u (.u (.u (.u (.u (.u (.u (.u (.u (.u (.u .nil))))))))))))))))))))))))))
    · obtain rfl : i = a.length := by omega
      rw [upR_end] at hf ⊢
      refine jc_exit ?_; refine jc_seq ?_; refine jc_region ?_; refine jo_l (ly_mv rfl) (hd 38 rfl) ?_; refine jo_l (ly_as rfl) (hd 4 rfl) ?_; refine jo_nil ?_; refine jc_ret ?_
      refine ⟨_, _, (.cons rfl .nil), (.o (l := upL a s) rfl (by omega) rfl), ?_⟩
      rw [List.drop_zero, List.take_of_length_le (by omega)]

set_option maxHeartbeats 4000000 in
theorem up_n (s : Nat) (a : List Int) (hl : a.length < 1099511627776) (hs : s < 64) (ua : u64s a) : SpecM Tryd.prog 101 [.n false .u64 a, .i .u64 (s : Int)] [] (fun o G => o = .ret (.o 0 0 0 (a.length + 1)) ∧ G = [⟨76, 1, 0, true, ints .u64 (upL a s)⟩]) := by
  refine specS_of [(0, .n false .u64 a), (1, .i .u64 (s : Int))] rfl Tryd.func101 rfl (Nat.le_of_ble_eq_true rfl) fun Γ hN hds hL hR => ?_
  have hd : ∀ d, Nat.blt d 39 = true → d < Γ.N := fun d h => by rw [hN]; exact Nat.le_of_ble_eq_true h
  refine jc_seq ?_; refine jc_region ?_; refine jo_l (ly_as rfl) (hd 4 rfl) ?_; refine jo_nil ?_; refine jc_seq ?_; refine jc_region ?_; refine jo_l (ly_mv rfl) (hd 8 rfl) ?_; refine jo_l (ly_lenn sl28 rfl) (hd 9 rfl) ?_; refine jo_l (ly_add rfl rfl (r := ((a.length + 1 : Nat) : Int)) (by rw [wrap_i64 (by omega) (by omega)]; omega)) (hd 10 rfl) ?_; refine jo_h (hy_mk (m := a.length + 1) el28 rfl rfl rfl (by show 8 * (a.length + 1) ≤ _; omega) (by unfold maxLen; omega) rfl) (hd 11 rfl) ?_; refine jo_l (ly_as rfl) (hd 5 rfl) ?_; refine jo_nil ?_; refine jc_seq ?_; refine jc_seq ?_; refine jc_H (H' := [⟨76, 1, 0, true, ints .u64 (upR a s 0)⟩]) (by rw [← upR_0]; rfl) ?_; refine jc_region ?_; refine jo_l (ly_mv rfl) (hd 12 rfl) ?_; refine jo_l (ly_lenn sl28 rfl) (hd 13 rfl) ?_; refine jo_l (ly_mv rfl) (hd 14 rfl) ?_; refine jo_nil ?_; refine jc_block ?_
  refine jc_loopF (G := Nat) (fun i => i ≤ a.length) (fun i => [(14, .i .i64 (i : Int)), (6, .u), (7, .u), (15, .u), (16, .u), (17, .u), (18, .u), (19, .u), (20, .u), (21, .u), (22, .u), (23, .u), (24, .u), (25, .u), (26, .u), (27, .u), (28, .u), (29, .u), (30, .u), (31, .u), (32, .u), (33, .u), (34, .u), (35, .u), (36, .u), (37, .u)]) (fun i => [⟨76, 1, 0, true, ints .u64 (upR a s i)⟩]) (fun i => a.length - i) 0 ?_ ?_ rfl ?_
  · exact Nat.zero_le _
  · exact (.cons rfl (.u (.u (.u (.u (.u (.u (.u (.u (.u (.u (.u (.u (.u (.u (.u (.u (.u (.u (.u (.u (.u (.u (.u (.u (.u .nil))))))))))))))))))))))))))
  · rintro i hc1
    have hf := upR_len (s := s) hc1
    have hc := upN_c (Nat.le_of_lt hs) ua i
    have hx := u64s_getD ua i
    refine jc_seq ?_; refine jc_region ?_; refine jo_l (ly_lt rfl rfl) (hd 15 rfl) ?_; refine jo_nil ?_; refine jc_seq ?_
    refine jc_if rfl (fun h1 => ?_) (fun h1 => ?_)
    · refine jc_skip ?_; refine jc_seq ?_; refine jc_block ?_; refine jc_seq ?_; refine jc_region ?_; refine jo_l (ly_mv rfl) (hd 16 rfl) ?_; refine jo_l (ly_ian (i := i) sl28 rfl rfl (by first | rfl | omega) (by omega)) (hd 17 rfl) ?_; refine jo_l (ly_ldq one82 rfl rfl) (hd 18 rfl) ?_; refine jo_l (ly_as rfl) (hd 6 rfl) ?_; refine jo_l (ly_as rfl) (hd 7 rfl) ?_; refine jo_nil ?_; refine jc_seq ?_; refine jc_region ?_; refine jo_l (ly_mv rfl) (hd 19 rfl) ?_; refine jo_l (ly_mv rfl) (hd 20 rfl) ?_; refine jo_l (ly_ia (i := i) sl28 rfl rfl rfl (by first | rfl | omega) (by omega) rfl) (hd 21 rfl) ?_; refine jo_l (ly_is (ly_ldi one82 rfl rfl (by omega)) (show V.i .u64 _ = V.i .u64 ((upN a s i).2) from congrArg (V.i .u64) upR_get)) (hd 22 rfl) ?_; refine jo_l (ly_mv rfl) (hd 23 rfl) ?_; refine jo_l (ly_mv rfl) (hd 24 rfl) ?_; refine jo_l (ly_is (ly_shl rfl rfl (by omega) rfl) (show V.i .u64 _ = V.i .u64 (loS (a.getD i 0) s) from congrArg (V.i .u64) (shl_sym (by omega)))) (hd 25 rfl) ?_; refine jo_l (ly_is (ly_bit (by simp) rfl rfl rfl) (show V.i .u64 _ = V.i .u64 ((upN a s i).2 + loS (a.getD i 0) s) from congrArg (V.i .u64) (or_lo (by omega) hc.1 hc.2 hx.1).1)) (hd 26 rfl) ?_; refine jo_l (ly_ia (i := i) sl28 rfl rfl rfl (by first | rfl | omega) (by omega) rfl) (hd 27 rfl) ?_; refine jo_st (sy_storei rfl rfl rfl one82 (by omega)) ?_; refine jo_nil ?_; refine jc_region ?_; refine jo_l (ly_mv rfl) (hd 28 rfl) ?_; refine jo_l (ly_mv rfl) (hd 29 rfl) ?_; refine jo_l (ly_add rfl rfl (wrap_i64 (by omega) (by omega))) (hd 30 rfl) ?_; refine jo_l (ly_mv rfl) (hd 31 rfl) ?_; refine jo_l (ly_is (ly_shr rfl rfl (by omega) rfl) (show V.i .u64 _ = V.i .u64 (a.getD i 0 / 2) from congrArg (V.i .u64) (shr1 hx.1))) (hd 32 rfl) ?_; refine jo_l (ly_mv rfl) (hd 33 rfl) ?_; refine jo_l (ly_sub rfl rfl (r := ((63 - s : Nat) : Int)) (by rw [wrap_u64 (by omega) (by omega)]; omega)) (hd 34 rfl) ?_; refine jo_l (ly_is (ly_shr rfl rfl (by omega) rfl) (show V.i .u64 _ = V.i .u64 (hiS (a.getD i 0) s) from congrArg (V.i .u64) ((shr_sym (by omega)).trans (shr_two hs)))) (hd 35 rfl) ?_; refine jo_l (ly_ia (i := i + 1) sl28 rfl rfl rfl (by first | rfl | omega) (by omega) rfl) (hd 36 rfl) ?_; refine jo_st (sy_storei rfl rfl rfl one82 (by simp only [List.length_set]; omega)) ?_; refine jo_nil ?_; refine jc_region ?_; refine jo_l (ly_add rfl rfl (wrap_i64 (by omega) (by omega))) (hd 37 rfl) ?_; refine jo_l (ly_mv rfl) (hd 14 rfl) ?_; refine jo_nil ?_
      refine ⟨i + 1, ?_, ?_, (by show [(⟨76, 1, 0, true, ints .u64 _⟩ : Ob)] = [⟨76, 1, 0, true, ints .u64 _⟩]; rw [upR_set (by omega)]), cov_n 52 rfl rfl ?_⟩
      · omega
      · omega
      · exact (.cons rfl (.u (.u (.u (.u (.u (.u (.u (.u (.u (.u (.u (.u (.u (.u (.u (.u (.u (.u (.u (.u (.u (.u (.u (.u (.u .nil))))))))))))))))))))))))))
    · obtain rfl : i = a.length := by omega
      rw [upR_end] at hf ⊢
      refine jc_exit ?_; refine jc_seq ?_; refine jc_region ?_; refine jo_l (ly_mv rfl) (hd 38 rfl) ?_; refine jo_l (ly_as rfl) (hd 4 rfl) ?_; refine jo_nil ?_; refine jc_ret ?_
      refine ⟨[0], _, (.o 0 0 0 (a.length + 1)), (.cons rfl .nil), rfl, rfl, (by decide), (by first | exact idless_cons ints_id idless_nil | exact idless_cons rfl idless_nil), ?_⟩
      exact ⟨rfl, rfl⟩

set_option maxHeartbeats 4000000 in
theorem div_down_s (s : Nat) (a : List Int) (hl : a.length < 1099511627776) (hs : s < 64) (ua : u64s a) : Spec Tryd.prog 103 [.n false .u64 a, .i .u64 (s : Int)] (fun o => o = .ret (.n true .u64 (trm (dnN a s a.length)))) := by
  refine spec_of' [(0, .n false .u64 a), (1, .i .u64 (s : Int))] rfl Tryd.func103 rfl (Nat.le_of_ble_eq_true rfl) fun Γ hN hds hL hR => ?_
  have hd : ∀ d, Nat.blt d 47 = true → d < Γ.N := fun d h => by rw [hN]; exact Nat.le_of_ble_eq_true h
  refine jc_seq ?_; refine jc_region ?_; refine jo_l (ly_as rfl) (hd 4 rfl) ?_; refine jo_nil ?_; refine jc_seq ?_; refine jc_region ?_; refine jo_l (ly_mv rfl) (hd 8 rfl) ?_; refine jo_l (ly_lenn sl28 rfl) (hd 9 rfl) ?_; refine jo_h (hy_mk (m := a.length) el28 rfl rfl rfl (by show 8 * a.length ≤ _; omega) (by unfold maxLen; omega) rfl) (hd 10 rfl) ?_; refine jo_l (ly_as rfl) (hd 5 rfl) ?_; refine jo_nil ?_; refine jc_seq ?_; refine jc_seq ?_; refine jc_region ?_; refine jo_l (ly_mv rfl) (hd 11 rfl) ?_; refine jo_l (ly_lenn sl28 rfl) (hd 12 rfl) ?_; refine jo_l (ly_mv rfl) (hd 13 rfl) ?_; refine jo_nil ?_; refine jc_block ?_
  refine jc_loopF (G := Nat) (fun i => i ≤ a.length) (fun i => [(13, .i .i64 (i : Int)), (6, .u), (7, .u), (14, .u), (15, .u), (16, .u), (17, .u), (18, .u), (19, .u), (20, .u), (21, .u), (22, .u), (23, .u), (24, .u), (25, .u), (26, .u), (27, .u), (28, .u), (29, .u), (30, .u), (31, .u), (32, .u), (33, .u), (34, .u), (35, .u), (36, .u), (37, .u), (38, .u), (39, .u), (40, .u), (41, .u), (42, .u), (43, .u), (44, .u)]) (fun i => [⟨76, 1, 0, true, ints .u64 (fillI (dnN a s i) a.length)⟩]) (fun i => a.length - i) 0 ?_ ?_ rfl ?_
  · exact Nat.zero_le _
  · exact (.cons rfl (.u (.u (.u (.u (.u (.u (.u (.u (.u (.u (.u (.u (.u (.u (.u (.u (.u (.u (.u (.u (.u (.u (.u (.u (.u (.u (.u (.u (.u (.u (.u (.u (.u .nil))))))))))))))))))))))))))))))))))
  · rintro i hc1
    have hf : (fillI (dnN a s i) a.length).length = a.length := fillI_len (by rw [dnN_len]; exact hc1)
    have hx := u64s_getD ua i
    have hy := u64s_getD ua (i + 1)
    refine jc_seq ?_; refine jc_region ?_; refine jo_l (ly_lt rfl rfl) (hd 14 rfl) ?_; refine jo_nil ?_; refine jc_seq ?_
    refine jc_if rfl (fun h1 => ?_) (fun h1 => ?_)
    · refine jc_skip ?_
      refine jc_meet (G := Unit) (fun _ => True) (fun _ => [(6, .u), (7, .u), (15, .u), (16, .u), (17, .u), (18, .u), (19, .u), (20, .u), (21, .u), (22, .u), (23, .u), (24, .u), (25, .u), (26, .u), (27, .u), (28, .u), (29, .u), (30, .u), (31, .u), (32, .u), (33, .u), (34, .u), (35, .u), (36, .u), (37, .u), (38, .u), (39, .u), (40, .u), (41, .u), (42, .u), (43, .u)]) (fun _ => [⟨76, 1, 0, true, ints .u64 (fillI (dnN a s (i + 1)) a.length)⟩]) ?_ ?_
      · refine jc_block ?_; refine jc_seq ?_; refine jc_region ?_; refine jo_l (ly_mv rfl) (hd 15 rfl) ?_; refine jo_l (ly_ian (i := i) sl28 rfl rfl (by first | rfl | omega) (by omega)) (hd 16 rfl) ?_; refine jo_l (ly_ldq one82 rfl rfl) (hd 17 rfl) ?_; refine jo_l (ly_as rfl) (hd 6 rfl) ?_; refine jo_l (ly_as rfl) (hd 7 rfl) ?_; refine jo_nil ?_; refine jc_seq ?_; refine jc_region ?_; refine jo_l (ly_mv rfl) (hd 18 rfl) ?_; refine jo_l (ly_mv rfl) (hd 19 rfl) ?_; refine jo_l (ly_mv rfl) (hd 20 rfl) ?_; refine jo_l (ly_mv rfl) (hd 21 rfl) ?_; refine jo_l (ly_is (ly_shr rfl rfl (by omega) rfl) (show V.i .u64 _ = V.i .u64 (a.getD i 0 / 2 ^ s) from congrArg (V.i .u64) (shr_sym (by omega)))) (hd 22 rfl) ?_; refine jo_l (ly_ia (i := i) sl28 rfl rfl rfl (by first | rfl | omega) (by omega) rfl) (hd 23 rfl) ?_; refine jo_st (sy_storei rfl rfl rfl one82 (by omega)) ?_; refine jo_nil ?_; refine jc_seq ?_; refine jc_region ?_; refine jo_l (ly_mv rfl) (hd 24 rfl) ?_; refine jo_l (ly_add rfl rfl (wrap_i64 (by omega) (by omega))) (hd 25 rfl) ?_; refine jo_l (ly_mv rfl) (hd 26 rfl) ?_; refine jo_l (ly_lenn sl28 rfl) (hd 27 rfl) ?_; refine jo_l (ly_lt rfl rfl) (hd 28 rfl) ?_; refine jo_nil ?_
        refine jc_if rfl (fun h2 => ?_) (fun h2 => ?_)
        · refine jc_draw (n := 16) _ rfl mixed ?_; refine ja_l2 0 [2, 3, 13, 14, 15] (lo_l (ly_mv rfl) (hd 29 rfl)) rfl (by kernel_rfl) (by kernel_rfl) (by kernel_rfl) (by kernel_rfl) (fun _ _ _ _ h => h) ?_; refine ja_l2 1 [2, 3, 13, 14, 15] (lo_l (ly_mv rfl) (hd 30 rfl)) rfl (by kernel_rfl) (by kernel_rfl) (by kernel_rfl) (by kernel_rfl) (fun _ _ _ _ h => h) ?_; refine ja_l2 2 [3, 13, 14, 15] (lo_l (ly_ia (i := i) sl28 rfl rfl rfl (by first | rfl | omega) (by omega) rfl) (hd 31 rfl)) rfl (by kernel_rfl) (by kernel_rfl) (by kernel_rfl) (by kernel_rfl) (fun _ _ _ _ h => h) ?_; refine ja_l 3 (lo_l (ly_is (ly_ldi one82 rfl rfl (by simp only [List.length_set]; omega)) (show V.i .u64 _ = V.i .u64 (a.getD i 0 / 2 ^ s) from congrArg (V.i .u64) (dnR_get (by omega)))) (hd 32 rfl)) rfl (by kernel_rfl) (by kernel_rfl) (by kernel_rfl) (fun _ _ _ _ h => h) ?_; refine ja_l2 4 [7, 8, 9, 12, 13, 14, 15] (lo_l (ly_mv rfl) (hd 33 rfl)) rfl (by kernel_rfl) (by kernel_rfl) (by kernel_rfl) (by kernel_rfl) (fun _ _ _ _ h => h) ?_; refine ja_l2 5 [6, 7, 8, 9, 12, 13, 14, 15] (lo_l (ly_mv rfl) (hd 34 rfl)) rfl (by kernel_rfl) (by kernel_rfl) (by kernel_rfl) (by kernel_rfl) (fun _ _ _ _ h => h) ?_; refine ja_l2 6 [7, 8, 9, 12, 13, 14, 15] (lo_l (ly_add rfl rfl (r := ((i + 1 : Nat) : Int)) (by rw [wrap_i64 (by omega) (by omega)]; omega)) (hd 35 rfl)) rfl (by kernel_rfl) (by kernel_rfl) (by kernel_rfl) (by kernel_rfl) (fun _ _ _ _ h => h) ?_; refine ja_l2 7 [8, 9, 12, 13, 14, 15] (lo_l (ly_ian (i := i + 1) sl28 rfl rfl (by first | rfl | omega) (by omega)) (hd 36 rfl)) rfl (by kernel_rfl) (by kernel_rfl) (by kernel_rfl) (by kernel_rfl) (fun _ _ _ _ h => h) ?_; refine ja_l2 8 [9, 12, 13, 14, 15] (lo_l (ly_ldq one82 rfl rfl) (hd 37 rfl)) rfl (by kernel_rfl) (by kernel_rfl) (by kernel_rfl) (by kernel_rfl) (fun _ _ _ _ h => h) ?_; refine ja_l2 9 [12, 13, 14, 15] (lo_l (ly_is (ly_shl rfl rfl (by omega) rfl) (show V.i .u64 _ = V.i .u64 (a.getD (i + 1) 0 * 2 % 18446744073709551616) from congrArg (V.i .u64) shl1)) (hd 38 rfl)) rfl (by kernel_rfl) (by kernel_rfl) (by kernel_rfl) (by kernel_rfl) (fun _ _ _ _ h => h) ?_; refine ja_l2 10 [11, 12, 13, 14, 15] (lo_l (ly_mv rfl) (hd 39 rfl)) rfl (by kernel_rfl) (by kernel_rfl) (by kernel_rfl) (by kernel_rfl) (fun _ _ _ _ h => h) ?_; refine ja_l2 11 [12, 13, 14, 15] (lo_l (ly_sub rfl rfl (r := ((63 - s : Nat) : Int)) (by rw [wrap_u64 (by omega) (by omega)]; omega)) (hd 40 rfl)) rfl (by kernel_rfl) (by kernel_rfl) (by kernel_rfl) (by kernel_rfl) (fun _ _ _ _ h => h) ?_; refine ja_l 12 (lo_l (ly_is (ly_shl rfl rfl (by omega) rfl) (show V.i .u64 _ = V.i .u64 (loS (a.getD (i + 1) 0) (64 - s)) from congrArg (V.i .u64) ((shl_sym (by omega)).trans (shl_two hs)))) (hd 41 rfl)) rfl (by kernel_rfl) (by kernel_rfl) (by kernel_rfl) (fun _ _ _ _ h => h) ?_; refine ja_l 13 (lo_l (ly_is (ly_bit (by simp) rfl rfl rfl) (show V.i .u64 _ = V.i .u64 (dnD a s i) from congrArg (V.i .u64) (dn_or (Nat.le_of_lt hs) hx.1 hx.2 hy.1).1)) (hd 42 rfl)) rfl (by kernel_rfl) (by kernel_rfl) (by kernel_rfl) (fun _ _ _ _ h => h) ?_; refine ja_l 14 (lo_l (ly_ia (i := i) sl28 rfl rfl rfl (by first | rfl | omega) (by omega) rfl) (hd 43 rfl)) rfl (by kernel_rfl) (by kernel_rfl) (by kernel_rfl) (fun _ _ _ _ h => h) ?_
          refine ja_1 15 ?_ rfl (by kernel_rfl)
          refine js_st (sy_storei rfl rfl rfl one82 (by simp only [List.length_set]; omega)) rfl ?_; refine ja_nil (by kernel_rfl) ?_
          refine ⟨(), ?_, (by show [(⟨76, 1, 0, true, ints .u64 _⟩ : Ob)] = [⟨76, 1, 0, true, ints .u64 _⟩]; first | rw [← dnD_last (show a.length ≤ i + 1 by omega), dnR_set (by omega)] | rw [List.set_set, dnR_set (by omega)]), cov_n 31 rfl rfl ?_⟩
          · trivial
          · exact (.u (.u (.u (.u (.u (.u (.u (.u (.u (.u (.u (.u (.u (.u (.u (.u (.u (.u (.u (.u (.u (.u (.u (.u (.u (.u (.u (.u (.u (.u (.u .nil)))))))))))))))))))))))))))))))
        · refine jc_skip ?_
          refine ⟨(), ?_, (by show [(⟨76, 1, 0, true, ints .u64 _⟩ : Ob)] = [⟨76, 1, 0, true, ints .u64 _⟩]; first | rw [← dnD_last (show a.length ≤ i + 1 by omega), dnR_set (by omega)] | rw [List.set_set, dnR_set (by omega)]), cov_n 16 rfl rfl ?_⟩
          · trivial
          · exact (.u (.u (.u (.u (.u (.u (.u (.u (.u (.u (.u (.u (.u (.u (.u (.u (.u (.u (.u (.u (.u (.u (.u (.u (.u (.u (.u (.u (.u (.u (.u .nil)))))))))))))))))))))))))))))))
      · rintro _ _; refine jc_region ?_; refine jo_l (ly_add rfl rfl (wrap_i64 (by omega) (by omega))) (hd 44 rfl) ?_; refine jo_l (ly_mv rfl) (hd 13 rfl) ?_; refine jo_nil ?_
        refine ⟨i + 1, ?_, ?_, rfl, cov_n 68 rfl rfl ?_⟩
        · omega
        · omega
        · exact (.cons rfl (.u (.u (.u (.u (.u (.u (.u (.u (.u (.u (.u (.u (.u (.u (.u (.u (.u (.u (.u (.u (.u (.u (.u (.u (.u (.u (.u (.u (.u (.u (.u (.u (.u .nil))))))))))))))))))))))))))))))))))
    · obtain rfl : i = a.length := by omega
      refine jc_exit ?_; refine jc_seq ?_; refine jc_region ?_; refine jo_frz (k := .u64) (l := fillI (dnN a s a.length) a.length) (l' := dnN a s a.length) 5 rfl rfl (by omega) (by rw [List.drop_zero, List.take_of_length_le (by omega), fillI_full (dnN_len _ _ _)]) hL ?_; refine jo_l (ly_mv rfl) (hd 45 rfl) ?_
      refine jo_call Tryd.f75 (Norm_s (dnN a s a.length) (by rw [dnN_len]; omega)) rfl Tryd.func75 rfl rfl (ovL_cons rfl ovL_nil) (.cons .n .nil) (hd 46 rfl) ?_ (fun ch hp => by simp at hp)
      rintro y hy; injection hy with hy; subst hy; refine jo_l (ly_as rfl) (hd 4 rfl) ?_; refine jo_nil ?_; refine jc_ret ?_
      refine ⟨_, _, (.cons rfl .nil), .n, ?_⟩
      exact rfl
end Go.Proofs.YtaogaegchagbfaaDoor.Vc
