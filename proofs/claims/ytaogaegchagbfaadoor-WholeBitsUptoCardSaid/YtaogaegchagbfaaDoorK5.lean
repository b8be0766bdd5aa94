/- The card of the law WholeBits of surdlaw06: it returns true for every two whole numbers and every place of bulk at most 1048576 where the table of math/bits lies as the program lays it Texts joined: Wm, Wn, Wo, Wp, Wq, Wr, Ws, Wt, Wv, Wx, Wy, Wz, Ya, Yb, Yc, Ye, Yg, Yh, Yi, Yj, Yk, Yl, Ym, Yn, Yo, Yp, Yq, Ys, Yz, Pa, Pb, Pc, Pd, Pe, Pf, Pg, Ph, Pi, Pj, Pk, Pl, Pp, Pr, Pt, Pu, Za. -/
import Derived.Test.YtaogaegchagbfaaDoorK4
set_option linter.unusedVariables false
set_option linter.unusedSimpArgs false
/- Contract of mul.school. -/
namespace Go.Proofs.YtaogaegchagbfaaDoor.Vc
open Go Go.RowKit
end Go.Proofs.YtaogaegchagbfaaDoor.Vc

/- Contract of mul.addAt. -/
namespace Go.Proofs.YtaogaegchagbfaaDoor.Vc
open Go Go.RowKit
end Go.Proofs.YtaogaegchagbfaaDoor.Vc

/- Contracts of mul.sum, less, part. -/
namespace Go.Proofs.YtaogaegchagbfaaDoor.Vc
open Go Go.RowKit
end Go.Proofs.YtaogaegchagbfaaDoor.Vc

/- Contract of mul.halved. -/
namespace Go.Proofs.YtaogaegchagbfaaDoor.Vc
open Go Go.RowKit
end Go.Proofs.YtaogaegchagbfaaDoor.Vc

/- Contracts of mul.fits, great, product, Mul. -/
namespace Go.Proofs.YtaogaegchagbfaaDoor.Vc
open Go Go.RowKit
end Go.Proofs.YtaogaegchagbfaaDoor.Vc

/- Contracts of whole.fits, result, Mul; nat.Add, Sub in general. -/
namespace Go.Proofs.YtaogaegchagbfaaDoor.Vc
open Go Go.RowKit
end Go.Proofs.YtaogaegchagbfaaDoor.Vc

/- Contracts of whole.flip, Neg, Add, Sub. -/
namespace Go.Proofs.YtaogaegchagbfaaDoor.Vc
open Go Go.RowKit
set_option maxHeartbeats 4000000 in
theorem flip_s (s : Bool) (a : List Int) (hla : a.length < 4294967296) (ua : u64s a) : Spec Tryd.prog 64 [.a [.b s, .n false .u64 a]] (fun o => o = .ret (.a [.b (!s && decide (0 < ((trm a).length : Int))), .n true .u64 (trm a)])) := by
  refine spec_of' [(0, .a [.b s, .n false .u64 a])] rfl Tryd.func64 rfl (Nat.le_of_ble_eq_true rfl) fun Γ hN hds hL hR => ?_
  have hd : ∀ d, Nat.blt d 10 = true → d < Γ.N := fun d h => by rw [hN]; exact Nat.le_of_ble_eq_true h
  refine jc_seq ?_; refine jc_region ?_; refine jo_h (hy_box (id := 0) (n := 2) rfl rfl rfl (by decide) rfl) (hd 1 rfl) ?_; refine jo_h (hy_alloc (id := 1) zero30 (by decide) rfl (by decide) rfl) (hd 2 rfl) ?_; refine jo_nil ?_; refine jc_seq ?_; refine jc_region ?_; refine jo_l (ly_fa fld30_0 rfl rfl rfl) (hd 3 rfl) ?_; refine jo_l (ly_ld one4 rfl rfl rfl) (hd 4 rfl) ?_; refine jo_l (ly_not rfl) (hd 5 rfl) ?_; refine jo_l (ly_fa fld30_1 rfl rfl rfl) (hd 6 rfl) ?_; refine jo_l (ly_ld one28 rfl rfl rfl) (hd 7 rfl) ?_; refine jo_l (ly_build (is := [0, 1]) (xs := [.tmp 5, .tmp 7]) zero30 pls30_0_1 rfl (ovL_cons rfl (ovL_cons rfl ovL_nil)) rfl (by first | (simp [plsOk, cellsV]; done) | (simp [plsOk, cellsV, old]; done)) (all_of rfl) rfl) (hd 8 rfl) ?_
  refine jo_call Tryd.f59 (norm_s (!s) a (by omega)) rfl Tryd.func59 rfl rfl (ovL_cons rfl ovL_nil) (.cons (.a1 .b (.a1 .n .a0)) .nil) (hd 9 rfl) ?_ (fun ch hp => by simp at hp)
  rintro y hy; injection hy with hy; subst hy; refine jo_st (sy_store rfl rfl rfl siz30 rfl rfl (Nat.le_of_ble_eq_true rfl)) ?_; refine jo_nil ?_; refine jc_ret ?_
  refine ⟨_, _, (.cons (ResV.cell agg30 rfl rfl rfl rfl) .nil), (.a1 .b (.a1 .n .a0)), ?_⟩
  exact rfl

end Go.Proofs.YtaogaegchagbfaaDoor.Vc

/- Contracts of whole.Sign, Compare; the helpers same, zero, all, in. -/
namespace Go.Proofs.YtaogaegchagbfaaDoor.Vc
open Go Go.RowKit
set_option maxHeartbeats 4000000 in
theorem WSign_s (s : Bool) (a : List Int) (hla : a.length < 4294967296) (ua : u64s a) : Spec Tryd.prog 44 [.a [.b s, .n false .u64 a]] (fun o => o = .ret (.i .i64 (sgnI (sv s a)))) := by
  refine spec_of' [(0, .a [.b s, .n false .u64 a])] rfl Tryd.func44 rfl (Nat.le_of_ble_eq_true rfl) fun Γ hN hds hL hR => ?_
  have hd : ∀ d, Nat.blt d 11 = true → d < Γ.N := fun d h => by rw [hN]; exact Nat.le_of_ble_eq_true h
  refine jc_seq ?_; refine jc_region ?_; refine jo_h (hy_box (id := 0) (n := 2) rfl rfl rfl (by decide) rfl) (hd 1 rfl) ?_; refine jo_l (ly_as rfl) (hd 2 rfl) ?_; refine jo_nil ?_; refine jc_seq ?_; refine jc_block ?_; refine jc_seq ?_; refine jc_region ?_; refine jo_l (ly_fa fld30_1 rfl rfl rfl) (hd 4 rfl) ?_; refine jo_l (ly_ld one28 rfl rfl rfl) (hd 5 rfl) ?_
  refine jo_call Tryd.f71 (Length_s a (by omega) ua) rfl Tryd.func71 rfl rfl (ovL_cons rfl ovL_nil) (.cons .n .nil) (hd 6 rfl) ?_ (fun ch hp => by simp at hp)
  rintro y hy; injection hy with hy; subst hy; refine jo_l (ly_eq rfl rfl) (hd 7 rfl) ?_; refine jo_l (ly_as rfl) (hd 3 rfl) ?_; refine jo_nil ?_
  refine jc_if rfl (fun h1 => ?_) (fun h1 => ?_)
  · refine jc_seq ?_; refine jc_region ?_; refine jo_l (ly_as rfl) (hd 2 rfl) ?_; refine jo_nil ?_; refine jc_ret ?_
    refine ⟨_, _, (.cons rfl .nil), .i, ?_⟩
    rw [sgn_sv ua, if_pos (by omega)]
  · refine jc_seq ?_; refine jc_region ?_; refine jo_l (ly_fa fld30_0 rfl rfl rfl) (hd 9 rfl) ?_; refine jo_l (ly_ld one4 rfl rfl rfl) (hd 10 rfl) ?_; refine jo_l (ly_as rfl) (hd 8 rfl) ?_; refine jo_nil ?_
    refine jc_cond rfl (fun h2 => ?_) (fun h2 => ?_)
    · refine jc_seq ?_; refine jc_region ?_; refine jo_l (ly_as rfl) (hd 2 rfl) ?_; refine jo_nil ?_; refine jc_ret ?_
      refine ⟨_, _, (.cons rfl .nil), .i, ?_⟩
      rw [sgn_sv ua, if_neg (by omega), if_pos (by assumption)]
    · refine jc_skip ?_; refine jc_seq ?_; refine jc_region ?_; refine jo_l (ly_as rfl) (hd 2 rfl) ?_; refine jo_nil ?_; refine jc_ret ?_
      refine ⟨_, _, (.cons rfl .nil), .i, ?_⟩
      rw [sgn_sv ua, if_neg (by omega), if_neg (by simp_all)]

end Go.Proofs.YtaogaegchagbfaaDoor.Vc

/- Numbers with a sign that are handed in. -/
namespace Go.Proofs.YtaogaegchagbfaaDoor.Vc
open Go Go.RowKit
set_option maxRecDepth 100000 in
theorem openW {H : Type} {enc : TypeId × Value → H} {w : World} {sp : Nat → Bool} {held : Bool} {r : Reach} {b0 : Nat} {v : Value} {d : DataW H} {ps : List MemPlace} (hval : Value.okWide Tryd.prog w r b0 24 v) (hd : DataW.Trod enc Tryd.prog w 0 sp held 24 v d ps) :
    ∃ (s : Bool) (l : List Int), Rel w (fun _ => False) w.heap.size [] (.a [.b s, .n false .u64 l]) v ∧ l.length + 2 ≤ Rows.uptoBulk d ∧ u64s l := by
  obtain ⟨cs, rfl, hsz⟩ := Go.WideShapes.okWide_struct Tryd.underlying24 hval
  obtain ⟨fuel, hd⟩ := hd
  have hcl : (Value.agg cs).cells.toList = cs.toList := rfl
  rw [hcl] at hd
  obtain ⟨y0, y1, n, hx, hl, h0, h1⟩ := Go.ChangeShapes.trod_struct2 Tryd.underlying24 hd
  injection hx with hx _; subst hx
  have hl' : cs.toList.length = 2 := hl
  obtain ⟨c0, c1, hcs⟩ : ∃ c0 c1, cs.toList = [c0, c1] := by
    match hm : cs.toList, hl' with
    | [a, b], _ => exact ⟨a, b, rfl⟩
  rw [hcs] at h0 h1
  obtain ⟨s, e0, hy0⟩ := DataW.trod_bool Tryd.underlying4 h0
  have e0' : [c0] = [Value.bool s] := e0
  injection e0' with e0'; subst e0'; subst hy0
  have h1' : DataW.trod enc Tryd.prog w 0 sp held n 22 [c1] = some y1 := h1
  obtain ⟨l, k1, k2, k3⟩ := open_numsV Tryd.underlying22 Tryd.underlying76 (show Tryd.prog.cellsOf 76 = 1 by kernel_rfl) h1'
  refine ⟨s, l, ⟨cs.toList, by simp, ?_⟩, ?_, fun y hy => wf_u64 (k3 y hy)⟩
  · rw [hcs]; exact ⟨_, _, rfl, rfl, _, _, rfl, k1, rfl⟩
  · simp only [Rows.uptoBulk, Rows.uptoBulkAll]; omega
end Go.Proofs.YtaogaegchagbfaaDoor.Vc

/- Contracts of the references' Len, of Lend, lent, Kept. -/
namespace Go.Proofs.YtaogaegchagbfaaDoor.Vc
open Go Go.RowKit
set_option maxHeartbeats 4000000 in
theorem Len_s (v : Int) (hl : (dg v).length < 1099511627776) : Spec Tryd.prog 49 [.n false .u64 (dg v)] (fun o => o = .ret (.i .i64 (lenV v : Int))) := by
  refine spec_of' [(0, .n false .u64 (dg v))] rfl Tryd.func49 rfl (Nat.le_of_ble_eq_true rfl) fun Γ hN hds hL hR => ?_
  have hd : ∀ d, Nat.blt d 25 = true → d < Γ.N := fun d h => by rw [hN]; exact Nat.le_of_ble_eq_true h
  have hB := lenV_le v
  have hT := dg_top v ((dg v).length - 1)
  have hE := lenD_eq v
  have hN := dg_nil (v := v)
  refine jc_seq ?_; refine jc_region ?_; refine jo_l (ly_as rfl) (hd 2 rfl) ?_; refine jo_nil ?_; refine jc_seq ?_; refine jc_seq ?_; refine jc_region ?_; refine jo_l (ly_mv rfl) (hd 5 rfl) ?_; refine jo_l (ly_lenn sl33 rfl) (hd 6 rfl) ?_; refine jo_l (ly_eq rfl rfl) (hd 7 rfl) ?_; refine jo_nil ?_
  refine jc_if rfl (fun h1 => ?_) (fun h1 => ?_)
  · have h0 : dg v = [] := List.eq_nil_of_length_eq_zero (by omega)
    refine jc_seq ?_; refine jc_region ?_; refine jo_l (ly_as rfl) (hd 2 rfl) ?_; refine jo_nil ?_; refine jc_ret ?_
    refine ⟨_, _, (.cons rfl .nil), .i, ?_⟩
    rw [hN.1 h0]
    rfl
  · have h0 : dg v ≠ [] := fun e => by rw [e] at h1; exact h1 rfl
    have hE := hE h0
    refine jc_skip ?_; refine jc_seq ?_; refine jc_region ?_; refine jo_l (ly_mv rfl) (hd 8 rfl) ?_; refine jo_l (ly_lenn sl33 rfl) (hd 9 rfl) ?_; refine jo_l (ly_sub rfl rfl (wrap_i64 (by first | omega | (dsimp only; omega)) (by first | omega | (dsimp only; omega)))) (hd 10 rfl) ?_; refine jo_l (ly_mul rfl rfl (r := ((32 * ((dg v).length - 1) : Nat) : Int)) (by have := List.length_pos_iff.2 h0; rw [wrap_i64 (by omega) (by omega)]; omega)) (hd 11 rfl) ?_; refine jo_l (ly_as rfl) (hd 3 rfl) ?_; refine jo_nil ?_; refine jc_seq ?_; refine jc_seq ?_; refine jc_region ?_; refine jo_l (ly_mv rfl) (hd 12 rfl) ?_; refine jo_l (ly_mv rfl) (hd 13 rfl) ?_; refine jo_l (ly_lenn sl33 rfl) (hd 14 rfl) ?_; refine jo_l (ly_sub rfl rfl (wrap_i64 (by first | omega | (dsimp only; omega)) (by first | omega | (dsimp only; omega)))) (hd 15 rfl) ?_; refine jo_l (ly_ian (i := (dg v).length - 1) sl33 rfl rfl (by have := List.length_pos_iff.2 h0; omega) (by have := List.length_pos_iff.2 h0; omega)) (hd 16 rfl) ?_; refine jo_l (ly_ldq one82 rfl rfl) (hd 17 rfl) ?_; refine jo_l (ly_as rfl) (hd 4 rfl) ?_; refine jo_nil ?_; refine jc_block ?_
    refine jc_loopF (G := Nat × Nat) (fun g => g.2 + nbits g.1 = lenV v ∧ g.1 < 4294967296) (fun g => [(3, .i .i64 (g.2 : Int)), (4, .i .u64 (g.1 : Int)), (18, .u), (19, .u), (20, .u), (21, .u), (22, .u), (23, .u)]) (fun _ => _) (fun g => g.1) (((dg v).getD ((dg v).length - 1) 0).toNat, 32 * ((dg v).length - 1)) ?_ ?_ rfl ?_
    · exact ⟨hE, by dsimp only; omega⟩
    · exact (.cons rfl (.cons (by show some (V.i .u64 _) = some (V.i .u64 _); congr 2; dsimp only; omega) (.u (.u (.u (.u (.u (.u .nil))))))))
    · rintro ⟨m, c⟩ ⟨hc1, hc2⟩
      dsimp only at hc1 hc2 ⊢
      refine jc_seq ?_; refine jc_seq ?_; refine jc_region ?_; refine jo_l (ly_mv rfl) (hd 18 rfl) ?_; refine jo_l (ly_gt rfl rfl) (hd 19 rfl) ?_; refine jo_nil ?_
      refine jc_if rfl (fun h2 => ?_) (fun h2 => ?_)
      · refine jc_skip ?_; refine jc_seq ?_; refine jc_block ?_; refine jc_region ?_; refine jo_l (ly_mv rfl) (hd 22 rfl) ?_; refine jo_l (ly_add rfl rfl (wrap_i64 (by first | omega | (dsimp only; omega)) (by first | omega | (dsimp only; omega)))) (hd 23 rfl) ?_; refine jo_l (ly_as rfl) (hd 3 rfl) ?_; refine jo_nil ?_; refine jc_region ?_; refine jo_l (ly_mv rfl) (hd 20 rfl) ?_; refine jo_l (ly_quo rfl rfl (by first | omega | (dsimp only; omega)) (r := ((m / 2 : Nat) : Int)) (by rw [show ((m : Int).tdiv 2) = ((m / 2 : Nat) : Int) from rfl, wrap_u64 (by omega) (by omega)])) (hd 21 rfl) ?_; refine jo_l (ly_as rfl) (hd 4 rfl) ?_; refine jo_nil ?_
        refine ⟨(m / 2, c + 1), ?_, ?_, rfl, cov_n 16 rfl rfl ?_⟩
        · exact ⟨by have := nbits_half (m := m) (by omega); dsimp only; omega, by dsimp only; omega⟩
        · show m / 2 < m; omega
        · exact (.cons rfl (.cons rfl (.u (.u (.u (.u (.u (.u .nil))))))))
      · refine jc_exit ?_; refine jc_seq ?_; refine jc_region ?_; refine jo_l (ly_mv rfl) (hd 24 rfl) ?_; refine jo_l (ly_as rfl) (hd 2 rfl) ?_; refine jo_nil ?_; refine jc_ret ?_
        refine ⟨_, _, (.cons rfl .nil), .i, ?_⟩
        have hm : m = 0 := by omega
        subst hm
        rw [nbits_0] at hc1
        rw [← hc1]
        rfl

set_option maxHeartbeats 4000000 in
theorem Lend_s (l : List Int) (hl : l.length < 1099511627776) : Spec Tryd.prog 34 [.n false .u64 l] (fun o => o = .ret (.t [.n true .u64 (wrapP l), .n true .u64 l])) := by
  refine spec_of' [(0, .n false .u64 l)] rfl Tryd.func34 rfl (Nat.le_of_ble_eq_true rfl) fun Γ hN hds hL hR => ?_
  have hd : ∀ d, Nat.blt d 40 = true → d < Γ.N := fun d h => by rw [hN]; exact Nat.le_of_ble_eq_true h
  refine jc_seq ?_; refine jc_region ?_; refine jo_l (ly_as rfl) (hd 2 rfl) ?_; refine jo_l (ly_as rfl) (hd 3 rfl) ?_; refine jo_nil ?_; refine jc_seq ?_; refine jc_region ?_; refine jo_l (ly_mv rfl) (hd 8 rfl) ?_; refine jo_l (ly_lenn sl25 rfl) (hd 9 rfl) ?_; refine jo_l (ly_add rfl rfl (r := ((l.length + 4 : Nat) : Int)) (by rw [wrap_i64 (by omega) (by omega)]; omega)) (hd 10 rfl) ?_; refine jo_h (hy_mk (m := l.length + 4) el25 rfl rfl rfl (by show 8 * (l.length + 4) ≤ _; omega) (by unfold maxLen; omega) rfl) (hd 11 rfl) ?_; refine jo_l (ly_as rfl) (hd 4 rfl) ?_; refine jo_nil ?_; refine jc_seq ?_; refine jc_seq ?_; refine jc_H (H' := [⟨76, 1, 0, true, ints .u64 (lendA (l.length + 4) 0)⟩]) (by rw [← lendA_0]; rfl) ?_; refine jc_region ?_; refine jo_l (ly_mv rfl) (hd 12 rfl) ?_; refine jo_l (ly_leno sl25 rfl rfl) (hd 13 rfl) ?_; refine jo_l (ly_mv rfl) (hd 14 rfl) ?_; refine jo_nil ?_; refine jc_block ?_
  refine jc_loopF (G := Nat) (fun i => i ≤ l.length + 4) (fun i => [(14, .i .i64 (i : Int)), (5, .u), (15, .u), (16, .u), (17, .u), (18, .u), (19, .u), (20, .u)]) (fun i => [⟨76, 1, 0, true, ints .u64 (lendA (l.length + 4) i)⟩]) (fun i => l.length + 4 - i) 0 ?_ ?_ rfl ?_
  · exact Nat.zero_le _
  · exact (.cons rfl (.u (.u (.u (.u (.u (.u (.u .nil))))))))
  · rintro i hc1
    have hlA := lendA_len hc1
    refine jc_seq ?_; refine jc_region ?_; refine jo_l (ly_lt rfl rfl) (hd 15 rfl) ?_; refine jo_nil ?_; refine jc_seq ?_
    refine jc_if rfl (fun h1 => ?_) (fun h1 => ?_)
    · refine jc_skip ?_; refine jc_seq ?_; refine jc_block ?_; refine jc_seq ?_; refine jc_region ?_; refine jo_l (ly_mv rfl) (hd 16 rfl) ?_; refine jo_l (ly_as rfl) (hd 5 rfl) ?_; refine jo_nil ?_; refine jc_region ?_; refine jo_l (ly_mv rfl) (hd 17 rfl) ?_; refine jo_l (ly_mv rfl) (hd 18 rfl) ?_; refine jo_l (ly_ia (i := i) sl25 rfl rfl rfl (by first | rfl | omega) (by first | omega | (dsimp only; omega)) rfl) (hd 19 rfl) ?_; refine jo_st (sy_storei rfl rfl rfl one82 (by first | omega | (dsimp only; omega))) ?_; refine jo_nil ?_; refine jc_region ?_; refine jo_l (ly_add rfl rfl (wrap_i64 (by first | omega | (dsimp only; omega)) (by first | omega | (dsimp only; omega)))) (hd 20 rfl) ?_; refine jo_l (ly_mv rfl) (hd 14 rfl) ?_; refine jo_nil ?_
      refine ⟨i + 1, ?_, ?_, (by show [(⟨76, 1, 0, true, ints .u64 _⟩ : Ob)] = [⟨76, 1, 0, true, ints .u64 _⟩]; rw [lendA_set (by omega)]), cov_n 16 rfl rfl ?_⟩
      · omega
      · omega
      · exact (.cons rfl (.u (.u (.u (.u (.u (.u (.u .nil))))))))
    · refine jc_exit ?_; refine jc_seq ?_; refine jc_seq ?_; refine jc_H (H' := [⟨76, 1, 0, true, ints .u64 (lendB l 0)⟩]) (by rw [← lendB_0, show l.length + 4 = i by omega]) ?_; refine jc_region ?_; refine jo_l (ly_mv rfl) (hd 21 rfl) ?_; refine jo_l (ly_lenn sl25 rfl) (hd 22 rfl) ?_; refine jo_l (ly_mv rfl) (hd 23 rfl) ?_; refine jo_nil ?_; refine jc_block ?_
      refine jc_loopF (G := Nat) (fun k => k ≤ l.length) (fun k => [(23, .i .i64 (k : Int)), (6, .u), (7, .u), (24, .u), (25, .u), (26, .u), (27, .u), (28, .u), (29, .u), (30, .u), (31, .u), (32, .u), (33, .u)]) (fun k => [⟨76, 1, 0, true, ints .u64 (lendB l k)⟩]) (fun k => l.length - k) 0 ?_ ?_ rfl ?_
      · exact Nat.zero_le _
      · exact (.cons rfl (.u (.u (.u (.u (.u (.u (.u (.u (.u (.u (.u (.u .nil)))))))))))))
      · rintro k hc2
        have hlB := lendB_len hc2
        refine jc_seq ?_; refine jc_region ?_; refine jo_l (ly_lt rfl rfl) (hd 24 rfl) ?_; refine jo_nil ?_; refine jc_seq ?_
        refine jc_if rfl (fun h2 => ?_) (fun h2 => ?_)
        · refine jc_skip ?_; refine jc_seq ?_; refine jc_block ?_; refine jc_seq ?_; refine jc_region ?_; refine jo_l (ly_mv rfl) (hd 25 rfl) ?_; refine jo_l (ly_ian (i := k) sl25 rfl rfl (by first | rfl | omega) (by first | omega | (dsimp only; omega))) (hd 26 rfl) ?_; refine jo_l (ly_ldq one82 rfl rfl) (hd 27 rfl) ?_; refine jo_l (ly_as rfl) (hd 6 rfl) ?_; refine jo_l (ly_as rfl) (hd 7 rfl) ?_; refine jo_nil ?_; refine jc_region ?_; refine jo_l (ly_mv rfl) (hd 28 rfl) ?_; refine jo_l (ly_mv rfl) (hd 29 rfl) ?_; refine jo_l (ly_add rfl rfl (wrap_i64 (by first | omega | (dsimp only; omega)) (by first | omega | (dsimp only; omega)))) (hd 30 rfl) ?_; refine jo_l (ly_mv rfl) (hd 31 rfl) ?_; refine jo_l (ly_ia (i := k + 2) sl25 rfl rfl rfl (by first | rfl | omega) (by first | omega | (dsimp only; omega)) rfl) (hd 32 rfl) ?_; refine jo_st (sy_storei rfl rfl rfl one82 (by first | omega | (dsimp only; omega))) ?_; refine jo_nil ?_; refine jc_region ?_; refine jo_l (ly_add rfl rfl (wrap_i64 (by first | omega | (dsimp only; omega)) (by first | omega | (dsimp only; omega)))) (hd 33 rfl) ?_; refine jo_l (ly_mv rfl) (hd 23 rfl) ?_; refine jo_nil ?_
          refine ⟨k + 1, ?_, ?_, (by show [(⟨76, 1, 0, true, ints .u64 _⟩ : Ob)] = [⟨76, 1, 0, true, ints .u64 _⟩]; rw [lendB_set (by omega)]), cov_n 26 rfl rfl ?_⟩
          · omega
          · omega
          · exact (.cons rfl (.u (.u (.u (.u (.u (.u (.u (.u (.u (.u (.u (.u .nil)))))))))))))
        · refine jc_exit ?_; refine jc_seq ?_; refine jc_H (H' := [⟨76, 1, 0, true, ints .u64 (wrapP l)⟩]) (by rw [← lendB_end, show l.length = k by omega]) ?_; refine jc_draw (n := 8) _ rfl mixed ?_; refine ja_l 0 (lo_l (ly_mv rfl) (hd 34 rfl)) rfl (by kernel_rfl) (by kernel_rfl) (by kernel_rfl) (fun _ _ _ _ h => h) ?_; refine ja_l 1 (lo_l (ly_mv rfl) (hd 35 rfl)) rfl (by kernel_rfl) (by kernel_rfl) (by kernel_rfl) (fun _ _ _ _ h => h) ?_; refine ja_l2 2 [3, 4, 5, 7] (lo_l (ly_mv rfl) (hd 36 rfl)) rfl (by kernel_rfl) (by kernel_rfl) (by kernel_rfl) (by kernel_rfl) (fun _ _ _ _ h => h) ?_; refine ja_l2 3 [4, 5, 7] (lo_l (ly_lenn sl25 rfl) (hd 37 rfl)) rfl (by kernel_rfl) (by kernel_rfl) (by kernel_rfl) (by kernel_rfl) (fun _ _ _ _ h => h) ?_; refine ja_l 4 (lo_l (ly_add rfl rfl (wrap_i64 (by first | omega | (dsimp only; omega)) (by first | omega | (dsimp only; omega)))) (hd 38 rfl)) rfl (by kernel_rfl) (by kernel_rfl) (by kernel_rfl) (fun _ _ _ _ h => h) ?_; refine ja_l 5 (lo_l (ly_slo (l := 2) (h := l.length + 2) (r := 2) (n := l.length) sl25 rfl rfl (bnd_some' rfl rfl) (bnd_some' rfl (by omega)) (by omega) (by omega) rfl (by omega)) (hd 39 rfl)) rfl (by kernel_rfl) (by kernel_rfl) (by kernel_rfl) (fun _ _ _ _ h => h) ?_; refine ja_l 6 (lo_l (ly_as rfl) (hd 2 rfl)) rfl (by kernel_rfl) (by kernel_rfl) (by kernel_rfl) (fun _ _ _ _ h => h) ?_; refine ja_l 7 (lo_l (ly_as rfl) (hd 3 rfl)) rfl (by kernel_rfl) (by kernel_rfl) (by kernel_rfl) (fun _ _ _ _ h => h) ?_; refine ja_nil (by kernel_rfl) ?_; refine jc_ret ?_
          refine ⟨_, _, (.cons rfl (.cons rfl .nil)), (.t1 (.o (l := wrapP l) rfl (by rw [wrap_len]; omega) rfl) (.t1 (.o (l := wrapP l) rfl (by rw [wrap_len]; omega) rfl) .t0)), ?_⟩
          rw [show ((wrapP l).drop 0).take (l.length + 4) = wrapP l by rw [List.drop_zero, ← wrap_len, List.take_length], wrap_mid]

set_option maxHeartbeats 4000000 in
theorem lent_s (s : Bool) (l : List Int) (hl : l.length < 1099511627776) : Spec Tryd.prog 6 [.a [.b s, .n false .u64 l]] (fun o => o = .ret (.t [.n true .u64 (wrapP l), .a [.b s, .n true .u64 l]])) := by
  refine spec_of' [(0, .a [.b s, .n false .u64 l])] rfl Tryd.func6 rfl (Nat.le_of_ble_eq_true rfl) fun Γ hN hds hL hR => ?_
  have hd : ∀ d, Nat.blt d 17 = true → d < Γ.N := fun d h => by rw [hN]; exact Nat.le_of_ble_eq_true h
  refine jc_seq ?_; refine jc_region ?_; refine jo_h (hy_box (id := 0) (n := 2) rfl rfl rfl (by decide) rfl) (hd 1 rfl) ?_; refine jo_l (ly_as rfl) (hd 2 rfl) ?_; refine jo_h (hy_alloc (id := 1) zero30 (by decide) rfl (by decide) rfl) (hd 3 rfl) ?_; refine jo_nil ?_; refine jc_seq ?_; refine jc_region ?_; refine jo_l (ly_fa fld27_1 rfl rfl rfl) (hd 7 rfl) ?_; refine jo_l (ly_ld one25 rfl rfl rfl) (hd 8 rfl) ?_
  refine jo_call Tryd.f34 (Lend_s l hl) rfl Tryd.func34 rfl rfl (ovL_cons rfl ovL_nil) (.cons .n .nil) (hd 9 rfl) ?_ (fun ch hp => by simp at hp)
  rintro y hy; injection hy with hy; subst hy; refine jo_l (ly_mv rfl) (hd 6 rfl) ?_; refine jo_l (ly_ext rfl rfl) (hd 10 rfl) ?_; refine jo_l (ly_ext rfl rfl) (hd 11 rfl) ?_; refine jo_l (ly_as rfl) (hd 4 rfl) ?_; refine jo_l (ly_as rfl) (hd 5 rfl) ?_; refine jo_nil ?_; refine jc_seq ?_; refine jc_draw (n := 7) _ rfl mixed ?_; refine ja_l 0 (lo_l (ly_mv rfl) (hd 12 rfl)) rfl (by kernel_rfl) (by kernel_rfl) (by kernel_rfl) (fun _ _ _ _ h => h) ?_; refine ja_l2 1 [2, 4, 6] (lo_l (ly_fa fld27_0 rfl rfl rfl) (hd 13 rfl)) rfl (by kernel_rfl) (by kernel_rfl) (by kernel_rfl) (by kernel_rfl) (fun _ _ _ _ h => h) ?_; refine ja_l 2 (lo_l (ly_ld one4 rfl rfl rfl) (hd 14 rfl)) rfl (by kernel_rfl) (by kernel_rfl) (by kernel_rfl) (fun _ _ _ _ h => h) ?_; refine ja_l 3 (lo_l (ly_mv rfl) (hd 15 rfl)) rfl (by kernel_rfl) (by kernel_rfl) (by kernel_rfl) (fun _ _ _ _ h => h) ?_; refine ja_l 4 (lo_l (ly_build (is := [0, 1]) (xs := [.tmp 14, .tmp 15]) zero30 pls30_0_1 rfl (ovL_cons rfl (ovL_cons rfl ovL_nil)) rfl (by first | (simp [plsOk, cellsV]; done) | (simp [plsOk, cellsV, old]; done)) (all_of rfl) rfl) (hd 16 rfl)) rfl (by kernel_rfl) (by kernel_rfl) (by kernel_rfl) (fun _ _ _ _ h => h) ?_; refine ja_l 5 (lo_l (ly_as rfl) (hd 2 rfl)) rfl (by kernel_rfl) (by kernel_rfl) (by kernel_rfl) (fun _ _ _ _ h => h) ?_
  refine ja_1 6 ?_ rfl (by kernel_rfl)
  refine js_st (sy_store rfl rfl rfl siz30 rfl rfl (Nat.le_of_ble_eq_true rfl)) rfl ?_; refine ja_nil (by kernel_rfl) ?_; refine jc_ret ?_
  refine ⟨_, _, (.cons rfl (.cons (ResV.cell agg30 rfl rfl rfl rfl) .nil)), (.t1 .n (.t1 (.a1 .b (.a1 .n .a0)) .t0)), ?_⟩
  exact rfl

set_option maxHeartbeats 4000000 in
theorem Kept_s (l : List Int) (hl : l.length < 1099511627776) : Spec Tryd.prog 23 [.n false .u64 (wrapP l), .n false .u64 l] (fun o => o = .ret (.b true)) := by
  refine spec_of' [(0, .n false .u64 (wrapP l)), (1, .n false .u64 l)] rfl Tryd.func23 rfl (Nat.le_of_ble_eq_true rfl) fun Γ hN hds hL hR => ?_
  have hd : ∀ d, Nat.blt d 39 = true → d < Γ.N := fun d h => by rw [hN]; exact Nat.le_of_ble_eq_true h
  have hw := wrap_len (l := l)
  refine jc_seq ?_; refine jc_region ?_; refine jo_l (ly_as rfl) (hd 4 rfl) ?_; refine jo_nil ?_; refine jc_seq ?_; refine jc_seq ?_; refine jc_region ?_; refine jo_l (ly_mv rfl) (hd 7 rfl) ?_; refine jo_l (ly_lenn sl25 rfl) (hd 8 rfl) ?_; refine jo_l (ly_mv rfl) (hd 9 rfl) ?_; refine jo_l (ly_lenn sl25 rfl) (hd 10 rfl) ?_; refine jo_l (ly_add rfl rfl (wrap_i64 (by first | omega | (dsimp only; omega)) (by first | omega | (dsimp only; omega)))) (hd 11 rfl) ?_; refine jo_l (ly_ff (ly_ne rfl rfl) (by omega)) (hd 12 rfl) ?_; refine jo_nil ?_; refine jc_litf rfl ?_; refine jc_skip ?_; refine jc_seq ?_; refine jc_seq ?_; refine jc_region ?_; refine jo_l (ly_mv rfl) (hd 13 rfl) ?_; refine jo_l (ly_lenn sl25 rfl) (hd 14 rfl) ?_; refine jo_l (ly_mv rfl) (hd 15 rfl) ?_; refine jo_nil ?_; refine jc_block ?_
  refine jc_loopF (G := Nat) (fun i => i ≤ l.length + 4) (fun i => [(15, .i .i64 (i : Int)), (4, .u), (5, .u), (6, .u), (16, .u), (17, .u), (18, .u), (19, .u), (20, .u), (21, .u), (22, .u), (23, .u), (24, .u), (25, .u), (26, .u), (27, .u), (28, .u), (29, .u), (30, .u), (31, .u), (32, .u), (33, .u), (34, .u), (35, .u), (36, .u), (37, .u), (38, .u)]) (fun _ => _) (fun i => l.length + 4 - i) 0 ?_ ?_ rfl ?_
  · exact Nat.zero_le _
  · exact (.cons rfl (.u (.u (.u (.u (.u (.u (.u (.u (.u (.u (.u (.u (.u (.u (.u (.u (.u (.u (.u (.u (.u (.u (.u (.u (.u (.u .nil)))))))))))))))))))))))))))
  · rintro i hc1; refine jc_seq ?_; refine jc_region ?_; refine jo_l (ly_lt rfl rfl) (hd 16 rfl) ?_; refine jo_nil ?_; refine jc_seq ?_
    refine jc_if rfl (fun h2 => ?_) (fun h2 => ?_)
    · refine jc_skip ?_; refine jc_seq ?_; refine jc_block ?_; refine jc_seq ?_; refine jc_region ?_; refine jo_l (ly_mv rfl) (hd 17 rfl) ?_; refine jo_l (ly_ian (i := i) sl25 rfl rfl (by first | rfl | omega) (by first | omega | (dsimp only; omega))) (hd 18 rfl) ?_; refine jo_l (ly_ldq one82 rfl rfl) (hd 19 rfl) ?_; refine jo_l (ly_as rfl) (hd 5 rfl) ?_; refine jo_l (ly_as rfl) (hd 6 rfl) ?_; refine jo_nil ?_; refine jc_seq ?_; refine jc_region ?_; refine jo_l (ly_mv rfl) (hd 20 rfl) ?_; refine jo_l (ly_lt rfl rfl) (hd 21 rfl) ?_; refine jo_l (ly_mv rfl) (hd 22 rfl) ?_
      refine jo_ifp 22 rfl (fun h3 => ?_) (fun h3 => ?_)
      · refine jo_s 22 rfl rfl rfl (hd 23 rfl) ?_; refine jo_s 22 rfl rfl rfl (hd 24 rfl) ?_; refine jo_s 22 rfl rfl rfl (hd 25 rfl) ?_; refine jo_s 22 rfl rfl rfl (hd 26 rfl) ?_; refine jo_s 22 rfl rfl rfl (hd 27 rfl) ?_; refine jo_l (ly_pick_t rfl rfl) (hd 28 rfl) ?_; refine jo_nil ?_; refine jc_litt rfl ?_; refine jc_seq ?_; refine jc_region ?_; refine jo_l (ly_mv rfl) (hd 29 rfl) ?_; refine jo_l (ly_ff (ly_ne rfl rfl) (fun hh => hh (wrap_out (by omega) (by omega)))) (hd 30 rfl) ?_; refine jo_nil ?_; refine jc_litf rfl ?_; refine jc_skip ?_; refine jc_region ?_; refine jo_l (ly_add rfl rfl (wrap_i64 (by first | omega | (dsimp only; omega)) (by first | omega | (dsimp only; omega)))) (hd 38 rfl) ?_; refine jo_l (ly_mv rfl) (hd 15 rfl) ?_; refine jo_nil ?_
        refine ⟨i + 1, ?_, ?_, rfl, cov_n 47 rfl rfl ?_⟩
        · omega
        · omega
        · exact (.cons rfl (.u (.u (.u (.u (.u (.u (.u (.u (.u (.u (.u (.u (.u (.u (.u (.u (.u (.u (.u (.u (.u (.u (.u (.u (.u (.u .nil)))))))))))))))))))))))))))
      · refine jo_g 22 rfl rfl (ly_mv rfl) (hd 23 rfl) ?_; refine jo_g 22 rfl rfl (ly_mv rfl) (hd 24 rfl) ?_; refine jo_g 22 rfl rfl (ly_lenn sl25 rfl) (hd 25 rfl) ?_; refine jo_g 22 rfl rfl (ly_add rfl rfl (wrap_i64 (by first | omega | (dsimp only; omega)) (by first | omega | (dsimp only; omega)))) (hd 26 rfl) ?_; refine jo_g 22 rfl rfl (ly_ge rfl rfl) (hd 27 rfl) ?_; refine jo_l (ly_pick_f rfl rfl) (hd 28 rfl) ?_; refine jo_nil ?_
        refine jc_if rfl (fun h6 => ?_) (fun h6 => ?_)
        · refine jc_seq ?_; refine jc_region ?_; refine jo_l (ly_mv rfl) (hd 29 rfl) ?_; refine jo_l (ly_ff (ly_ne rfl rfl) (fun hh => hh (wrap_out (by omega) (by omega)))) (hd 30 rfl) ?_; refine jo_nil ?_; refine jc_litf rfl ?_; refine jc_skip ?_; refine jc_region ?_; refine jo_l (ly_add rfl rfl (wrap_i64 (by first | omega | (dsimp only; omega)) (by first | omega | (dsimp only; omega)))) (hd 38 rfl) ?_; refine jo_l (ly_mv rfl) (hd 15 rfl) ?_; refine jo_nil ?_
          refine ⟨i + 1, ?_, ?_, rfl, cov_n 47 rfl rfl ?_⟩
          · omega
          · omega
          · exact (.cons rfl (.u (.u (.u (.u (.u (.u (.u (.u (.u (.u (.u (.u (.u (.u (.u (.u (.u (.u (.u (.u (.u (.u (.u (.u (.u (.u .nil)))))))))))))))))))))))))))
        · refine jc_seq ?_; refine jc_region ?_; refine jo_l (ly_mv rfl) (hd 31 rfl) ?_; refine jo_l (ly_mv rfl) (hd 32 rfl) ?_; refine jo_l (ly_mv rfl) (hd 33 rfl) ?_; refine jo_l (ly_sub rfl rfl (wrap_i64 (by first | omega | (dsimp only; omega)) (by first | omega | (dsimp only; omega)))) (hd 34 rfl) ?_; refine jo_l (ly_ian (i := i - 2) sl25 rfl rfl (by first | rfl | omega) (by first | omega | (dsimp only; omega))) (hd 35 rfl) ?_; refine jo_l (ly_ldq one82 rfl rfl) (hd 36 rfl) ?_; refine jo_l (ly_ff (ly_ne rfl rfl) (fun hh => hh (wrap_in (by omega) (by omega)))) (hd 37 rfl) ?_; refine jo_nil ?_; refine jc_litf rfl ?_; refine jc_skip ?_; refine jc_region ?_; refine jo_l (ly_add rfl rfl (wrap_i64 (by first | omega | (dsimp only; omega)) (by first | omega | (dsimp only; omega)))) (hd 38 rfl) ?_; refine jo_l (ly_mv rfl) (hd 15 rfl) ?_; refine jo_nil ?_
          refine ⟨i + 1, ?_, ?_, rfl, cov_n 52 rfl rfl ?_⟩
          · omega
          · omega
          · exact (.cons rfl (.u (.u (.u (.u (.u (.u (.u (.u (.u (.u (.u (.u (.u (.u (.u (.u (.u (.u (.u (.u (.u (.u (.u (.u (.u (.u .nil)))))))))))))))))))))))))))
    · refine jc_exit ?_; refine jc_seq ?_; refine jc_region ?_; refine jo_l (ly_as rfl) (hd 4 rfl) ?_; refine jo_nil ?_; refine jc_ret ?_
      refine ⟨_, _, (.cons rfl .nil), .b, ?_⟩
      exact rfl
end Go.Proofs.YtaogaegchagbfaaDoor.Vc

/- Contracts with the error: mul.Mul, nat.Add, nat.Sub. -/
namespace Go.Proofs.YtaogaegchagbfaaDoor.Vc
open Go Go.RowKit
theorem AddN_e (a b : List Int) (hla : a.length < 4294967296) (hlb : b.length < 4294967296) (ua : u64s a) (ub : u64s b) : Spec Tryd.prog 60 [.n false .u64 a, .n false .u64 b] (fun o => ∃ (r : List Int) (e : Int), o = .ret (.t [.n false .u64 r, .i .i64 e]) ∧ ErrN (vl a + vl b) r e) := by
  have hu : u64s (sumL a b) := by
    unfold sumL
    have hc := adN_c (a := (swL (trm a) (trm b)).1) (b := (swL (trm a) (trm b)).2) (by unfold swL; split <;> exact u64s_trm (by assumption)) (by unfold swL; split <;> exact u64s_trm (by assumption)) (swL (trm a) (trm b)).1.length
    exact u64s_app1 (adN_u _) hc.1 (by omega)
  by_cases h : lenN (trm (sumL a b)) ≤ 67108864
  · exact (Add_ok a b hla hlb ua ub h).mono fun o ho => ⟨_, 0, ho, errN_ok hu (vl_sumL a b) (by rwa [lenN_trm] at h)⟩
  · exact (Add_big a b hla hlb ua ub (by omega)).mono fun o ho => ⟨_, 3, ho, errN_big hu (vl_sumL a b) (by rw [lenN_trm] at h; omega)⟩
theorem SubN_e (a b : List Int) (hla : a.length < 4294967296) (hlb : b.length < 4294967296) (ua : u64s a) (ub : u64s b) (hle : vl b ≤ vl a) : Spec Tryd.prog 63 [.n false .u64 a, .n false .u64 b] (fun o => ∃ (r : List Int) (e : Int), o = .ret (.t [.n false .u64 r, .i .i64 e]) ∧ ErrN (vl a - vl b) r e) := by
  have hc : 0 ≤ cmpL (trm a) (trm b) := by rcases cmpL_val ua ub with ⟨c, v⟩ | ⟨c, v⟩ | ⟨c, v⟩ <;> omega
  have hu : u64s (difL a b) := sbN_u (u64s_trm ua) (u64s_trm ub) _
  by_cases h : lenN (trm (difL a b)) ≤ 67108864
  · exact (Sub_ok a b hla hlb ua ub hc h).mono fun o ho => ⟨_, 0, ho, errN_ok hu (vl_difL ua ub hle) (by rwa [lenN_trm] at h)⟩
  · exact (Sub_big a b hla hlb ua ub hc (by omega)).mono fun o ho => ⟨_, 3, ho, errN_big hu (vl_difL ua ub hle) (by rw [lenN_trm] at h; omega)⟩
end Go.Proofs.YtaogaegchagbfaaDoor.Vc

/- Contracts of whole.norm, fits, result, Add, Sub, Mul, Neg, Make, Abs: the answer is the caller's own. -/
namespace Go.Proofs.YtaogaegchagbfaaDoor.Vc
open Go Go.RowKit
set_option maxHeartbeats 4000000 in
theorem Norm_n (l : List Int) (hl : l.length < 1099511627776) : SpecM Tryd.prog 75 [.n false .u64 l] [] (fun o G => o = .ret (.o 0 0 0 (trm l).length) ∧ G = [⟨76, 1, 0, true, ints .u64 (trm l)⟩]) := by
  refine specS_of [(0, .n false .u64 l)] rfl Tryd.func75 rfl (Nat.le_of_ble_eq_true rfl) fun Γ hN hds hL hR => ?_
  have hd : ∀ d, Nat.blt d 6 = true → d < Γ.N := fun d h => by rw [hN]; exact Nat.le_of_ble_eq_true h
  have hm := trm_len l
  refine jc_seq ?_; refine jc_region ?_; refine jo_l (ly_as rfl) (hd 2 rfl) ?_; refine jo_nil ?_; refine jc_seq ?_; refine jc_region ?_; refine jo_l (ly_mv rfl) (hd 3 rfl) ?_
  refine jo_call Tryd.f87 (trim_s l hl) rfl Tryd.func87 rfl rfl (ovL_cons rfl ovL_nil) (.cons .n .nil) (hd 4 rfl) ?_ (fun ch hp => by simp at hp)
  rintro y hy; injection hy with hy; subst hy; refine jo_h (hy_app0 (id := 0) el28 rfl rfl src_n (by omega) (by unfold maxLen; omega) rfl) (hd 5 rfl) ?_; refine jo_l (ly_as rfl) (hd 2 rfl) ?_; refine jo_nil ?_; refine jc_ret ?_
  refine ⟨[0], _, (.o 0 0 0 (trm l).length), (.cons rfl .nil), rfl, rfl, (by decide), (by first | exact idless_cons ints_id idless_nil | exact idless_cons rfl idless_nil), ?_⟩
  exact ⟨rfl, rfl⟩

set_option maxHeartbeats 4000000 in
theorem norm_n (s : Bool) (l : List Int) (hl : l.length < 1099511627776) : SpecM Tryd.prog 59 [.a [.b s, .n false .u64 l]] [] (fun o G => o = .ret (.a [.b (s && decide (0 < ((trm l).length : Int))), .o 0 0 0 (trm l).length]) ∧ G = [⟨76, 1, 0, true, ints .u64 (trm l)⟩]) := by
  refine specS_of [(0, .a [.b s, .n false .u64 l])] rfl Tryd.func59 rfl (Nat.le_of_ble_eq_true rfl) fun Γ hN hds hL hR => ?_
  have hd : ∀ d, Nat.blt d 16 = true → d < Γ.N := fun d h => by rw [hN]; exact Nat.le_of_ble_eq_true h
  refine jc_seq ?_; refine jc_region ?_; refine jo_h (hy_box (id := 0) (n := 2) rfl rfl rfl (by decide) rfl) (hd 1 rfl) ?_; refine jo_h (hy_alloc (id := 1) zero30 (by decide) rfl (by decide) rfl) (hd 2 rfl) ?_; refine jo_nil ?_; refine jc_seq ?_; refine jc_region ?_; refine jo_l (ly_fa fld30_1 rfl rfl rfl) (hd 4 rfl) ?_; refine jo_l (ly_ld one28 rfl rfl rfl) (hd 5 rfl) ?_
  refine jo_callN Tryd.f75 (Norm_n l hl) (fun o G ⟨_, h⟩ => h ▸ idless_cons ints_id idless_nil) rfl Tryd.func75 rfl rfl (ovL_cons rfl ovL_nil) (.cons .n .nil) (hd 6 rfl) ?_ (fun ch G hp => by simp at hp)
  rintro y G ⟨hy, rfl⟩; injection hy with hy; subst hy
  show JO _ _ _ _ ((6, .o 2 0 0 (trm l).length) :: _) _ _
  refine jo_l (ly_as rfl) (hd 3 rfl) ?_; refine jo_nil ?_; refine jc_seq ?_; refine jc_region ?_; refine jo_l (ly_fa fld30_0 rfl rfl rfl) (hd 7 rfl) ?_; refine jo_l (ly_ld one4 rfl rfl rfl) (hd 8 rfl) ?_; refine jo_l (ly_mv rfl) (hd 9 rfl) ?_
  refine jo_split 9 rfl (fun h1 => ?_) (fun h1 => ?_)
  · refine jo_g 9 rfl rfl (ly_mv rfl) (hd 10 rfl) ?_; refine jo_g 9 rfl rfl (ly_leno sl28 rfl rfl) (hd 11 rfl) ?_; refine jo_g 9 rfl rfl (ly_gt rfl rfl) (hd 12 rfl) ?_; refine jo_l (ly_pick_t rfl rfl) (hd 13 rfl) ?_; refine jo_l (ly_mv rfl) (hd 14 rfl) ?_; refine jo_l (ly_build (is := [0, 1]) (xs := [.tmp 13, .tmp 14]) zero30 pls30_0_1 rfl (ovL_cons rfl (ovL_cons rfl ovL_nil)) rfl (by first | (simp [plsOk, cellsV]; done) | (simp [plsOk, cellsV, old]; done)) (all_of rfl) rfl) (hd 15 rfl) ?_; refine jo_st (sy_store rfl rfl rfl siz30 rfl rfl (Nat.le_of_ble_eq_true rfl)) ?_; refine jo_nil ?_; refine jc_ret ?_
    refine ⟨[2], _, (.a [.b (decide (0 < ((trm l).length : Int))), .o 0 0 0 (trm l).length]), (.cons (ResV.cell agg30 rfl rfl rfl rfl) .nil), rfl, rfl, (by decide), (by first | exact idless_cons ints_id idless_nil | exact idless_cons rfl idless_nil), ?_⟩
    exact ⟨by simp_all, rfl⟩
  · refine jo_s 9 rfl rfl rfl (hd 10 rfl) ?_; refine jo_s 9 rfl rfl rfl (hd 11 rfl) ?_; refine jo_s 9 rfl rfl rfl (hd 12 rfl) ?_; refine jo_l (ly_pick_f rfl rfl) (hd 13 rfl) ?_; refine jo_l (ly_mv rfl) (hd 14 rfl) ?_; refine jo_l (ly_build (is := [0, 1]) (xs := [.tmp 13, .tmp 14]) zero30 pls30_0_1 rfl (ovL_cons rfl (ovL_cons rfl ovL_nil)) rfl (by first | (simp [plsOk, cellsV]; done) | (simp [plsOk, cellsV, old]; done)) (all_of rfl) rfl) (hd 15 rfl) ?_; refine jo_st (sy_store rfl rfl rfl siz30 rfl rfl (Nat.le_of_ble_eq_true rfl)) ?_; refine jo_nil ?_; refine jc_ret ?_
    refine ⟨[2], _, (.a [.b false, .o 0 0 0 (trm l).length]), (.cons (ResV.cell agg30 rfl rfl rfl rfl) .nil), rfl, rfl, (by decide), (by first | exact idless_cons ints_id idless_nil | exact idless_cons rfl idless_nil), ?_⟩
    exact ⟨by simp_all, rfl⟩

set_option maxHeartbeats 4000000 in
theorem fits_n (s : Bool) (l : List Int) (v : Int) (hl : l.length < 1099511627776) (hu : u64s l) (hv : sv s l = v) : SpecM Tryd.prog 90 [.a [.b s, .n false .u64 l]] [] (fun o G => ∃ (s2 : Bool) (r : List Int) (e : Int), o = .ret (.t [.a [.b s2, .o 0 0 0 r.length], .i .i64 e]) ∧ G = [⟨76, 1, 0, true, ints .u64 r⟩] ∧ Res (v) s2 r e) := by
  refine specS_of [(0, .a [.b s, .n false .u64 l])] rfl Tryd.func90 rfl (Nat.le_of_ble_eq_true rfl) fun Γ hN hds hL hR => ?_
  have hd : ∀ d, Nat.blt d 11 = true → d < Γ.N := fun d h => by rw [hN]; exact Nat.le_of_ble_eq_true h
  refine jc_seq ?_; refine jc_region ?_; refine jo_h (hy_box (id := 0) (n := 2) rfl rfl rfl (by decide) rfl) (hd 1 rfl) ?_; refine jo_h (hy_alloc (id := 1) zero30 (by decide) rfl (by decide) rfl) (hd 2 rfl) ?_; refine jo_l (ly_as rfl) (hd 3 rfl) ?_; refine jo_nil ?_; refine jc_seq ?_; refine jc_seq ?_; refine jc_region ?_; refine jo_l (ly_fa fld30_1 rfl rfl rfl) (hd 4 rfl) ?_; refine jo_l (ly_ld one28 rfl rfl rfl) (hd 5 rfl) ?_
  refine jo_call Tryd.f71 (Length_s l hl hu) rfl Tryd.func71 rfl rfl (ovL_cons rfl ovL_nil) (.cons .n .nil) (hd 6 rfl) ?_ (fun ch hp => by simp at hp)
  rintro y hy; injection hy with hy; subst hy; refine jo_l (ly_gt rfl rfl) (hd 7 rfl) ?_; refine jo_nil ?_
  refine jc_if rfl (fun h1 => ?_) (fun h1 => ?_)
  · refine jc_seq ?_; refine jc_region ?_; refine jo_l (ly_build (is := []) (xs := []) (pls := []) zero30 pls30_ rfl ovL_nil rfl trivial (all_of rfl) rfl) (hd 8 rfl) ?_; refine jo_st (sy_store rfl rfl rfl siz30 rfl rfl (Nat.le_of_ble_eq_true rfl)) ?_; refine jo_l (ly_as rfl) (hd 3 rfl) ?_; refine jo_nil ?_; refine jc_own0c (id := 1) 1 76 1 rfl rfl rfl ?_; refine jc_ret ?_
    refine ⟨[2], _, (.t [.a [.b false, .o 0 0 0 0], .i .i64 3]), (.cons (ResV.cell agg30 rfl rfl rfl rfl) (.cons rfl .nil)), rfl, rfl, (by decide), (by first | exact idless_cons ints_id idless_nil | exact idless_cons rfl idless_nil), ?_⟩
    exact ⟨false, [], 3, rfl, rfl, res_big hu hv (by omega)⟩
  · refine jc_skip ?_; refine jc_seq ?_; refine jc_region ?_; refine jo_l (ly_lda agg30 rfl rfl rfl rfl) (hd 9 rfl) ?_
    refine jo_callN Tryd.f59 (norm_n s l hl) (fun o G ⟨_, h⟩ => h ▸ idless_cons ints_id idless_nil) rfl Tryd.func59 rfl rfl (ovL_cons rfl ovL_nil) (.cons (.a1 .b (.a1 .n .a0)) .nil) (hd 10 rfl) ?_ (fun ch G hp => by simp at hp)
    rintro y G ⟨hy, rfl⟩; injection hy with hy; subst hy
    show JO _ _ _ _ ((10, .a [.b (s && decide (0 < ((trm l).length : Int))), .o 2 0 0 (trm l).length]) :: _) _ _
    refine jo_st (sy_store rfl rfl rfl siz30 rfl rfl (Nat.le_of_ble_eq_true rfl)) ?_; refine jo_l (ly_as rfl) (hd 3 rfl) ?_; refine jo_nil ?_; refine jc_ret ?_
    refine ⟨[2], _, (.t [.a [.b (s && decide (0 < ((trm l).length : Int))), .o 0 0 0 (trm l).length], .i .i64 0]), (.cons (ResV.cell agg30 rfl rfl rfl rfl) (.cons rfl .nil)), rfl, rfl, (by decide), (by first | exact idless_cons ints_id idless_nil | exact idless_cons rfl idless_nil), ?_⟩
    exact ⟨_, _, 0, rfl, rfl, res_ok hu hv (by omega)⟩

set_option maxHeartbeats 4000000 in
theorem result_n (s : Bool) (l : List Int) (e v : Int) (hRs : ResN v s l e) : SpecM Tryd.prog 61 [.b s, .n false .u64 l, .i .i64 e] [] (fun o G => ∃ (s2 : Bool) (r : List Int) (e : Int), o = .ret (.t [.a [.b s2, .o 0 0 0 r.length], .i .i64 e]) ∧ G = [⟨76, 1, 0, true, ints .u64 r⟩] ∧ Res (v) s2 r e) := by
  refine specS_of [(0, .b s), (1, .n false .u64 l), (2, .i .i64 e)] rfl Tryd.func61 rfl (Nat.le_of_ble_eq_true rfl) fun Γ hN hds hL hR => ?_
  have hd : ∀ d, Nat.blt d 18 = true → d < Γ.N := fun d h => by rw [hN]; exact Nat.le_of_ble_eq_true h
  refine jc_seq ?_; refine jc_region ?_; refine jo_h (hy_alloc (id := 0) zero30 (by decide) rfl (by decide) rfl) (hd 6 rfl) ?_; refine jo_l (ly_as rfl) (hd 7 rfl) ?_; refine jo_nil ?_; refine jc_seq ?_; refine jc_seq ?_; refine jc_region ?_; refine jo_l (ly_mv rfl) (hd 8 rfl) ?_; refine jo_l (ly_ne rfl rfl) (hd 9 rfl) ?_; refine jo_nil ?_
  refine jc_if rfl (fun h1 => ?_) (fun h1 => ?_)
  · have hE : e = 3 ∧ 67108864 < lenV v := by
      rcases hRs with ⟨h, _⟩ | h
      · omega
      · exact h
    refine jc_seq ?_; refine jc_region ?_; refine jo_l (ly_build (is := []) (xs := []) (pls := []) zero30 pls30_ rfl ovL_nil rfl trivial (all_of rfl) rfl) (hd 10 rfl) ?_; refine jo_l (ly_mv rfl) (hd 11 rfl) ?_; refine jo_st (sy_store rfl rfl rfl siz30 rfl rfl (Nat.le_of_ble_eq_true rfl)) ?_; refine jo_l (ly_as rfl) (hd 7 rfl) ?_; refine jo_nil ?_; refine jc_own0c (id := 0) 1 76 1 rfl rfl rfl ?_; refine jc_ret ?_
    refine ⟨[1], _, (.t [.a [.b false, .o 0 0 0 0], .i .i64 e]), (.cons (ResV.cell agg30 rfl rfl rfl rfl) (.cons rfl .nil)), rfl, rfl, (by decide), (by first | exact idless_cons ints_id idless_nil | exact idless_cons rfl idless_nil), ?_⟩
    exact ⟨false, [], e, rfl, rfl, .inr ⟨hE.2, rfl, rfl, hE.1⟩⟩
  · have hE : u64s l ∧ l.length < 1099511627776 ∧ sv s l = v := by
      rcases hRs with ⟨_, h⟩ | ⟨h, _⟩
      · exact h
      · omega
    refine jc_skip ?_; refine jc_seq ?_; refine jc_region ?_; refine jo_l (ly_mv rfl) (hd 12 rfl) ?_; refine jo_l (ly_mv rfl) (hd 13 rfl) ?_; refine jo_l (ly_build (is := [0, 1]) (xs := [.tmp 12, .tmp 13]) zero30 pls30_0_1 rfl (ovL_cons rfl (ovL_cons rfl ovL_nil)) rfl (by first | (simp [plsOk, cellsV]; done) | (simp [plsOk, cellsV, old]; done)) (all_of rfl) rfl) (hd 14 rfl) ?_
    refine jo_callN Tryd.f90 (fits_n s l v hE.2.1 hE.1 hE.2.2) (fun o G ⟨_, _, _, _, h, _⟩ => h ▸ idless_cons ints_id idless_nil) rfl Tryd.func90 rfl rfl (ovL_cons rfl ovL_nil) (.cons (.a1 .b (.a1 .n .a0)) .nil) (hd 15 rfl) ?_ (fun ch G hp => by simp at hp)
    rintro y G ⟨sf, rf, ef, hy, rfl, hf⟩; injection hy with hy; subst hy
    show JO _ _ _ _ ((15, .t [.a [.b sf, .o 1 0 0 rf.length], .i .i64 ef]) :: _) _ _
    refine jo_l (ly_ext rfl rfl) (hd 16 rfl) ?_; refine jo_l (ly_ext rfl rfl) (hd 17 rfl) ?_; refine jo_st (sy_store rfl rfl rfl siz30 rfl rfl (Nat.le_of_ble_eq_true rfl)) ?_; refine jo_l (ly_as rfl) (hd 7 rfl) ?_; refine jo_nil ?_; refine jc_ret ?_
    refine ⟨[1], _, (.t [.a [.b sf, .o 0 0 0 rf.length], .i .i64 ef]), (.cons (ResV.cell agg30 rfl rfl rfl rfl) (.cons rfl .nil)), rfl, rfl, (by decide), (by first | exact idless_cons ints_id idless_nil | exact idless_cons rfl idless_nil), ?_⟩
    exact ⟨sf, rf, ef, rfl, rfl, hf⟩

set_option maxHeartbeats 4000000 in
theorem WAdd_n (s t : Bool) (a b : List Int) (hla : a.length < 4294967296) (hlb : b.length < 4294967296) (ua : u64s a) (ub : u64s b) : SpecM Tryd.prog 26 [.a [.b s, .n false .u64 a], .a [.b t, .n false .u64 b]] [] (fun o G => ∃ (s2 : Bool) (r : List Int) (e : Int), o = .ret (.t [.a [.b s2, .o 0 0 0 r.length], .i .i64 e]) ∧ G = [⟨76, 1, 0, true, ints .u64 r⟩] ∧ Res (sv s a + sv t b) s2 r e) := by
  refine specS_of [(0, .a [.b s, .n false .u64 a]), (1, .a [.b t, .n false .u64 b])] rfl Tryd.func26 rfl (Nat.le_of_ble_eq_true rfl) fun Γ hN hds hL hR => ?_
  have hd : ∀ d, Nat.blt d 57 = true → d < Γ.N := fun d h => by rw [hN]; exact Nat.le_of_ble_eq_true h
  have hma := trm_len a
  have hmb := trm_len b
  have hcv := cmpL_val (u64s_trm ua) (u64s_trm ub)
  rw [trm_trm, trm_trm] at hcv
  have ea1 := sv_norm (s := s) ua
  have eb1 := sv_norm (s := t) ub
  have ha0 := vl_nonneg (u64s_trm ua)
  have hb0 := vl_nonneg (u64s_trm ub)
  refine jc_seq ?_; refine jc_region ?_; refine jo_h (hy_box (id := 0) (n := 2) rfl rfl rfl (by decide) rfl) (hd 2 rfl) ?_; refine jo_h (hy_box (id := 1) (n := 2) rfl rfl rfl (by decide) rfl) (hd 3 rfl) ?_; refine jo_h (hy_alloc (id := 2) zero30 (by decide) rfl (by decide) rfl) (hd 4 rfl) ?_; refine jo_l (ly_as rfl) (hd 5 rfl) ?_; refine jo_nil ?_; refine jc_seq ?_; refine jc_draw (n := 6) _ rfl mixed ?_; refine ja_l2 0 [1, 3, 4, 5] (lo_l (ly_lda agg30 rfl rfl rfl rfl) (hd 10 rfl)) rfl (by kernel_rfl) (by kernel_rfl) (by kernel_rfl) (by kernel_rfl) (fun _ _ _ _ h => h) ?_; refine ja_l2 2 [3, 4, 5] (lo_l (ly_lda agg30 rfl rfl rfl rfl) (hd 12 rfl)) rfl (by kernel_rfl) (by kernel_rfl) (by kernel_rfl) (by kernel_rfl) (fun _ _ _ _ h => h) ?_
  refine ja_1 1 ?_ rfl (by kernel_rfl)
  refine js_call Tryd.f59 (norm_s s a (by omega)) rfl Tryd.func59 rfl rfl (ovL_cons rfl ovL_nil) (.cons (.a1 .b (.a1 .n .a0)) .nil) (hd 11 rfl) ?_ (fun ch hp => by simp at hp)
  rintro y hy; injection hy with hy; subst hy
  refine ja_1 3 ?_ rfl (by kernel_rfl)
  refine js_call Tryd.f59 (norm_s t b (by omega)) rfl Tryd.func59 rfl rfl (ovL_cons rfl ovL_nil) (.cons (.a1 .b (.a1 .n .a0)) .nil) (hd 13 rfl) ?_ (fun ch hp => by simp at hp)
  rintro y hy; injection hy with hy; subst hy
  refine ja_1 4 ?_ rfl (by kernel_rfl)
  refine js_st (sy_store rfl rfl rfl siz30 rfl rfl (Nat.le_of_ble_eq_true rfl)) rfl ?_
  refine ja_1 5 ?_ rfl (by kernel_rfl)
  refine js_st (sy_store rfl rfl rfl siz30 rfl rfl (Nat.le_of_ble_eq_true rfl)) rfl ?_; refine ja_nil (by kernel_rfl) ?_; refine jc_seq ?_; refine jc_seq ?_; refine jc_region ?_; refine jo_l (ly_fa fld30_0 rfl rfl rfl) (hd 14 rfl) ?_; refine jo_l (ly_ld one4 rfl rfl rfl) (hd 15 rfl) ?_; refine jo_l (ly_fa fld30_0 rfl rfl rfl) (hd 16 rfl) ?_; refine jo_l (ly_ld one4 rfl rfl rfl) (hd 17 rfl) ?_; refine jo_l (ly_eqb und4 rfl rfl) (hd 18 rfl) ?_; refine jo_nil ?_
  refine jc_cond rfl (fun h1 => ?_) (fun h1 => ?_)
  · refine jc_seq ?_; refine jc_region ?_; refine jo_l (ly_fa fld30_1 rfl rfl rfl) (hd 20 rfl) ?_; refine jo_l (ly_ld one28 rfl rfl rfl) (hd 21 rfl) ?_; refine jo_l (ly_fa fld30_1 rfl rfl rfl) (hd 22 rfl) ?_; refine jo_l (ly_ld one28 rfl rfl rfl) (hd 23 rfl) ?_
    refine jo_call Tryd.f60 (AddN_e (trm a) (trm b) (by omega) (by omega) (u64s_trm ua) (u64s_trm ub)) rfl Tryd.func60 rfl rfl (ovL_cons rfl (ovL_cons rfl ovL_nil)) (.cons .n (.cons .n .nil)) (hd 24 rfl) ?_ (fun ch hp => by simp at hp)
    rintro y ⟨ra, ea, hy, ha⟩; injection hy with hy; subst hy; refine jo_l (ly_mv rfl) (hd 19 rfl) ?_; refine jo_l (ly_ext rfl rfl) (hd 25 rfl) ?_; refine jo_l (ly_ext rfl rfl) (hd 26 rfl) ?_; refine jo_l (ly_as rfl) (hd 6 rfl) ?_; refine jo_l (ly_as rfl) (hd 7 rfl) ?_; refine jo_nil ?_; refine jc_seq ?_; refine jc_region ?_; refine jo_l (ly_fa fld30_0 rfl rfl rfl) (hd 27 rfl) ?_; refine jo_l (ly_ld one4 rfl rfl rfl) (hd 28 rfl) ?_; refine jo_l (ly_mv rfl) (hd 29 rfl) ?_; refine jo_l (ly_mv rfl) (hd 30 rfl) ?_
    refine jo_callN Tryd.f61 (result_n (s && decide (0 < ((trm a).length : Int))) ra ea (sv s a + sv t b) (resN_of ha (by omega) (fun q uq hq => add_val (by assumption) hq ea1 eb1))) (fun o G ⟨_, _, _, _, h, _⟩ => h ▸ idless_cons ints_id idless_nil) rfl Tryd.func61 rfl rfl (ovL_cons rfl (ovL_cons rfl (ovL_cons rfl ovL_nil))) (.cons .b (.cons .n (.cons .i .nil))) (hd 31 rfl) ?_ (fun ch G hp => by simp at hp)
    rintro y G ⟨sr, rr, er, hy, rfl, hr⟩; injection hy with hy; subst hy
    show JO _ _ _ _ ((31, .t [.a [.b sr, .o 3 0 0 rr.length], .i .i64 er]) :: _) _ _
    refine jo_l (ly_ext rfl rfl) (hd 32 rfl) ?_; refine jo_l (ly_ext rfl rfl) (hd 33 rfl) ?_; refine jo_st (sy_store rfl rfl rfl siz30 rfl rfl (Nat.le_of_ble_eq_true rfl)) ?_; refine jo_l (ly_as rfl) (hd 5 rfl) ?_; refine jo_nil ?_; refine jc_ret ?_
    refine ⟨[3], _, (.t [.a [.b sr, .o 0 0 0 rr.length], .i .i64 er]), (.cons (ResV.cell agg30 rfl rfl rfl rfl) (.cons rfl .nil)), rfl, rfl, (by decide), (by first | exact idless_cons ints_id idless_nil | exact idless_cons rfl idless_nil), ?_⟩
    exact ⟨sr, rr, er, rfl, rfl, hr⟩
  · refine jc_skip ?_; refine jc_seq ?_; refine jc_seq ?_; refine jc_region ?_; refine jo_l (ly_fa fld30_1 rfl rfl rfl) (hd 34 rfl) ?_; refine jo_l (ly_ld one28 rfl rfl rfl) (hd 35 rfl) ?_; refine jo_l (ly_fa fld30_1 rfl rfl rfl) (hd 36 rfl) ?_; refine jo_l (ly_ld one28 rfl rfl rfl) (hd 37 rfl) ?_
    refine jo_call Tryd.f62 (Compare_s (trm a) (trm b) (by omega) (by omega)) rfl Tryd.func62 rfl rfl (ovL_cons rfl (ovL_cons rfl ovL_nil)) (.cons .n (.cons .n .nil)) (hd 38 rfl) ?_ (fun ch hp => by simp at hp)
    rintro y hy; injection hy with hy; subst hy; refine jo_l (ly_lt rfl rfl) (hd 39 rfl) ?_; refine jo_nil ?_
    refine jc_if rfl (fun h2 => ?_) (fun h2 => ?_)
    · rw [trm_trm, trm_trm] at h2
      refine jc_region ?_; refine jo_l (ly_lda agg30 rfl rfl rfl rfl) (hd 40 rfl) ?_; refine jo_l (ly_lda agg30 rfl rfl rfl rfl) (hd 41 rfl) ?_; refine jo_st (sy_store rfl rfl rfl siz30 rfl rfl (Nat.le_of_ble_eq_true rfl)) ?_; refine jo_st (sy_store rfl rfl rfl siz30 rfl rfl (Nat.le_of_ble_eq_true rfl)) ?_; refine jo_nil ?_; refine jc_seq ?_; refine jc_region ?_; refine jo_l (ly_fa fld30_1 rfl rfl rfl) (hd 43 rfl) ?_; refine jo_l (ly_ld one28 rfl rfl rfl) (hd 44 rfl) ?_; refine jo_l (ly_fa fld30_1 rfl rfl rfl) (hd 45 rfl) ?_; refine jo_l (ly_ld one28 rfl rfl rfl) (hd 46 rfl) ?_
      refine jo_call Tryd.f63 (SubN_e (trm b) (trm a) (by omega) (by omega) (u64s_trm ub) (u64s_trm ua) (by rcases hcv with ⟨c, v⟩ | ⟨c, v⟩ | ⟨c, v⟩ <;> omega)) rfl Tryd.func63 rfl rfl (ovL_cons rfl (ovL_cons rfl ovL_nil)) (.cons .n (.cons .n .nil)) (hd 47 rfl) ?_ (fun ch hp => by simp at hp)
      rintro y ⟨ra, ea, hy, ha⟩; injection hy with hy; subst hy; refine jo_l (ly_mv rfl) (hd 42 rfl) ?_; refine jo_l (ly_ext rfl rfl) (hd 48 rfl) ?_; refine jo_l (ly_ext rfl rfl) (hd 49 rfl) ?_; refine jo_l (ly_as rfl) (hd 8 rfl) ?_; refine jo_l (ly_as rfl) (hd 9 rfl) ?_; refine jo_nil ?_; refine jc_seq ?_; refine jc_region ?_; refine jo_l (ly_fa fld30_0 rfl rfl rfl) (hd 50 rfl) ?_; refine jo_l (ly_ld one4 rfl rfl rfl) (hd 51 rfl) ?_; refine jo_l (ly_mv rfl) (hd 52 rfl) ?_; refine jo_l (ly_mv rfl) (hd 53 rfl) ?_
      refine jo_callN Tryd.f61 (result_n (t && decide (0 < ((trm b).length : Int))) ra ea (sv s a + sv t b) (resN_of ha (by rcases hcv with ⟨c, v⟩ | ⟨c, v⟩ | ⟨c, v⟩ <;> omega) (fun q uq hq => (sub_val (by rw [Bool.beq_comm]; assumption) hq eb1 ea1).trans (Int.add_comm _ _)))) (fun o G ⟨_, _, _, _, h, _⟩ => h ▸ idless_cons ints_id idless_nil) rfl Tryd.func61 rfl rfl (ovL_cons rfl (ovL_cons rfl (ovL_cons rfl ovL_nil))) (.cons .b (.cons .n (.cons .i .nil))) (hd 54 rfl) ?_ (fun ch G hp => by simp at hp)
      rintro y G ⟨sr, rr, er, hy, rfl, hr⟩; injection hy with hy; subst hy
      show JO _ _ _ _ ((54, .t [.a [.b sr, .o 3 0 0 rr.length], .i .i64 er]) :: _) _ _
      refine jo_l (ly_ext rfl rfl) (hd 55 rfl) ?_; refine jo_l (ly_ext rfl rfl) (hd 56 rfl) ?_; refine jo_st (sy_store rfl rfl rfl siz30 rfl rfl (Nat.le_of_ble_eq_true rfl)) ?_; refine jo_l (ly_as rfl) (hd 5 rfl) ?_; refine jo_nil ?_; refine jc_ret ?_
      refine ⟨[3], _, (.t [.a [.b sr, .o 0 0 0 rr.length], .i .i64 er]), (.cons (ResV.cell agg30 rfl rfl rfl rfl) (.cons rfl .nil)), rfl, rfl, (by decide), (by first | exact idless_cons ints_id idless_nil | exact idless_cons rfl idless_nil), ?_⟩
      exact ⟨sr, rr, er, rfl, rfl, hr⟩
    · rw [trm_trm, trm_trm] at h2
      refine jc_skip ?_; refine jc_seq ?_; refine jc_region ?_; refine jo_l (ly_fa fld30_1 rfl rfl rfl) (hd 43 rfl) ?_; refine jo_l (ly_ld one28 rfl rfl rfl) (hd 44 rfl) ?_; refine jo_l (ly_fa fld30_1 rfl rfl rfl) (hd 45 rfl) ?_; refine jo_l (ly_ld one28 rfl rfl rfl) (hd 46 rfl) ?_
      refine jo_call Tryd.f63 (SubN_e (trm a) (trm b) (by omega) (by omega) (u64s_trm ua) (u64s_trm ub) (by rcases hcv with ⟨c, v⟩ | ⟨c, v⟩ | ⟨c, v⟩ <;> omega)) rfl Tryd.func63 rfl rfl (ovL_cons rfl (ovL_cons rfl ovL_nil)) (.cons .n (.cons .n .nil)) (hd 47 rfl) ?_ (fun ch hp => by simp at hp)
      rintro y ⟨ra, ea, hy, ha⟩; injection hy with hy; subst hy; refine jo_l (ly_mv rfl) (hd 42 rfl) ?_; refine jo_l (ly_ext rfl rfl) (hd 48 rfl) ?_; refine jo_l (ly_ext rfl rfl) (hd 49 rfl) ?_; refine jo_l (ly_as rfl) (hd 8 rfl) ?_; refine jo_l (ly_as rfl) (hd 9 rfl) ?_; refine jo_nil ?_; refine jc_seq ?_; refine jc_region ?_; refine jo_l (ly_fa fld30_0 rfl rfl rfl) (hd 50 rfl) ?_; refine jo_l (ly_ld one4 rfl rfl rfl) (hd 51 rfl) ?_; refine jo_l (ly_mv rfl) (hd 52 rfl) ?_; refine jo_l (ly_mv rfl) (hd 53 rfl) ?_
      refine jo_callN Tryd.f61 (result_n (s && decide (0 < ((trm a).length : Int))) ra ea (sv s a + sv t b) (resN_of ha (by rcases hcv with ⟨c, v⟩ | ⟨c, v⟩ | ⟨c, v⟩ <;> omega) (fun q uq hq => sub_val (by assumption) hq ea1 eb1))) (fun o G ⟨_, _, _, _, h, _⟩ => h ▸ idless_cons ints_id idless_nil) rfl Tryd.func61 rfl rfl (ovL_cons rfl (ovL_cons rfl (ovL_cons rfl ovL_nil))) (.cons .b (.cons .n (.cons .i .nil))) (hd 54 rfl) ?_ (fun ch G hp => by simp at hp)
      rintro y G ⟨sr, rr, er, hy, rfl, hr⟩; injection hy with hy; subst hy
      show JO _ _ _ _ ((54, .t [.a [.b sr, .o 3 0 0 rr.length], .i .i64 er]) :: _) _ _
      refine jo_l (ly_ext rfl rfl) (hd 55 rfl) ?_; refine jo_l (ly_ext rfl rfl) (hd 56 rfl) ?_; refine jo_st (sy_store rfl rfl rfl siz30 rfl rfl (Nat.le_of_ble_eq_true rfl)) ?_; refine jo_l (ly_as rfl) (hd 5 rfl) ?_; refine jo_nil ?_; refine jc_ret ?_
      refine ⟨[3], _, (.t [.a [.b sr, .o 0 0 0 rr.length], .i .i64 er]), (.cons (ResV.cell agg30 rfl rfl rfl rfl) (.cons rfl .nil)), rfl, rfl, (by decide), (by first | exact idless_cons ints_id idless_nil | exact idless_cons rfl idless_nil), ?_⟩
      exact ⟨sr, rr, er, rfl, rfl, hr⟩

set_option maxHeartbeats 4000000 in
theorem WSub_n (s t : Bool) (a b : List Int) (hla : a.length < 4294967296) (hlb : b.length < 4294967296) (ua : u64s a) (ub : u64s b) : SpecM Tryd.prog 28 [.a [.b s, .n false .u64 a], .a [.b t, .n false .u64 b]] [] (fun o G => ∃ (s2 : Bool) (r : List Int) (e : Int), o = .ret (.t [.a [.b s2, .o 0 0 0 r.length], .i .i64 e]) ∧ G = [⟨76, 1, 0, true, ints .u64 r⟩] ∧ Res (sv s a - sv t b) s2 r e) := by
  refine specS_of [(0, .a [.b s, .n false .u64 a]), (1, .a [.b t, .n false .u64 b])] rfl Tryd.func28 rfl (Nat.le_of_ble_eq_true rfl) fun Γ hN hds hL hR => ?_
  have hd : ∀ d, Nat.blt d 12 = true → d < Γ.N := fun d h => by rw [hN]; exact Nat.le_of_ble_eq_true h
  have hmb := trm_len b
  have hx : ∀ (x : Int), x + sv (!t && decide (0 < ((trm b).length : Int))) (trm b) = x - sv t b := fun x => by rw [sv_norm ub, sv_neg]; omega
  refine jc_seq ?_; refine jc_region ?_; refine jo_h (hy_box (id := 0) (n := 2) rfl rfl rfl (by decide) rfl) (hd 2 rfl) ?_; refine jo_h (hy_box (id := 1) (n := 2) rfl rfl rfl (by decide) rfl) (hd 3 rfl) ?_; refine jo_h (hy_alloc (id := 2) zero30 (by decide) rfl (by decide) rfl) (hd 4 rfl) ?_; refine jo_l (ly_as rfl) (hd 5 rfl) ?_; refine jo_nil ?_; refine jc_seq ?_; refine jc_draw (n := 8) _ rfl mixed ?_; refine ja_l2 0 [3, 4, 5, 6, 7] (lo_l (ly_lda agg30 rfl rfl rfl rfl) (hd 6 rfl)) rfl (by kernel_rfl) (by kernel_rfl) (by kernel_rfl) (by kernel_rfl) (fun _ _ _ _ h => h) ?_; refine ja_l2 1 [2, 3, 4, 5, 6, 7] (lo_l (ly_lda agg30 rfl rfl rfl rfl) (hd 7 rfl)) rfl (by kernel_rfl) (by kernel_rfl) (by kernel_rfl) (by kernel_rfl) (fun _ _ _ _ h => h) ?_
  refine ja_1 2 ?_ rfl (by kernel_rfl)
  refine js_call Tryd.f64 (flip_s t b (by omega) ub) rfl Tryd.func64 rfl rfl (ovL_cons rfl ovL_nil) (.cons (.a1 .b (.a1 .n .a0)) .nil) (hd 8 rfl) ?_ (fun ch hp => by simp at hp)
  rintro y hy; injection hy with hy; subst hy
  refine ja_1 3 ?_ rfl (by kernel_rfl)
  refine js_callN Tryd.f26 (WAdd_n s (!t && decide (0 < ((trm b).length : Int))) a (trm b) (by omega) (by omega) ua (u64s_trm ub)) (fun o G ⟨_, _, _, _, h, _⟩ => h ▸ idless_cons ints_id idless_nil) rfl Tryd.func26 rfl rfl (ovL_cons rfl (ovL_cons rfl ovL_nil)) (.cons (.a1 .b (.a1 .n .a0)) (.cons (.a1 .b (.a1 .n .a0)) .nil)) (hd 9 rfl) ?_ (fun ch G hp => by simp at hp)
  rintro y G ⟨sr, rr, er, hy, rfl, hr⟩; injection hy with hy; subst hy
  show JA _ _ _ _ _ ((9, .t [.a [.b sr, .o 3 0 0 rr.length], .i .i64 er]) :: _) _ _
  refine ja_l 4 (lo_l (ly_ext rfl rfl) (hd 10 rfl)) rfl (by kernel_rfl) (by kernel_rfl) (by kernel_rfl) (fun _ _ _ _ h => h) ?_; refine ja_l 5 (lo_l (ly_ext rfl rfl) (hd 11 rfl)) rfl (by kernel_rfl) (by kernel_rfl) (by kernel_rfl) (fun _ _ _ _ h => h) ?_
  refine ja_1 6 ?_ rfl (by kernel_rfl)
  refine js_st (sy_store rfl rfl rfl siz30 rfl rfl (Nat.le_of_ble_eq_true rfl)) rfl ?_; refine ja_l 7 (lo_l (ly_as rfl) (hd 5 rfl)) rfl (by kernel_rfl) (by kernel_rfl) (by kernel_rfl) (fun _ _ _ _ h => h) ?_; refine ja_nil (by kernel_rfl) ?_; refine jc_ret ?_
  refine ⟨[3], _, (.t [.a [.b sr, .o 0 0 0 rr.length], .i .i64 er]), (.cons (ResV.cell agg30 rfl rfl rfl rfl) (.cons rfl .nil)), rfl, rfl, (by decide), (by first | exact idless_cons ints_id idless_nil | exact idless_cons rfl idless_nil), ?_⟩
  exact ⟨sr, rr, er, rfl, rfl, by rw [hx] at hr; exact hr⟩
end Go.Proofs.YtaogaegchagbfaaDoor.Vc

/- Contracts of the references' naturals: at, Cmp, Add, Sub, Mul. -/
namespace Go.Proofs.YtaogaegchagbfaaDoor.Vc
open Go Go.RowKit
set_option maxHeartbeats 4000000 in
theorem at_s (x i d : Nat) (hx : (digs B32 x).length < 1099511627776) (hi : x / B32 ^ i % B32 = d) : Spec Tryd.prog 81 [.n false .u64 (digs B32 x), .i .i64 (i : Int)] (fun o => o = .ret (.i .u64 (d : Int))) := by
  refine spec_of' [(0, .n false .u64 (digs B32 x)), (1, .i .i64 (i : Int))] rfl Tryd.func81 rfl (Nat.le_of_ble_eq_true rfl) fun Γ hN hds hL hR => ?_
  have hd : ∀ d, Nat.blt d 13 = true → d < Γ.N := fun d h => by rw [hN]; exact Nat.le_of_ble_eq_true h
  have hv := digs_at (b := B32) (by decide) i x
  have ht := rng_getD (b := B32) (by decide) (rng_digs (by decide) x) i
  refine jc_seq ?_; refine jc_region ?_; refine jo_l (ly_as rfl) (hd 4 rfl) ?_; refine jo_nil ?_; refine jc_seq ?_; refine jc_seq ?_; refine jc_region ?_; refine jo_l (ly_mv rfl) (hd 5 rfl) ?_; refine jo_l (ly_mv rfl) (hd 6 rfl) ?_; refine jo_l (ly_lenn sl33 rfl) (hd 7 rfl) ?_; refine jo_l (ly_lt rfl rfl) (hd 8 rfl) ?_; refine jo_nil ?_
  refine jc_if rfl (fun h1 => ?_) (fun h1 => ?_)
  · refine jc_seq ?_; refine jc_region ?_; refine jo_l (ly_mv rfl) (hd 9 rfl) ?_; refine jo_l (ly_mv rfl) (hd 10 rfl) ?_; refine jo_l (ly_ian (i := i) sl33 rfl rfl (by first | rfl | omega) (by omega)) (hd 11 rfl) ?_; refine jo_l (ly_ldq one82 rfl rfl) (hd 12 rfl) ?_; refine jo_l (ly_as rfl) (hd 4 rfl) ?_; refine jo_nil ?_; refine jc_ret ?_
    refine ⟨_, _, (.cons rfl .nil), .i, ?_⟩
    rw [hv, hi]
  · refine jc_skip ?_; refine jc_seq ?_; refine jc_region ?_; refine jo_l (ly_as rfl) (hd 4 rfl) ?_; refine jo_nil ?_; refine jc_ret ?_
    refine ⟨_, _, (.cons rfl .nil), .i, ?_⟩
    rw [← hi]
    have h0 : (digs B32 x).getD i 0 = 0 := getD_ge (by omega)
    rw [h0] at hv
    rw [← hv]

set_option maxHeartbeats 4000000 in
theorem rCmp_s (x y : Nat) (hx : (digs B32 x).length < 1099511627776) (hy : (digs B32 y).length < 1099511627776) : Spec Tryd.prog 85 [.n false .u64 (digs B32 x), .n false .u64 (digs B32 y)] (fun o => o = .ret (.i .i64 (cmpI x y))) := by
  refine spec_of' [(0, .n false .u64 (digs B32 x)), (1, .n false .u64 (digs B32 y))] rfl Tryd.func85 rfl (Nat.le_of_ble_eq_true rfl) fun Γ hN hds hL hR => ?_
  have hd : ∀ d, Nat.blt d 41 = true → d < Γ.N := fun d h => by rw [hN]; exact Nat.le_of_ble_eq_true h
  have hcm := cmpL_digs (b := B32) (by decide) x y
  unfold cmpL at hcm
  refine jc_seq ?_; refine jc_region ?_; refine jo_l (ly_as rfl) (hd 4 rfl) ?_; refine jo_nil ?_; refine jc_seq ?_; refine jc_seq ?_; refine jc_region ?_; refine jo_l (ly_mv rfl) (hd 6 rfl) ?_; refine jo_l (ly_lenn sl33 rfl) (hd 7 rfl) ?_; refine jo_l (ly_mv rfl) (hd 8 rfl) ?_; refine jo_l (ly_lenn sl33 rfl) (hd 9 rfl) ?_; refine jo_l (ly_ne rfl rfl) (hd 10 rfl) ?_; refine jo_nil ?_
  refine jc_if rfl (fun h1 => ?_) (fun h1 => ?_)
  · refine jc_seq ?_; refine jc_seq ?_; refine jc_region ?_; refine jo_l (ly_mv rfl) (hd 11 rfl) ?_; refine jo_l (ly_lenn sl33 rfl) (hd 12 rfl) ?_; refine jo_l (ly_mv rfl) (hd 13 rfl) ?_; refine jo_l (ly_lenn sl33 rfl) (hd 14 rfl) ?_; refine jo_l (ly_lt rfl rfl) (hd 15 rfl) ?_; refine jo_nil ?_
    refine jc_if rfl (fun h2 => ?_) (fun h2 => ?_)
    · refine jc_seq ?_; refine jc_region ?_; refine jo_l (ly_as rfl) (hd 4 rfl) ?_; refine jo_nil ?_; refine jc_ret ?_
      refine ⟨_, _, (.cons rfl .nil), .i, ?_⟩
      rw [← hcm, if_pos (by omega)]
    · refine jc_skip ?_; refine jc_seq ?_; refine jc_region ?_; refine jo_l (ly_as rfl) (hd 4 rfl) ?_; refine jo_nil ?_; refine jc_ret ?_
      refine ⟨_, _, (.cons rfl .nil), .i, ?_⟩
      rw [← hcm, if_neg (by omega), if_pos (by omega)]
  · refine jc_skip ?_; refine jc_seq ?_; refine jc_seq ?_; refine jc_region ?_; refine jo_l (ly_mv rfl) (hd 16 rfl) ?_; refine jo_l (ly_lenn sl33 rfl) (hd 17 rfl) ?_; refine jo_l (ly_sub rfl rfl (wrap_i64 (by omega) (by omega))) (hd 18 rfl) ?_; refine jo_l (ly_as rfl) (hd 5 rfl) ?_; refine jo_nil ?_; refine jc_block ?_
    refine jc_loopF (G := Nat) (fun k => k ≤ (digs B32 x).length ∧ cmpN (digs B32 x) (digs B32 y) k = cmpN (digs B32 x) (digs B32 y) (digs B32 x).length) (fun k => [(5, .i .i64 ((k : Int) - 1)), (4, .u), (19, .u), (20, .u), (21, .u), (22, .u), (23, .u), (24, .u), (25, .u), (26, .u), (27, .u), (28, .u), (29, .u), (30, .u), (31, .u), (32, .u), (33, .u), (34, .u), (35, .u), (36, .u), (37, .u), (38, .u), (39, .u), (40, .u)]) (fun _ => _) (fun k => k) (digs B32 x).length ?_ ?_ rfl ?_
    · exact ⟨Nat.le_refl _, rfl⟩
    · exact (.cons rfl (.u (.u (.u (.u (.u (.u (.u (.u (.u (.u (.u (.u (.u (.u (.u (.u (.u (.u (.u (.u (.u (.u (.u .nil))))))))))))))))))))))))
    · rintro k ⟨hc1, hc2⟩; refine jc_seq ?_; refine jc_seq ?_; refine jc_region ?_; refine jo_l (ly_mv rfl) (hd 19 rfl) ?_; refine jo_l (ly_ge rfl rfl) (hd 20 rfl) ?_; refine jo_nil ?_
      refine jc_if rfl (fun h3 => ?_) (fun h3 => ?_)
      · refine jc_skip ?_; refine jc_seq ?_; refine jc_block ?_; refine jc_seq ?_; refine jc_seq ?_; refine jc_draw (n := 9) _ rfl mixed ?_; refine ja_l2 0 [2, 3, 8] (lo_l (ly_mv rfl) (hd 23 rfl)) rfl (by kernel_rfl) (by kernel_rfl) (by kernel_rfl) (by kernel_rfl) (fun _ _ _ _ h => h) ?_; refine ja_l2 1 [2, 3, 8] (lo_l (ly_mv rfl) (hd 24 rfl)) rfl (by kernel_rfl) (by kernel_rfl) (by kernel_rfl) (by kernel_rfl) (fun _ _ _ _ h => h) ?_; refine ja_l2 2 [3, 8] (lo_l (ly_ian (i := k - 1) sl33 rfl rfl (by omega) (by omega)) (hd 25 rfl)) rfl (by kernel_rfl) (by kernel_rfl) (by kernel_rfl) (by kernel_rfl) (fun _ _ _ _ h => h) ?_; refine ja_l 3 (lo_l (ly_ldq one82 rfl rfl) (hd 26 rfl)) rfl (by kernel_rfl) (by kernel_rfl) (by kernel_rfl) (fun _ _ _ _ h => h) ?_; refine ja_l2 4 [6, 7, 8] (lo_l (ly_mv rfl) (hd 27 rfl)) rfl (by kernel_rfl) (by kernel_rfl) (by kernel_rfl) (by kernel_rfl) (fun _ _ _ _ h => h) ?_; refine ja_l2 5 [6, 7, 8] (lo_l (ly_mv rfl) (hd 28 rfl)) rfl (by kernel_rfl) (by kernel_rfl) (by kernel_rfl) (by kernel_rfl) (fun _ _ _ _ h => h) ?_; refine ja_l2 6 [7, 8] (lo_l (ly_ian (i := k - 1) sl33 rfl rfl (by omega) (by omega)) (hd 29 rfl)) rfl (by kernel_rfl) (by kernel_rfl) (by kernel_rfl) (by kernel_rfl) (fun _ _ _ _ h => h) ?_; refine ja_l 7 (lo_l (ly_ldq one82 rfl rfl) (hd 30 rfl)) rfl (by kernel_rfl) (by kernel_rfl) (by kernel_rfl) (fun _ _ _ _ h => h) ?_; refine ja_l 8 (lo_l (ly_lt rfl rfl) (hd 31 rfl)) rfl (by kernel_rfl) (by kernel_rfl) (by kernel_rfl) (fun _ _ _ _ h => h) ?_; refine ja_nil (by kernel_rfl) ?_
        refine jc_if rfl (fun h4 => ?_) (fun h4 => ?_)
        · refine jc_seq ?_; refine jc_region ?_; refine jo_l (ly_as rfl) (hd 4 rfl) ?_; refine jo_nil ?_; refine jc_ret ?_
          refine ⟨_, _, (.cons rfl .nil), .i, ?_⟩
          rw [← hcm, if_neg (by omega), if_neg (by omega), ← hc2, cmpN_lt (by omega) (by assumption)]
        · refine jc_skip ?_; refine jc_seq ?_; refine jc_draw (n := 9) _ rfl mixed ?_; refine ja_l2 0 [2, 3, 8] (lo_l (ly_mv rfl) (hd 32 rfl)) rfl (by kernel_rfl) (by kernel_rfl) (by kernel_rfl) (by kernel_rfl) (fun _ _ _ _ h => h) ?_; refine ja_l2 1 [2, 3, 8] (lo_l (ly_mv rfl) (hd 33 rfl)) rfl (by kernel_rfl) (by kernel_rfl) (by kernel_rfl) (by kernel_rfl) (fun _ _ _ _ h => h) ?_; refine ja_l2 2 [3, 8] (lo_l (ly_ian (i := k - 1) sl33 rfl rfl (by omega) (by omega)) (hd 34 rfl)) rfl (by kernel_rfl) (by kernel_rfl) (by kernel_rfl) (by kernel_rfl) (fun _ _ _ _ h => h) ?_; refine ja_l 3 (lo_l (ly_ldq one82 rfl rfl) (hd 35 rfl)) rfl (by kernel_rfl) (by kernel_rfl) (by kernel_rfl) (fun _ _ _ _ h => h) ?_; refine ja_l2 4 [6, 7, 8] (lo_l (ly_mv rfl) (hd 36 rfl)) rfl (by kernel_rfl) (by kernel_rfl) (by kernel_rfl) (by kernel_rfl) (fun _ _ _ _ h => h) ?_; refine ja_l2 5 [6, 7, 8] (lo_l (ly_mv rfl) (hd 37 rfl)) rfl (by kernel_rfl) (by kernel_rfl) (by kernel_rfl) (by kernel_rfl) (fun _ _ _ _ h => h) ?_; refine ja_l2 6 [7, 8] (lo_l (ly_ian (i := k - 1) sl33 rfl rfl (by omega) (by omega)) (hd 38 rfl)) rfl (by kernel_rfl) (by kernel_rfl) (by kernel_rfl) (by kernel_rfl) (fun _ _ _ _ h => h) ?_; refine ja_l 7 (lo_l (ly_ldq one82 rfl rfl) (hd 39 rfl)) rfl (by kernel_rfl) (by kernel_rfl) (by kernel_rfl) (fun _ _ _ _ h => h) ?_; refine ja_l 8 (lo_l (ly_gt rfl rfl) (hd 40 rfl)) rfl (by kernel_rfl) (by kernel_rfl) (by kernel_rfl) (fun _ _ _ _ h => h) ?_; refine ja_nil (by kernel_rfl) ?_
          refine jc_if rfl (fun h5 => ?_) (fun h5 => ?_)
          · refine jc_seq ?_; refine jc_region ?_; refine jo_l (ly_as rfl) (hd 4 rfl) ?_; refine jo_nil ?_; refine jc_ret ?_
            refine ⟨_, _, (.cons rfl .nil), .i, ?_⟩
            rw [← hcm, if_neg (by omega), if_neg (by omega), ← hc2, cmpN_gt (by omega) (by assumption)]
          · refine jc_skip ?_; refine jc_region ?_; refine jo_l (ly_mv rfl) (hd 21 rfl) ?_; refine jo_l (ly_sub rfl rfl (wrap_i64 (by omega) (by omega))) (hd 22 rfl) ?_; refine jo_l (ly_as rfl) (hd 5 rfl) ?_; refine jo_nil ?_
            refine ⟨k - 1, ?_, ?_, rfl, cov_n 47 rfl rfl ?_⟩
            · exact ⟨by omega, by rw [← hc2]; exact cmpN_eq (by omega) (by assumption) (by assumption)⟩
            · omega
            · exact (.cons (by show some (V.i .i64 _) = some (V.i .i64 _); congr 2; omega) (.u (.u (.u (.u (.u (.u (.u (.u (.u (.u (.u (.u (.u (.u (.u (.u (.u (.u (.u (.u (.u (.u (.u .nil))))))))))))))))))))))))
      · refine jc_exit ?_; refine jc_seq ?_; refine jc_region ?_; refine jo_l (ly_as rfl) (hd 4 rfl) ?_; refine jo_nil ?_; refine jc_ret ?_
        refine ⟨_, _, (.cons rfl .nil), .i, ?_⟩
        rw [← hcm, if_neg (by omega), if_neg (by omega), ← hc2]
        obtain rfl : k = 0 := by omega
        rfl

set_option maxHeartbeats 4000000 in
theorem rAdd_s (x y : Nat) (hx : (digs B32 x).length < 549755813888) (hy : (digs B32 y).length < 549755813888) : Spec Tryd.prog 84 [.n false .u64 (digs B32 x), .n false .u64 (digs B32 y)] (fun o => o = .ret (.n false .u64 (digs B32 (x + y)))) := by
  refine spec_of' [(0, .n false .u64 (digs B32 x)), (1, .n false .u64 (digs B32 y))] rfl Tryd.func84 rfl (Nat.le_of_ble_eq_true rfl) fun Γ hN hds hL hR => ?_
  have hd : ∀ d, Nat.blt d 44 = true → d < Γ.N := fun d h => by rw [hN]; exact Nat.le_of_ble_eq_true h
  refine jc_seq ?_; refine jc_region ?_; refine jo_l (ly_as rfl) (hd 4 rfl) ?_; refine jo_nil ?_; refine jc_seq ?_; refine jc_region ?_; refine jo_l (ly_mv rfl) (hd 10 rfl) ?_; refine jo_l (ly_lenn sl33 rfl) (hd 11 rfl) ?_; refine jo_l (ly_as rfl) (hd 5 rfl) ?_; refine jo_nil ?_
  refine jc_meetH (G := Nat) (fun n => n = max (digs B32 x).length (digs B32 y).length) (fun n => [(5, .i .i64 (n : Int)), (12, .u), (13, .u), (14, .u), (15, .u), (16, .u), (17, .u)]) ?_ ?_
  · refine jc_seq ?_; refine jc_region ?_; refine jo_l (ly_mv rfl) (hd 12 rfl) ?_; refine jo_l (ly_lenn sl33 rfl) (hd 13 rfl) ?_; refine jo_l (ly_mv rfl) (hd 14 rfl) ?_; refine jo_l (ly_gt rfl rfl) (hd 15 rfl) ?_; refine jo_nil ?_
    refine jc_if rfl (fun h1 => ?_) (fun h1 => ?_)
    · refine jc_region ?_; refine jo_l (ly_mv rfl) (hd 16 rfl) ?_; refine jo_l (ly_lenn sl33 rfl) (hd 17 rfl) ?_; refine jo_l (ly_as rfl) (hd 5 rfl) ?_; refine jo_nil ?_
      refine ⟨(digs B32 y).length, ?_, rfl, cov_n 7 rfl rfl ?_⟩
      · omega
      · exact (.cons rfl (.u (.u (.u (.u (.u (.u .nil)))))))
    · refine jc_skip ?_
      refine ⟨(digs B32 x).length, ?_, rfl, cov_n 4 rfl rfl ?_⟩
      · omega
      · exact (.cons rfl (.u (.u (.u (.u (.u (.u .nil)))))))
  · rintro n hn; refine jc_seq ?_; refine jc_region ?_; refine jo_l (ly_mv rfl) (hd 18 rfl) ?_; refine jo_l (ly_add rfl rfl (r := ((n + 1 : Nat) : Int)) (by rw [wrap_i64 (by omega) (by omega)]; omega)) (hd 19 rfl) ?_; refine jo_h (hy_mk (m := n + 1) el33 rfl rfl rfl (by show 8 * (n + 1) ≤ _; omega) (by unfold maxLen; omega) rfl) (hd 20 rfl) ?_; refine jo_l (ly_as rfl) (hd 6 rfl) ?_; refine jo_nil ?_; refine jc_seq ?_; refine jc_H (H' := [⟨76, 1, 0, true, ints .u64 (fillI (dvl (x + y) 0) (n + 1))⟩]) (by rw [← dvl_start]; rfl) ?_; refine jc_region ?_; refine jo_l (ly_as rfl) (hd 7 rfl) ?_; refine jo_nil ?_; refine jc_seq ?_; refine jc_seq ?_; refine jc_region ?_; refine jo_l (ly_as rfl) (hd 8 rfl) ?_; refine jo_nil ?_; refine jc_block ?_
    refine jc_loopF (G := Nat) (fun i => i ≤ n + 1) (fun i => [(7, .i .u64 (cry x y i : Int)), (8, .i .i64 (i : Int)), (9, .u), (21, .u), (22, .u), (23, .u), (24, .u), (25, .u), (26, .u), (27, .u), (28, .u), (29, .u), (30, .u), (31, .u), (32, .u), (33, .u), (34, .u), (35, .u), (36, .u), (37, .u), (38, .u), (39, .u), (40, .u), (41, .u)]) (fun i => [⟨76, 1, 0, true, ints .u64 (fillI (dvl (x + y) i) (n + 1))⟩]) (fun i => n + 1 - i) 0 ?_ ?_ rfl ?_
    · exact Nat.zero_le _
    · exact (.cons (by show some (V.i .u64 _) = some (V.i .u64 _); rw [cry_0]; rfl) (.cons rfl (.u (.u (.u (.u (.u (.u (.u (.u (.u (.u (.u (.u (.u (.u (.u (.u (.u (.u (.u (.u (.u (.u .nil))))))))))))))))))))))))
    · rintro i hc1
      have hfl := fill_len (z := x + y) hc1
      have hcl := cry_le x y i
      have had := add_digit x y i
      obtain ⟨dx, hdx⟩ : ∃ q, x / B32 ^ i % B32 = q := ⟨_, rfl⟩
      obtain ⟨dy, hdy⟩ : ∃ q, y / B32 ^ i % B32 = q := ⟨_, rfl⟩
      have hb1 : x / B32 ^ i % B32 < 4294967296 := Nat.mod_lt _ (by decide)
      have hb2 : y / B32 ^ i % B32 < 4294967296 := Nat.mod_lt _ (by decide)
      rw [hdx] at hb1
      rw [hdy] at hb2
      rw [hdx, hdy] at had
      have hv1 : (dx + dy + cry x y i) % 4294967296 = (x + y) / B32 ^ i % B32 := had.1
      have hv2 : (dx + dy + cry x y i) / 4294967296 = cry x y (i + 1) := had.2
      refine jc_seq ?_; refine jc_seq ?_; refine jc_region ?_; refine jo_l (ly_mv rfl) (hd 21 rfl) ?_; refine jo_l (ly_mv rfl) (hd 22 rfl) ?_; refine jo_l (ly_le rfl rfl) (hd 23 rfl) ?_; refine jo_nil ?_
      refine jc_if rfl (fun h2 => ?_) (fun h2 => ?_)
      · refine jc_skip ?_; refine jc_seq ?_; refine jc_block ?_; refine jc_seq ?_; refine jc_region ?_; refine jo_l (ly_mv rfl) (hd 26 rfl) ?_; refine jo_l (ly_mv rfl) (hd 27 rfl) ?_
        refine jo_call Tryd.f81 (at_s x i dx (by omega) hdx) rfl Tryd.func81 rfl rfl (ovL_cons rfl (ovL_cons rfl ovL_nil)) (.cons .n (.cons .i .nil)) (hd 28 rfl) ?_ (fun ch hp => by simp at hp)
        rintro y hy; injection hy with hy; subst hy; refine jo_l (ly_mv rfl) (hd 29 rfl) ?_; refine jo_l (ly_mv rfl) (hd 30 rfl) ?_
        refine jo_call Tryd.f81 (at_s y i dy (by omega) hdy) rfl Tryd.func81 rfl rfl (ovL_cons rfl (ovL_cons rfl ovL_nil)) (.cons .n (.cons .i .nil)) (hd 31 rfl) ?_ (fun ch hp => by simp at hp)
        rintro y hy; injection hy with hy; subst hy; refine jo_l (ly_add rfl rfl (r := ((dx + dy : Nat) : Int)) (by rw [wrap_u64 (by omega) (by omega)]; omega)) (hd 32 rfl) ?_; refine jo_l (ly_mv rfl) (hd 33 rfl) ?_; refine jo_l (ly_add rfl rfl (r := ((dx + dy + cry x y i : Nat) : Int)) (by rw [wrap_u64 (by omega) (by omega)]; omega)) (hd 34 rfl) ?_; refine jo_l (ly_as rfl) (hd 9 rfl) ?_; refine jo_nil ?_; refine jc_seq ?_; refine jc_region ?_; refine jo_l (ly_mv rfl) (hd 35 rfl) ?_; refine jo_l (ly_mv rfl) (hd 36 rfl) ?_; refine jo_l (ly_mv rfl) (hd 37 rfl) ?_; refine jo_l (ly_is (ly_rem rfl rfl (by decide) rfl) (show V.i .u64 (((dx + dy + cry x y i : Nat) : Int).tmod 4294967296) = V.i .u64 (dgt (x + y) i) by rw [show (((dx + dy + cry x y i : Nat) : Int).tmod 4294967296) = (((dx + dy + cry x y i) % 4294967296 : Nat) : Int) from rfl, hv1]; rfl)) (hd 38 rfl) ?_; refine jo_l (ly_ia (i := i) sl33 rfl rfl rfl (by first | rfl | omega) (by first | omega | (dsimp only; omega)) rfl) (hd 39 rfl) ?_; refine jo_st (sy_storei rfl rfl rfl one82 (by first | omega | (dsimp only; omega))) ?_; refine jo_nil ?_; refine jc_region ?_; refine jo_l (ly_mv rfl) (hd 40 rfl) ?_; refine jo_l (ly_quo rfl rfl (by decide) (r := ((cry x y (i + 1) : Nat) : Int)) (by rw [show (((dx + dy + cry x y i : Nat) : Int).tdiv 4294967296) = (((dx + dy + cry x y i) / 4294967296 : Nat) : Int) from rfl, hv2]; have := cry_le x y (i + 1); rw [wrap_u64 (by omega) (by omega)])) (hd 41 rfl) ?_; refine jo_l (ly_as rfl) (hd 7 rfl) ?_; refine jo_nil ?_; refine jc_region ?_; refine jo_l (ly_mv rfl) (hd 24 rfl) ?_; refine jo_l (ly_add rfl rfl (wrap_i64 (by first | omega | (dsimp only; omega)) (by first | omega | (dsimp only; omega)))) (hd 25 rfl) ?_; refine jo_l (ly_as rfl) (hd 8 rfl) ?_; refine jo_nil ?_
        refine ⟨i + 1, ?_, ?_, (by show [(⟨76, 1, 0, true, ints .u64 _⟩ : Ob)] = [⟨76, 1, 0, true, ints .u64 _⟩]; rw [fill_dvl (by omega)]), cov_n 48 rfl rfl ?_⟩
        · omega
        · omega
        · exact (.cons rfl (.cons rfl (.u (.u (.u (.u (.u (.u (.u (.u (.u (.u (.u (.u (.u (.u (.u (.u (.u (.u (.u (.u (.u (.u .nil))))))))))))))))))))))))
      · refine jc_exit ?_; refine jc_seq ?_
        obtain rfl : i = n + 1 := by omega
        refine jc_frz (k := .u64) (l' := dvl (x + y) (n + 1)) 6 rfl rfl (by rw [fill_all, dvl_len]; omega) (by rw [fill_all, List.drop_zero, List.take_of_length_le (by rw [dvl_len]; omega)]) hL ?_; refine jc_region ?_; refine jo_l (ly_mv rfl) (hd 42 rfl) ?_
        refine jo_call Tryd.f82 (rnorm_s (dvl (x + y) (n + 1)) (by rw [dvl_len]; omega)) rfl Tryd.func82 rfl rfl (ovL_cons rfl ovL_nil) (.cons .n .nil) (hd 43 rfl) ?_ (fun ch hp => by simp at hp)
        rintro y hy; injection hy with hy; subst hy; refine jo_l (ly_as rfl) (hd 4 rfl) ?_; refine jo_nil ?_; refine jc_ret ?_
        refine ⟨_, _, (.cons rfl .nil), .n, ?_⟩
        rw [trm_dvl (sum_lt (by omega) (by omega))]

set_option maxHeartbeats 4000000 in
theorem rSub_s (x y : Nat) (hle : y ≤ x) (hx : (digs B32 x).length < 1099511627776) (hy : (digs B32 y).length < 1099511627776) : Spec Tryd.prog 46 [.n false .u64 (digs B32 x), .n false .u64 (digs B32 y)] (fun o => o = .ret (.n false .u64 (digs B32 (x - y)))) := by
  refine spec_of' [(0, .n false .u64 (digs B32 x)), (1, .n false .u64 (digs B32 y))] rfl Tryd.func46 rfl (Nat.le_of_ble_eq_true rfl) fun Γ hN hds hL hR => ?_
  have hd : ∀ d, Nat.blt d 39 = true → d < Γ.N := fun d h => by rw [hN]; exact Nat.le_of_ble_eq_true h
  refine jc_seq ?_; refine jc_region ?_; refine jo_l (ly_as rfl) (hd 4 rfl) ?_; refine jo_nil ?_; refine jc_seq ?_; refine jc_region ?_; refine jo_l (ly_mv rfl) (hd 9 rfl) ?_; refine jo_l (ly_lenn sl33 rfl) (hd 10 rfl) ?_; refine jo_h (hy_mk (m := (digs B32 x).length) el33 rfl rfl rfl (by show 8 * (digs B32 x).length ≤ _; omega) (by unfold maxLen; omega) rfl) (hd 11 rfl) ?_; refine jo_l (ly_as rfl) (hd 5 rfl) ?_; refine jo_nil ?_; refine jc_seq ?_; refine jc_H (H' := [⟨76, 1, 0, true, ints .u64 (fillI (dvl (x - y) 0) (digs B32 x).length)⟩]) (by rw [← dvl_start]; rfl) ?_; refine jc_region ?_; refine jo_l (ly_as rfl) (hd 6 rfl) ?_; refine jo_nil ?_; refine jc_seq ?_; refine jc_seq ?_; refine jc_region ?_; refine jo_l (ly_mv rfl) (hd 12 rfl) ?_; refine jo_l (ly_lenn sl33 rfl) (hd 13 rfl) ?_; refine jo_l (ly_mv rfl) (hd 14 rfl) ?_; refine jo_nil ?_; refine jc_block ?_
  refine jc_loopF (G := Nat) (fun i => i ≤ (digs B32 x).length) (fun i => [(6, .i .u64 (brw x y i : Int)), (14, .i .i64 (i : Int)), (7, .u), (8, .u), (15, .u), (16, .u), (17, .u), (18, .u), (19, .u), (20, .u), (21, .u), (22, .u), (23, .u), (24, .u), (25, .u), (26, .u), (27, .u), (28, .u), (29, .u), (30, .u), (31, .u), (32, .u), (33, .u), (34, .u), (35, .u), (36, .u)]) (fun i => [⟨76, 1, 0, true, ints .u64 (fillI (dvl (x - y) i) ((digs B32 x).length))⟩]) (fun i => (digs B32 x).length - i) 0 ?_ ?_ rfl ?_
  · exact Nat.zero_le _
  · exact (.cons (by show some (V.i .u64 _) = some (V.i .u64 _); rw [brw_0]; rfl) (.cons rfl (.u (.u (.u (.u (.u (.u (.u (.u (.u (.u (.u (.u (.u (.u (.u (.u (.u (.u (.u (.u (.u (.u (.u (.u .nil))))))))))))))))))))))))))
  · rintro i hc1
    have hfl := fill_len (z := x - y) hc1
    have hcl := brw_le x y i
    have had := sub_digit hle i
    have hvx := digs_at (b := B32) (by decide) i x
    obtain ⟨dx, hdx⟩ : ∃ q, x / B32 ^ i % B32 = q := ⟨_, rfl⟩
    obtain ⟨dy, hdy⟩ : ∃ q, y / B32 ^ i % B32 = q := ⟨_, rfl⟩
    have hb1 : x / B32 ^ i % B32 < 4294967296 := Nat.mod_lt _ (by decide)
    have hb2 : y / B32 ^ i % B32 < 4294967296 := Nat.mod_lt _ (by decide)
    rw [hdx] at hb1
    rw [hdy] at hb2
    rw [hdx, hdy] at had
    rw [hdx] at hvx
    have hv1 : (dx + 4294967296 - dy - brw x y i) % 4294967296 = (x - y) / B32 ^ i % B32 := had.1
    have hv2 : 1 - (dx + 4294967296 - dy - brw x y i) / 4294967296 = brw x y (i + 1) := had.2
    refine jc_seq ?_; refine jc_region ?_; refine jo_l (ly_lt rfl rfl) (hd 15 rfl) ?_; refine jo_nil ?_; refine jc_seq ?_
    refine jc_if rfl (fun h1 => ?_) (fun h1 => ?_)
    · refine jc_skip ?_; refine jc_seq ?_; refine jc_block ?_; refine jc_seq ?_; refine jc_region ?_; refine jo_l (ly_mv rfl) (hd 16 rfl) ?_; refine jo_l (ly_as rfl) (hd 7 rfl) ?_; refine jo_nil ?_; refine jc_seq ?_; refine jc_draw (n := 12) _ rfl mixed ?_; refine ja_l2 0 [2, 3, 4, 8, 10, 11] (lo_l (ly_mv rfl) (hd 17 rfl)) rfl (by kernel_rfl) (by kernel_rfl) (by kernel_rfl) (by kernel_rfl) (fun _ _ _ _ h => h) ?_; refine ja_l2 1 [2, 3, 4, 8, 10, 11] (lo_l (ly_mv rfl) (hd 18 rfl)) rfl (by kernel_rfl) (by kernel_rfl) (by kernel_rfl) (by kernel_rfl) (fun _ _ _ _ h => h) ?_; refine ja_l2 2 [3, 4, 8, 10, 11] (lo_l (ly_ian (i := i) sl33 rfl rfl (by first | rfl | omega) (by omega)) (hd 19 rfl)) rfl (by kernel_rfl) (by kernel_rfl) (by kernel_rfl) (by kernel_rfl) (fun _ _ _ _ h => h) ?_; refine ja_l2 3 [4, 8, 10, 11] (lo_l (ly_is (ly_ldq one82 rfl rfl) (by exact congrArg (V.i .u64) hvx)) (hd 20 rfl)) rfl (by kernel_rfl) (by kernel_rfl) (by kernel_rfl) (by kernel_rfl) (fun _ _ _ _ h => h) ?_; refine ja_l2 4 [8, 10, 11] (lo_l (ly_add rfl rfl (r := ((dx + 4294967296 : Nat) : Int)) (by rw [wrap_u64 (by omega) (by omega)]; omega)) (hd 21 rfl)) rfl (by kernel_rfl) (by kernel_rfl) (by kernel_rfl) (by kernel_rfl) (fun _ _ _ _ h => h) ?_; refine ja_l2 5 [7, 8, 10, 11] (lo_l (ly_mv rfl) (hd 22 rfl)) rfl (by kernel_rfl) (by kernel_rfl) (by kernel_rfl) (by kernel_rfl) (fun _ _ _ _ h => h) ?_; refine ja_l2 6 [7, 8, 10, 11] (lo_l (ly_mv rfl) (hd 23 rfl)) rfl (by kernel_rfl) (by kernel_rfl) (by kernel_rfl) (by kernel_rfl) (fun _ _ _ _ h => h) ?_; refine ja_l 9 (lo_l (ly_mv rfl) (hd 26 rfl)) rfl (by kernel_rfl) (by kernel_rfl) (by kernel_rfl) (fun _ _ _ _ h => h) ?_
      refine ja_1 7 ?_ rfl (by kernel_rfl)
      refine js_call Tryd.f81 (at_s y i dy hy hdy) rfl Tryd.func81 rfl rfl (ovL_cons rfl (ovL_cons rfl ovL_nil)) (.cons .n (.cons .i .nil)) (hd 24 rfl) ?_ (fun ch hp => by simp at hp)
      rintro y hy; injection hy with hy; subst hy; refine ja_l 8 (lo_l (ly_sub rfl rfl (r := ((dx + 4294967296 - dy : Nat) : Int)) (by rw [wrap_u64 (by omega) (by omega)]; omega)) (hd 25 rfl)) rfl (by kernel_rfl) (by kernel_rfl) (by kernel_rfl) (fun _ _ _ _ h => h) ?_; refine ja_l 10 (lo_l (ly_sub rfl rfl (r := ((dx + 4294967296 - dy - brw x y i : Nat) : Int)) (by rw [wrap_u64 (by omega) (by omega)]; omega)) (hd 27 rfl)) rfl (by kernel_rfl) (by kernel_rfl) (by kernel_rfl) (fun _ _ _ _ h => h) ?_; refine ja_l 11 (lo_l (ly_as rfl) (hd 8 rfl)) rfl (by kernel_rfl) (by kernel_rfl) (by kernel_rfl) (fun _ _ _ _ h => h) ?_; refine ja_nil (by kernel_rfl) ?_; refine jc_seq ?_; refine jc_region ?_; refine jo_l (ly_mv rfl) (hd 28 rfl) ?_; refine jo_l (ly_mv rfl) (hd 29 rfl) ?_; refine jo_l (ly_mv rfl) (hd 30 rfl) ?_; refine jo_l (ly_is (ly_rem rfl rfl (by decide) rfl) (show V.i .u64 (((dx + 4294967296 - dy - brw x y i : Nat) : Int).tmod 4294967296) = V.i .u64 (dgt (x - y) i) by rw [show (((dx + 4294967296 - dy - brw x y i : Nat) : Int).tmod 4294967296) = (((dx + 4294967296 - dy - brw x y i) % 4294967296 : Nat) : Int) from rfl, hv1]; rfl)) (hd 31 rfl) ?_; refine jo_l (ly_ia (i := i) sl33 rfl rfl rfl (by first | rfl | omega) (by first | omega | (dsimp only; omega)) rfl) (hd 32 rfl) ?_; refine jo_st (sy_storei rfl rfl rfl one82 (by first | omega | (dsimp only; omega))) ?_; refine jo_nil ?_; refine jc_region ?_; refine jo_l (ly_mv rfl) (hd 33 rfl) ?_; refine jo_l (ly_quo rfl rfl (by decide) (r := (((dx + 4294967296 - dy - brw x y i) / 4294967296 : Nat) : Int)) (by rw [show (((dx + 4294967296 - dy - brw x y i : Nat) : Int).tdiv 4294967296) = (((dx + 4294967296 - dy - brw x y i) / 4294967296 : Nat) : Int) from rfl, wrap_u64 (by omega) (by omega)])) (hd 34 rfl) ?_; refine jo_l (ly_sub rfl rfl (r := ((brw x y (i + 1) : Nat) : Int)) (by rw [← hv2]; rw [wrap_u64 (by omega) (by omega)]; omega)) (hd 35 rfl) ?_; refine jo_l (ly_as rfl) (hd 6 rfl) ?_; refine jo_nil ?_; refine jc_region ?_; refine jo_l (ly_add rfl rfl (wrap_i64 (by first | omega | (dsimp only; omega)) (by first | omega | (dsimp only; omega)))) (hd 36 rfl) ?_; refine jo_l (ly_mv rfl) (hd 14 rfl) ?_; refine jo_nil ?_
      refine ⟨i + 1, ?_, ?_, (by show [(⟨76, 1, 0, true, ints .u64 _⟩ : Ob)] = [⟨76, 1, 0, true, ints .u64 _⟩]; rw [fill_dvl (by omega)]), cov_n 52 rfl rfl ?_⟩
      · omega
      · omega
      · exact (.cons rfl (.cons rfl (.u (.u (.u (.u (.u (.u (.u (.u (.u (.u (.u (.u (.u (.u (.u (.u (.u (.u (.u (.u (.u (.u (.u (.u .nil))))))))))))))))))))))))))
    · refine jc_exit ?_; refine jc_seq ?_
      obtain rfl : i = (digs B32 x).length := by omega
      refine jc_frz (k := .u64) (l' := dvl (x - y) (digs B32 x).length) 5 rfl rfl (by rw [fill_all, dvl_len]; omega) (by rw [fill_all, List.drop_zero, List.take_of_length_le (by rw [dvl_len]; omega)]) hL ?_; refine jc_region ?_; refine jo_l (ly_mv rfl) (hd 37 rfl) ?_
      refine jo_call Tryd.f82 (rnorm_s (dvl (x - y) (digs B32 x).length) (by rw [dvl_len]; omega)) rfl Tryd.func82 rfl rfl (ovL_cons rfl ovL_nil) (.cons .n .nil) (hd 38 rfl) ?_ (fun ch hp => by simp at hp)
      rintro y hy; injection hy with hy; subst hy; refine jo_l (ly_as rfl) (hd 4 rfl) ?_; refine jo_nil ?_; refine jc_ret ?_
      refine ⟨_, _, (.cons rfl .nil), .n, ?_⟩
      rw [trm_dvl dif_lt]

end Go.Proofs.YtaogaegchagbfaaDoor.Vc

/- Contracts of the references' numbers with a sign; alike. -/
namespace Go.Proofs.YtaogaegchagbfaaDoor.Vc
open Go Go.RowKit
theorem make1_z (s : Bool) (n : Nat) : Spec Tryd.prog 52 [.b s, .n false .u64 (digs B32 n)] (fun o => o = .ret (.a [.b (decide ((zs s n) < 0)), .n false .u64 (dg (zs s n))])) := by
  have h := make1_s s (digs B32 n)
  rw [mk_zs] at h
  rw [dg_zs]
  exact h
theorem make1_o (s : Bool) (l : List Int) (hu : u64s l) : Spec Tryd.prog 52 [.b s, .n false .u64 (trm (dig l))] (fun o => o = .ret (.a [.b (decide ((sv s l) < 0)), .n false .u64 (dg (sv s l))])) := by
  have h := make1_s s (trm (dig l))
  rw [zv_of hu, trm_dig (s := s) hu rfl] at h
  rw [trm_dig (s := s) hu rfl]
  exact h

set_option maxHeartbeats 4000000 in
theorem ZOf_s (s : Bool) (l : List Int) (hl : l.length < 4294967296) (hu : u64s l) : Spec Tryd.prog 35 [.b s, .n false .u64 l] (fun o => o = .ret (.a [.b (decide ((sv s l) < 0)), .n false .u64 (dg (sv s l))])) := by
  refine spec_of' [(0, .b s), (1, .n false .u64 l)] rfl Tryd.func35 rfl (Nat.le_of_ble_eq_true rfl) fun Γ hN hds hL hR => ?_
  have hd : ∀ d, Nat.blt d 9 = true → d < Γ.N := fun d h => by rw [hN]; exact Nat.le_of_ble_eq_true h
  refine jc_seq ?_; refine jc_region ?_; refine jo_h (hy_alloc (id := 0) zero35 (by decide) rfl (by decide) rfl) (hd 4 rfl) ?_; refine jo_nil ?_; refine jc_seq ?_; refine jc_region ?_; refine jo_l (ly_mv rfl) (hd 5 rfl) ?_; refine jo_l (ly_mv rfl) (hd 6 rfl) ?_
  refine jo_call Tryd.f56 (rOf_s l hl hu) rfl Tryd.func56 rfl rfl (ovL_cons rfl ovL_nil) (.cons .n .nil) (hd 7 rfl) ?_ (fun ch hp => by simp at hp)
  rintro y hy; injection hy with hy; subst hy
  refine jo_call Tryd.f52 (make1_o s l hu) rfl Tryd.func52 rfl rfl (ovL_cons rfl (ovL_cons rfl ovL_nil)) (.cons .b (.cons .n .nil)) (hd 8 rfl) ?_ (fun ch hp => by simp at hp)
  rintro y hy; injection hy with hy; subst hy; refine jo_st (sy_store rfl rfl rfl siz35 rfl rfl (Nat.le_of_ble_eq_true rfl)) ?_; refine jo_nil ?_; refine jc_ret ?_
  refine ⟨_, _, (.cons (ResV.cell agg35 rfl rfl rfl rfl) .nil), (.a1 .b (.a1 .n .a0)), ?_⟩
  exact rfl

set_option maxHeartbeats 4000000 in
theorem of_s (s : Bool) (l : List Int) (hl : l.length < 4294967296) (hu : u64s l) : Spec Tryd.prog 7 [.a [.b s, .n false .u64 l]] (fun o => o = .ret (.a [.b (decide ((sv s l) < 0)), .n false .u64 (dg (sv s l))])) := by
  refine spec_of' [(0, .a [.b s, .n false .u64 l])] rfl Tryd.func7 rfl (Nat.le_of_ble_eq_true rfl) fun Γ hN hds hL hR => ?_
  have hd : ∀ d, Nat.blt d 8 = true → d < Γ.N := fun d h => by rw [hN]; exact Nat.le_of_ble_eq_true h
  refine jc_seq ?_; refine jc_region ?_; refine jo_h (hy_box (id := 0) (n := 2) rfl rfl rfl (by decide) rfl) (hd 1 rfl) ?_; refine jo_h (hy_alloc (id := 1) zero35 (by decide) rfl (by decide) rfl) (hd 2 rfl) ?_; refine jo_nil ?_; refine jc_seq ?_; refine jc_region ?_; refine jo_l (ly_fa fld27_0 rfl rfl rfl) (hd 3 rfl) ?_; refine jo_l (ly_ld one4 rfl rfl rfl) (hd 4 rfl) ?_; refine jo_l (ly_fa fld27_1 rfl rfl rfl) (hd 5 rfl) ?_; refine jo_l (ly_ld one25 rfl rfl rfl) (hd 6 rfl) ?_
  refine jo_call Tryd.f35 (ZOf_s s l hl hu) rfl Tryd.func35 rfl rfl (ovL_cons rfl (ovL_cons rfl ovL_nil)) (.cons .b (.cons .n .nil)) (hd 7 rfl) ?_ (fun ch hp => by simp at hp)
  rintro y hy; injection hy with hy; subst hy; refine jo_st (sy_store rfl rfl rfl siz35 rfl rfl (Nat.le_of_ble_eq_true rfl)) ?_; refine jo_nil ?_; refine jc_ret ?_
  refine ⟨_, _, (.cons (ResV.cell agg35 rfl rfl rfl rfl) .nil), (.a1 .b (.a1 .n .a0)), ?_⟩
  exact rfl

set_option maxHeartbeats 4000000 in
theorem ZNeg_s (v : Int) : Spec Tryd.prog 55 [.a [.b (decide (v < 0)), .n false .u64 (dg v)]] (fun o => o = .ret (.a [.b (decide ((-v) < 0)), .n false .u64 (dg (-v))])) := by
  refine spec_of' [(0, .a [.b (decide (v < 0)), .n false .u64 (dg v)])] rfl Tryd.func55 rfl (Nat.le_of_ble_eq_true rfl) fun Γ hN hds hL hR => ?_
  have hd : ∀ d, Nat.blt d 9 = true → d < Γ.N := fun d h => by rw [hN]; exact Nat.le_of_ble_eq_true h
  refine jc_seq ?_; refine jc_region ?_; refine jo_h (hy_box (id := 0) (n := 2) rfl rfl rfl (by decide) rfl) (hd 1 rfl) ?_; refine jo_h (hy_alloc (id := 1) zero35 (by decide) rfl (by decide) rfl) (hd 2 rfl) ?_; refine jo_nil ?_; refine jc_seq ?_; refine jc_region ?_; refine jo_l (ly_fa fld35_0 rfl rfl rfl) (hd 3 rfl) ?_; refine jo_l (ly_ld one4 rfl rfl rfl) (hd 4 rfl) ?_; refine jo_l (ly_not rfl) (hd 5 rfl) ?_; refine jo_l (ly_fa fld35_1 rfl rfl rfl) (hd 6 rfl) ?_; refine jo_l (ly_ld one33 rfl rfl rfl) (hd 7 rfl) ?_
  refine jo_call Tryd.f52 (make1_z (!decide (v < 0)) v.natAbs) rfl Tryd.func52 rfl rfl (ovL_cons rfl (ovL_cons rfl ovL_nil)) (.cons .b (.cons .n .nil)) (hd 8 rfl) ?_ (fun ch hp => by simp at hp)
  rintro y hy; injection hy with hy; subst hy; refine jo_st (sy_store rfl rfl rfl siz35 rfl rfl (Nat.le_of_ble_eq_true rfl)) ?_; refine jo_nil ?_; refine jc_ret ?_
  refine ⟨_, _, (.cons (ResV.cell agg35 rfl rfl rfl rfl) .nil), (.a1 .b (.a1 .n .a0)), ?_⟩
  rw [zneg]

set_option maxHeartbeats 4000000 in
theorem ZAdd_s (x y : Int) (hx : (dg x).length < 549755813888) (hy : (dg y).length < 549755813888) : Spec Tryd.prog 54 [.a [.b (decide (x < 0)), .n false .u64 (dg x)], .a [.b (decide (y < 0)), .n false .u64 (dg y)]] (fun o => o = .ret (.a [.b (decide ((x + y) < 0)), .n false .u64 (dg (x + y))])) := by
  refine spec_of' [(0, .a [.b (decide (x < 0)), .n false .u64 (dg x)]), (1, .a [.b (decide (y < 0)), .n false .u64 (dg y)])] rfl Tryd.func54 rfl (Nat.le_of_ble_eq_true rfl) fun Γ hN hds hL hR => ?_
  have hd : ∀ d, Nat.blt d 40 = true → d < Γ.N := fun d h => by rw [hN]; exact Nat.le_of_ble_eq_true h
  refine jc_seq ?_; refine jc_region ?_; refine jo_h (hy_box (id := 0) (n := 2) rfl rfl rfl (by decide) rfl) (hd 2 rfl) ?_; refine jo_h (hy_box (id := 1) (n := 2) rfl rfl rfl (by decide) rfl) (hd 3 rfl) ?_; refine jo_h (hy_alloc (id := 2) zero35 (by decide) rfl (by decide) rfl) (hd 4 rfl) ?_; refine jo_nil ?_; refine jc_seq ?_; refine jc_seq ?_; refine jc_region ?_; refine jo_l (ly_fa fld35_0 rfl rfl rfl) (hd 5 rfl) ?_; refine jo_l (ly_ld one4 rfl rfl rfl) (hd 6 rfl) ?_; refine jo_l (ly_fa fld35_0 rfl rfl rfl) (hd 7 rfl) ?_; refine jo_l (ly_ld one4 rfl rfl rfl) (hd 8 rfl) ?_; refine jo_l (ly_eqb und4 rfl rfl) (hd 9 rfl) ?_; refine jo_nil ?_
  refine jc_cond rfl (fun h1 => ?_) (fun h1 => ?_)
  · refine jc_seq ?_; refine jc_draw (n := 9) _ rfl mixed ?_; refine ja_l2 0 [1, 7, 8] (lo_l (ly_fa fld35_0 rfl rfl rfl) (hd 10 rfl)) rfl (by kernel_rfl) (by kernel_rfl) (by kernel_rfl) (by kernel_rfl) (fun _ _ _ _ h => h) ?_; refine ja_l 1 (lo_l (ly_ld one4 rfl rfl rfl) (hd 11 rfl)) rfl (by kernel_rfl) (by kernel_rfl) (by kernel_rfl) (fun _ _ _ _ h => h) ?_; refine ja_l2 2 [3, 6, 7, 8] (lo_l (ly_fa fld35_1 rfl rfl rfl) (hd 12 rfl)) rfl (by kernel_rfl) (by kernel_rfl) (by kernel_rfl) (by kernel_rfl) (fun _ _ _ _ h => h) ?_; refine ja_l2 3 [6, 7, 8] (lo_l (ly_ld one33 rfl rfl rfl) (hd 13 rfl)) rfl (by kernel_rfl) (by kernel_rfl) (by kernel_rfl) (by kernel_rfl) (fun _ _ _ _ h => h) ?_; refine ja_l2 4 [5, 6, 7, 8] (lo_l (ly_fa fld35_1 rfl rfl rfl) (hd 14 rfl)) rfl (by kernel_rfl) (by kernel_rfl) (by kernel_rfl) (by kernel_rfl) (fun _ _ _ _ h => h) ?_; refine ja_l2 5 [6, 7, 8] (lo_l (ly_ld one33 rfl rfl rfl) (hd 15 rfl)) rfl (by kernel_rfl) (by kernel_rfl) (by kernel_rfl) (by kernel_rfl) (fun _ _ _ _ h => h) ?_
    refine ja_1 6 ?_ rfl (by kernel_rfl)
    refine js_call Tryd.f84 (rAdd_s x.natAbs y.natAbs hx hy) rfl Tryd.func84 rfl rfl (ovL_cons rfl (ovL_cons rfl ovL_nil)) (.cons .n (.cons .n .nil)) (hd 16 rfl) ?_ (fun ch hp => by simp at hp)
    rintro y hy; injection hy with hy; subst hy
    refine ja_1 7 ?_ rfl (by kernel_rfl)
    refine js_call Tryd.f52 (make1_z (decide (x < 0)) (x.natAbs + y.natAbs)) rfl Tryd.func52 rfl rfl (ovL_cons rfl (ovL_cons rfl ovL_nil)) (.cons .b (.cons .n .nil)) (hd 17 rfl) ?_ (fun ch hp => by simp at hp)
    rintro y hy; injection hy with hy; subst hy
    refine ja_1 8 ?_ rfl (by kernel_rfl)
    refine js_st (sy_store rfl rfl rfl siz35 rfl rfl (Nat.le_of_ble_eq_true rfl)) rfl ?_; refine ja_nil (by kernel_rfl) ?_; refine jc_ret ?_
    refine ⟨_, _, (.cons (ResV.cell agg35 rfl rfl rfl rfl) .nil), (.a1 .b (.a1 .n .a0)), ?_⟩
    rw [zadd_same (by assumption)]
  · refine jc_skip ?_; refine jc_seq ?_; refine jc_seq ?_; refine jc_region ?_; refine jo_l (ly_fa fld35_1 rfl rfl rfl) (hd 18 rfl) ?_; refine jo_l (ly_ld one33 rfl rfl rfl) (hd 19 rfl) ?_; refine jo_l (ly_fa fld35_1 rfl rfl rfl) (hd 20 rfl) ?_; refine jo_l (ly_ld one33 rfl rfl rfl) (hd 21 rfl) ?_
    refine jo_call Tryd.f85 (rCmp_s x.natAbs y.natAbs (by show (dg x).length < _; omega) (by show (dg y).length < _; omega)) rfl Tryd.func85 rfl rfl (ovL_cons rfl (ovL_cons rfl ovL_nil)) (.cons .n (.cons .n .nil)) (hd 22 rfl) ?_ (fun ch hp => by simp at hp)
    rintro y hy; injection hy with hy; subst hy; refine jo_l (ly_ge rfl rfl) (hd 23 rfl) ?_; refine jo_nil ?_
    refine jc_if rfl (fun h2 => ?_) (fun h2 => ?_)
    · refine jc_seq ?_; refine jc_draw (n := 9) _ rfl mixed ?_; refine ja_l2 0 [1, 7, 8] (lo_l (ly_fa fld35_0 rfl rfl rfl) (hd 24 rfl)) rfl (by kernel_rfl) (by kernel_rfl) (by kernel_rfl) (by kernel_rfl) (fun _ _ _ _ h => h) ?_; refine ja_l 1 (lo_l (ly_ld one4 rfl rfl rfl) (hd 25 rfl)) rfl (by kernel_rfl) (by kernel_rfl) (by kernel_rfl) (fun _ _ _ _ h => h) ?_; refine ja_l2 2 [3, 6, 7, 8] (lo_l (ly_fa fld35_1 rfl rfl rfl) (hd 26 rfl)) rfl (by kernel_rfl) (by kernel_rfl) (by kernel_rfl) (by kernel_rfl) (fun _ _ _ _ h => h) ?_; refine ja_l2 3 [6, 7, 8] (lo_l (ly_ld one33 rfl rfl rfl) (hd 27 rfl)) rfl (by kernel_rfl) (by kernel_rfl) (by kernel_rfl) (by kernel_rfl) (fun _ _ _ _ h => h) ?_; refine ja_l2 4 [5, 6, 7, 8] (lo_l (ly_fa fld35_1 rfl rfl rfl) (hd 28 rfl)) rfl (by kernel_rfl) (by kernel_rfl) (by kernel_rfl) (by kernel_rfl) (fun _ _ _ _ h => h) ?_; refine ja_l2 5 [6, 7, 8] (lo_l (ly_ld one33 rfl rfl rfl) (hd 29 rfl)) rfl (by kernel_rfl) (by kernel_rfl) (by kernel_rfl) (by kernel_rfl) (fun _ _ _ _ h => h) ?_
      refine ja_1 6 ?_ rfl (by kernel_rfl)
      refine js_call Tryd.f46 (rSub_s x.natAbs y.natAbs (cmp_le (by assumption)) (by show (dg x).length < _; omega) (by show (dg y).length < _; omega)) rfl Tryd.func46 rfl rfl (ovL_cons rfl (ovL_cons rfl ovL_nil)) (.cons .n (.cons .n .nil)) (hd 30 rfl) ?_ (fun ch hp => by simp at hp)
      rintro y hy; injection hy with hy; subst hy
      refine ja_1 7 ?_ rfl (by kernel_rfl)
      refine js_call Tryd.f52 (make1_z (decide (x < 0)) (x.natAbs - y.natAbs)) rfl Tryd.func52 rfl rfl (ovL_cons rfl (ovL_cons rfl ovL_nil)) (.cons .b (.cons .n .nil)) (hd 31 rfl) ?_ (fun ch hp => by simp at hp)
      rintro y hy; injection hy with hy; subst hy
      refine ja_1 8 ?_ rfl (by kernel_rfl)
      refine js_st (sy_store rfl rfl rfl siz35 rfl rfl (Nat.le_of_ble_eq_true rfl)) rfl ?_; refine ja_nil (by kernel_rfl) ?_; refine jc_ret ?_
      refine ⟨_, _, (.cons (ResV.cell agg35 rfl rfl rfl rfl) .nil), (.a1 .b (.a1 .n .a0)), ?_⟩
      rw [zadd_ge (by assumption) (by assumption)]
    · refine jc_skip ?_; refine jc_seq ?_; refine jc_draw (n := 9) _ rfl mixed ?_; refine ja_l2 0 [1, 7, 8] (lo_l (ly_fa fld35_0 rfl rfl rfl) (hd 32 rfl)) rfl (by kernel_rfl) (by kernel_rfl) (by kernel_rfl) (by kernel_rfl) (fun _ _ _ _ h => h) ?_; refine ja_l 1 (lo_l (ly_ld one4 rfl rfl rfl) (hd 33 rfl)) rfl (by kernel_rfl) (by kernel_rfl) (by kernel_rfl) (fun _ _ _ _ h => h) ?_; refine ja_l2 2 [3, 6, 7, 8] (lo_l (ly_fa fld35_1 rfl rfl rfl) (hd 34 rfl)) rfl (by kernel_rfl) (by kernel_rfl) (by kernel_rfl) (by kernel_rfl) (fun _ _ _ _ h => h) ?_; refine ja_l2 3 [6, 7, 8] (lo_l (ly_ld one33 rfl rfl rfl) (hd 35 rfl)) rfl (by kernel_rfl) (by kernel_rfl) (by kernel_rfl) (by kernel_rfl) (fun _ _ _ _ h => h) ?_; refine ja_l2 4 [5, 6, 7, 8] (lo_l (ly_fa fld35_1 rfl rfl rfl) (hd 36 rfl)) rfl (by kernel_rfl) (by kernel_rfl) (by kernel_rfl) (by kernel_rfl) (fun _ _ _ _ h => h) ?_; refine ja_l2 5 [6, 7, 8] (lo_l (ly_ld one33 rfl rfl rfl) (hd 37 rfl)) rfl (by kernel_rfl) (by kernel_rfl) (by kernel_rfl) (by kernel_rfl) (fun _ _ _ _ h => h) ?_
      refine ja_1 6 ?_ rfl (by kernel_rfl)
      refine js_call Tryd.f46 (rSub_s y.natAbs x.natAbs (cmp_gt (by assumption)) (by show (dg y).length < _; omega) (by show (dg x).length < _; omega)) rfl Tryd.func46 rfl rfl (ovL_cons rfl (ovL_cons rfl ovL_nil)) (.cons .n (.cons .n .nil)) (hd 38 rfl) ?_ (fun ch hp => by simp at hp)
      rintro y hy; injection hy with hy; subst hy
      refine ja_1 7 ?_ rfl (by kernel_rfl)
      refine js_call Tryd.f52 (make1_z (decide (y < 0)) (y.natAbs - x.natAbs)) rfl Tryd.func52 rfl rfl (ovL_cons rfl (ovL_cons rfl ovL_nil)) (.cons .b (.cons .n .nil)) (hd 39 rfl) ?_ (fun ch hp => by simp at hp)
      rintro y hy; injection hy with hy; subst hy
      refine ja_1 8 ?_ rfl (by kernel_rfl)
      refine js_st (sy_store rfl rfl rfl siz35 rfl rfl (Nat.le_of_ble_eq_true rfl)) rfl ?_; refine ja_nil (by kernel_rfl) ?_; refine jc_ret ?_
      refine ⟨_, _, (.cons (ResV.cell agg35 rfl rfl rfl rfl) .nil), (.a1 .b (.a1 .n .a0)), ?_⟩
      rw [zadd_lt (by assumption) (by assumption)]

set_option maxHeartbeats 4000000 in
theorem ZSub_s (x y : Int) (hx : (dg x).length < 549755813888) (hy : (dg y).length < 549755813888) : Spec Tryd.prog 20 [.a [.b (decide (x < 0)), .n false .u64 (dg x)], .a [.b (decide (y < 0)), .n false .u64 (dg y)]] (fun o => o = .ret (.a [.b (decide ((x - y) < 0)), .n false .u64 (dg (x - y))])) := by
  refine spec_of' [(0, .a [.b (decide (x < 0)), .n false .u64 (dg x)]), (1, .a [.b (decide (y < 0)), .n false .u64 (dg y)])] rfl Tryd.func20 rfl (Nat.le_of_ble_eq_true rfl) fun Γ hN hds hL hR => ?_
  have hd : ∀ d, Nat.blt d 9 = true → d < Γ.N := fun d h => by rw [hN]; exact Nat.le_of_ble_eq_true h
  refine jc_seq ?_; refine jc_region ?_; refine jo_h (hy_box (id := 0) (n := 2) rfl rfl rfl (by decide) rfl) (hd 2 rfl) ?_; refine jo_h (hy_box (id := 1) (n := 2) rfl rfl rfl (by decide) rfl) (hd 3 rfl) ?_; refine jo_h (hy_alloc (id := 2) zero35 (by decide) rfl (by decide) rfl) (hd 4 rfl) ?_; refine jo_nil ?_; refine jc_seq ?_; refine jc_draw (n := 5) _ rfl mixed ?_; refine ja_l 0 (lo_l (ly_lda agg35 rfl rfl rfl rfl) (hd 5 rfl)) rfl (by kernel_rfl) (by kernel_rfl) (by kernel_rfl) (fun _ _ _ _ h => h) ?_; refine ja_l2 1 [2, 3, 4] (lo_l (ly_lda agg35 rfl rfl rfl rfl) (hd 6 rfl)) rfl (by kernel_rfl) (by kernel_rfl) (by kernel_rfl) (by kernel_rfl) (fun _ _ _ _ h => h) ?_
  refine ja_1 2 ?_ rfl (by kernel_rfl)
  refine js_call Tryd.f55 (ZNeg_s y) rfl Tryd.func55 rfl rfl (ovL_cons rfl ovL_nil) (.cons (.a1 .b (.a1 .n .a0)) .nil) (hd 7 rfl) ?_ (fun ch hp => by simp at hp)
  rintro y hy; injection hy with hy; subst hy
  refine ja_1 3 ?_ rfl (by kernel_rfl)
  refine js_call Tryd.f54 (ZAdd_s x (-y) hx (by unfold dg; rw [Int.natAbs_neg]; exact hy)) rfl Tryd.func54 rfl rfl (ovL_cons rfl (ovL_cons rfl ovL_nil)) (.cons (.a1 .b (.a1 .n .a0)) (.cons (.a1 .b (.a1 .n .a0)) .nil)) (hd 8 rfl) ?_ (fun ch hp => by simp at hp)
  rintro y hy; injection hy with hy; subst hy
  refine ja_1 4 ?_ rfl (by kernel_rfl)
  refine js_st (sy_store rfl rfl rfl siz35 rfl rfl (Nat.le_of_ble_eq_true rfl)) rfl ?_; refine ja_nil (by kernel_rfl) ?_; refine jc_ret ?_
  refine ⟨_, _, (.cons (ResV.cell agg35 rfl rfl rfl rfl) .nil), (.a1 .b (.a1 .n .a0)), ?_⟩
  rw [Int.sub_eq_add_neg]

set_option maxHeartbeats 4000000 in
theorem ZSign_s (v : Int) : Spec Tryd.prog 16 [.a [.b (decide (v < 0)), .n false .u64 (dg v)]] (fun o => o = .ret (.i .i64 (sgnI v))) := by
  refine spec_of' [(0, .a [.b (decide (v < 0)), .n false .u64 (dg v)])] rfl Tryd.func16 rfl (Nat.le_of_ble_eq_true rfl) fun Γ hN hds hL hR => ?_
  have hd : ∀ d, Nat.blt d 8 = true → d < Γ.N := fun d h => by rw [hN]; exact Nat.le_of_ble_eq_true h
  have hc := sgn_cases (x := v)
  have hz := dg_lenv (v := v)
  refine jc_seq ?_; refine jc_region ?_; refine jo_h (hy_box (id := 0) (n := 2) rfl rfl rfl (by decide) rfl) (hd 1 rfl) ?_; refine jo_l (ly_as rfl) (hd 2 rfl) ?_; refine jo_nil ?_; refine jc_seq ?_; refine jc_seq ?_; refine jc_region ?_; refine jo_l (ly_fa fld35_0 rfl rfl rfl) (hd 3 rfl) ?_; refine jo_l (ly_ld one4 rfl rfl rfl) (hd 4 rfl) ?_; refine jo_nil ?_
  refine jc_if rfl (fun h1 => ?_) (fun h1 => ?_)
  · refine jc_seq ?_; refine jc_region ?_; refine jo_l (ly_as rfl) (hd 2 rfl) ?_; refine jo_nil ?_; refine jc_ret ?_
    refine ⟨_, _, (.cons rfl .nil), .i, ?_⟩
    rcases hc with ⟨h, e⟩ | ⟨h, e⟩ | ⟨h, e⟩
    · rw [e]
    · omega
    · omega
  · refine jc_skip ?_; refine jc_seq ?_; refine jc_seq ?_; refine jc_region ?_; refine jo_l (ly_fa fld35_1 rfl rfl rfl) (hd 5 rfl) ?_; refine jo_l (ly_ld one33 rfl rfl rfl) (hd 6 rfl) ?_
    refine jo_call Tryd.f48 (Zero_s (dg v)) rfl Tryd.func48 rfl rfl (ovL_cons rfl ovL_nil) (.cons .n .nil) (hd 7 rfl) ?_ (fun ch hp => by simp at hp)
    rintro y hy; injection hy with hy; subst hy; refine jo_nil ?_
    refine jc_if rfl (fun h2 => ?_) (fun h2 => ?_)
    · refine jc_seq ?_; refine jc_region ?_; refine jo_l (ly_as rfl) (hd 2 rfl) ?_; refine jo_nil ?_; refine jc_ret ?_
      refine ⟨_, _, (.cons rfl .nil), .i, ?_⟩
      rcases hc with ⟨h, e⟩ | ⟨h, e⟩ | ⟨h, e⟩
      · omega
      · rw [e]
      · omega
    · refine jc_skip ?_; refine jc_seq ?_; refine jc_region ?_; refine jo_l (ly_as rfl) (hd 2 rfl) ?_; refine jo_nil ?_; refine jc_ret ?_
      refine ⟨_, _, (.cons rfl .nil), .i, ?_⟩
      rcases hc with ⟨h, e⟩ | ⟨h, e⟩ | ⟨h, e⟩
      · omega
      · omega
      · rw [e]

theorem ZIs_v (v : Int) (hl : (dg v).length < 4294967296) : Spec Tryd.prog 50 [.a [.b (decide (v < 0)), .n false .u64 (dg v)], .b (decide (v < 0)), .n false .u64 (lm v)] (fun o => o = .ret (.b true)) := by
  have h := ZIs_s (decide (v < 0)) (dg v) hl
  rw [lims_dg] at h
  exact h

set_option maxHeartbeats 4000000 in
theorem alike_ok (v : Int) (h : lenV v ≤ 67108864) : Spec Tryd.prog 18 [.a [.b (decide (v < 0)), .n false .u64 (lm v)], .i .i64 0, .a [.b (decide (v < 0)), .n false .u64 (dg v)], .i .i64 0] (fun o => o = .ret (.b true)) := by
  refine spec_of' [(0, .a [.b (decide (v < 0)), .n false .u64 (lm v)]), (1, .i .i64 0), (2, .a [.b (decide (v < 0)), .n false .u64 (dg v)]), (3, .i .i64 0)] rfl Tryd.func18 rfl (Nat.le_of_ble_eq_true rfl) fun Γ hN hds hL hR => ?_
  have hd : ∀ d, Nat.blt d 45 = true → d < Γ.N := fun d h => by rw [hN]; exact Nat.le_of_ble_eq_true h
  have hl := lenV_dg h
  refine jc_seq ?_; refine jc_region ?_; refine jo_h (hy_box (id := 0) (n := 2) rfl rfl rfl (by decide) rfl) (hd 4 rfl) ?_; refine jo_h (hy_box (id := 1) (n := 2) rfl rfl rfl (by decide) rfl) (hd 6 rfl) ?_; refine jo_l (ly_as rfl) (hd 8 rfl) ?_; refine jo_nil ?_; refine jc_seq ?_; refine jc_seq ?_; refine jc_region ?_; refine jo_l (ly_mv rfl) (hd 9 rfl) ?_; refine jo_l (ly_tt (ly_eq rfl rfl) rfl) (hd 10 rfl) ?_; refine jo_l (ly_mv rfl) (hd 11 rfl) ?_; refine jo_g 11 rfl rfl (ly_fa fld35_1 rfl rfl rfl) (hd 12 rfl) ?_; refine jo_g 11 rfl rfl (ly_ld one33 rfl rfl rfl) (hd 13 rfl) ?_
  refine jo_callg Tryd.f49 11 rfl rfl (Len_s v (by omega)) rfl Tryd.func49 rfl rfl (ovL_cons rfl ovL_nil) (.cons .n .nil) (hd 14 rfl) ?_ (fun ch hp => by simp at hp)
  rintro y hy; injection hy with hy; subst hy; refine jo_g 11 rfl rfl (ly_ff (ly_gt rfl rfl) (by omega)) (hd 15 rfl) ?_; refine jo_l (ly_pick_t rfl rfl) (hd 16 rfl) ?_; refine jo_nil ?_; refine jc_litf rfl ?_; refine jc_skip ?_; refine jc_seq ?_; refine jc_seq ?_; refine jc_region ?_; refine jo_l (ly_mv rfl) (hd 17 rfl) ?_; refine jo_l (ly_ff (ly_ne rfl rfl) (fun h => h rfl)) (hd 18 rfl) ?_; refine jo_nil ?_; refine jc_litf rfl ?_; refine jc_skip ?_; refine jc_seq ?_; refine jc_region ?_; refine jo_l (ly_mv rfl) (hd 34 rfl) ?_
  refine jo_call Tryd.f14 (num_s 0) rfl Tryd.func14 rfl rfl (ovL_cons rfl ovL_nil) (.cons .i .nil) (hd 35 rfl) ?_ (fun ch hp => by simp at hp)
  rintro y hy; injection hy with hy; subst hy; refine jo_l (ly_tt (ly_eq rfl rfl) rfl) (hd 36 rfl) ?_; refine jo_l (ly_mv rfl) (hd 37 rfl) ?_; refine jo_g 37 rfl rfl (ly_lda agg35 rfl rfl rfl rfl) (hd 38 rfl) ?_; refine jo_g 37 rfl rfl (ly_fa fld30_0 rfl rfl rfl) (hd 39 rfl) ?_; refine jo_g 37 rfl rfl (ly_ld one4 rfl rfl rfl) (hd 40 rfl) ?_; refine jo_g 37 rfl rfl (ly_fa fld30_1 rfl rfl rfl) (hd 41 rfl) ?_; refine jo_g 37 rfl rfl (ly_ld one28 rfl rfl rfl) (hd 42 rfl) ?_
  refine jo_callg Tryd.f50 37 rfl rfl (ZIs_v v (by omega)) rfl Tryd.func50 rfl rfl (ovL_cons rfl (ovL_cons rfl (ovL_cons rfl ovL_nil))) (.cons (.a1 .b (.a1 .n .a0)) (.cons .b (.cons .n .nil))) (hd 43 rfl) ?_ (fun ch hp => by simp at hp)
  rintro y hy; injection hy with hy; subst hy; refine jo_l (ly_pick_t rfl rfl) (hd 44 rfl) ?_; refine jo_l (ly_as rfl) (hd 8 rfl) ?_; refine jo_nil ?_; refine jc_ret ?_
  refine ⟨_, _, (.cons rfl .nil), .b, ?_⟩
  exact rfl

end Go.Proofs.YtaogaegchagbfaaDoor.Vc

/- The contract of surdlaw06.WholeSums. -/
namespace Go.Proofs.YtaogaegchagbfaaDoor.Vc
open Go Go.RowKit
end Go.Proofs.YtaogaegchagbfaaDoor.Vc

/- Contracts of the references' Bit, Tail; ints: nat.Small, whole.Int, Of. -/
namespace Go.Proofs.YtaogaegchagbfaaDoor.Vc
open Go Go.RowKit
set_option maxHeartbeats 4000000 in
theorem Bit_s (x i : Nat) (hx : (digs B32 x).length < 1099511627776) (hi : i < 9223372036854775808) : Spec Tryd.prog 32 [.n false .u64 (digs B32 x), .i .i64 (i : Int)] (fun o => o = .ret (.i .i64 ((x / 2 ^ i % 2 : Nat) : Int))) := by
  refine spec_of' [(0, .n false .u64 (digs B32 x)), (1, .i .i64 (i : Int))] rfl Tryd.func32 rfl (Nat.le_of_ble_eq_true rfl) fun Γ hN hds hL hR => ?_
  have hd : ∀ d, Nat.blt d 24 = true → d < Γ.N := fun d h => by rw [hN]; exact Nat.le_of_ble_eq_true h
  have hm1 : (x / B32 ^ (i / 32) % B32) < 4294967296 := Nat.mod_lt _ (by decide)
  have hm2 : (x / B32 ^ (i / 32) % B32) / 2 ^ (i % 32) ≤ (x / B32 ^ (i / 32) % B32) := Nat.div_le_self _ _
  refine jc_seq ?_; refine jc_region ?_; refine jo_l (ly_as rfl) (hd 4 rfl) ?_; refine jo_nil ?_; refine jc_seq ?_; refine jc_seq ?_; refine jc_region ?_; refine jo_l (ly_mv rfl) (hd 5 rfl) ?_; refine jo_l (ly_ff (ly_lt rfl rfl) (by omega)) (hd 6 rfl) ?_; refine jo_l (ly_mv rfl) (hd 7 rfl) ?_; refine jo_g 7 rfl rfl (ly_mv rfl) (hd 8 rfl) ?_; refine jo_g 7 rfl rfl (ly_quo rfl rfl (by decide) (r := ((i / 32 : Nat) : Int)) (by rw [show ((i : Int).tdiv 32) = ((i / 32 : Nat) : Int) from rfl, wrap_i64 (by omega) (by omega)])) (hd 9 rfl) ?_; refine jo_g 7 rfl rfl (ly_mv rfl) (hd 10 rfl) ?_; refine jo_g 7 rfl rfl (ly_lenn sl33 rfl) (hd 11 rfl) ?_; refine jo_g 7 rfl rfl (ly_ge rfl rfl) (hd 12 rfl) ?_; refine jo_l (ly_pick_f rfl rfl) (hd 13 rfl) ?_; refine jo_nil ?_
  refine jc_if rfl (fun h1 => ?_) (fun h1 => ?_)
  · refine jc_seq ?_; refine jc_region ?_; refine jo_l (ly_as rfl) (hd 4 rfl) ?_; refine jo_nil ?_; refine jc_ret ?_
    refine ⟨_, _, (.cons rfl .nil), .i, ?_⟩
    rw [bit_out (by omega)]
    rfl
  · refine jc_skip ?_; refine jc_seq ?_; refine jc_region ?_; refine jo_l (ly_mv rfl) (hd 14 rfl) ?_; refine jo_l (ly_mv rfl) (hd 15 rfl) ?_; refine jo_l (ly_quo rfl rfl (by decide) (r := ((i / 32 : Nat) : Int)) (by rw [show ((i : Int).tdiv 32) = ((i / 32 : Nat) : Int) from rfl, wrap_i64 (by omega) (by omega)])) (hd 16 rfl) ?_; refine jo_l (ly_ian (i := i / 32) sl33 rfl rfl (by first | rfl | omega) (by omega)) (hd 17 rfl) ?_; refine jo_l (ly_is (ly_ldq one82 rfl rfl) (by exact congrArg (V.i .u64) (digs_at (by decide) (i / 32) x))) (hd 18 rfl) ?_; refine jo_l (ly_mv rfl) (hd 19 rfl) ?_; refine jo_l (ly_is (ly_rem rfl rfl (by decide) rfl) (show V.i .i64 ((i : Int).tmod 32) = V.i .i64 ((i % 32 : Nat) : Int) from rfl)) (hd 20 rfl) ?_; refine jo_l (ly_is (ly_shr rfl rfl (by omega) rfl) (by exact congrArg (V.i .u64) (shr_nat (k := 2 ^ (i % 32)) (by rw [Int.toNat_natCast, Nat.min_eq_left (by have h : IntKind.u64.bits = 64 := rfl; omega)])))) (hd 21 rfl) ?_; refine jo_l (ly_is (ly_bit (by simp) rfl rfl rfl) (by exact congrArg (V.i .u64) (and1 (by omega)))) (hd 22 rfl) ?_; refine jo_l (ly_conv und82 und3 rfl (wrap_i64 (by omega) (by omega))) (hd 23 rfl) ?_; refine jo_l (ly_as rfl) (hd 4 rfl) ?_; refine jo_nil ?_; refine jc_ret ?_
    refine ⟨_, _, (.cons rfl .nil), .i, ?_⟩
    rw [bit_digit]

set_option maxHeartbeats 4000000 in
theorem Tail_s (x : Nat) (hx0 : x ≠ 0) (hx : (digs B32 x).length < 1073741824) : Spec Tryd.prog 17 [.n false .u64 (digs B32 x)] (fun o => ∃ t : Nat, o = .ret (.i .i64 (t : Int)) ∧ Tz x t) := by
  refine spec_of' [(0, .n false .u64 (digs B32 x))] rfl Tryd.func17 rfl (Nat.le_of_ble_eq_true rfl) fun Γ hN hds hL hR => ?_
  have hd : ∀ d, Nat.blt d 14 = true → d < Γ.N := fun d h => by rw [hN]; exact Nat.le_of_ble_eq_true h
  refine jc_seq ?_; refine jc_region ?_; refine jo_l (ly_as rfl) (hd 2 rfl) ?_; refine jo_nil ?_; refine jc_seq ?_; refine jc_seq ?_; refine jc_region ?_; refine jo_l (ly_mv rfl) (hd 4 rfl) ?_; refine jo_l (ly_lenn sl33 rfl) (hd 5 rfl) ?_; refine jo_l (ly_eq rfl rfl) (hd 6 rfl) ?_; refine jo_nil ?_
  refine jc_if rfl (fun h1 => ?_) (fun h1 => ?_)
  · exact absurd (digs_nil.1 (List.eq_nil_of_length_eq_zero (by omega))) hx0
  · refine jc_skip ?_; refine jc_seq ?_; refine jc_region ?_; refine jo_l (ly_as rfl) (hd 3 rfl) ?_; refine jo_nil ?_; refine jc_seq ?_; refine jc_block ?_
    refine jc_loopF (G := Nat) (fun n => 2 ^ n ∣ x) (fun n => [(3, .i .i64 (n : Int)), (7, .u), (8, .u), (9, .u), (10, .u), (11, .u), (12, .u)]) (fun _ => _) (fun n => 32 * (digs B32 x).length - n) 0 ?_ ?_ rfl ?_
    · exact ⟨x, by rw [Nat.pow_zero, Nat.one_mul]⟩
    · exact (.cons rfl (.u (.u (.u (.u (.u (.u .nil)))))))
    · rintro n hc1
      have hn := bit_lt hx0 hc1
      refine jc_seq ?_; refine jc_seq ?_; refine jc_region ?_; refine jo_l (ly_mv rfl) (hd 7 rfl) ?_; refine jo_l (ly_mv rfl) (hd 8 rfl) ?_
      refine jo_call Tryd.f32 (Bit_s x n (by omega) (by omega)) rfl Tryd.func32 rfl rfl (ovL_cons rfl (ovL_cons rfl ovL_nil)) (.cons .n (.cons .i .nil)) (hd 9 rfl) ?_ (fun ch hp => by simp at hp)
      rintro y hy; injection hy with hy; subst hy; refine jo_l (ly_eq rfl rfl) (hd 10 rfl) ?_; refine jo_nil ?_
      refine jc_if rfl (fun h2 => ?_) (fun h2 => ?_)
      · refine jc_skip ?_; refine jc_block ?_; refine jc_region ?_; refine jo_l (ly_mv rfl) (hd 11 rfl) ?_; refine jo_l (ly_add rfl rfl (wrap_i64 (by omega) (by omega))) (hd 12 rfl) ?_; refine jo_l (ly_as rfl) (hd 3 rfl) ?_; refine jo_nil ?_
        refine ⟨n + 1, ?_, ?_, rfl, cov_n 14 rfl rfl ?_⟩
        · exact bit_dvd hc1 (by omega)
        · omega
        · exact (.cons rfl (.u (.u (.u (.u (.u (.u .nil)))))))
      · refine jc_exit ?_; refine jc_seq ?_; refine jc_region ?_; refine jo_l (ly_mv rfl) (hd 13 rfl) ?_; refine jo_l (ly_as rfl) (hd 2 rfl) ?_; refine jo_nil ?_; refine jc_ret ?_
        refine ⟨_, _, (.cons rfl .nil), .i, ?_⟩
        exact ⟨n, rfl, hc1, by omega⟩

theorem ZInt_s (v : Int) (h : inI v) : Spec Tryd.prog 21 [.i .i64 v] (fun o => o = .ret (.a [.b (decide (v < 0)), .n false .u64 (dg v)])) := by
  have h' : -9223372036854775808 ≤ v ∧ v < 9223372036854775808 := h
  by_cases h0 : v < 0
  · have hu : u64s [-v] := u64s1 (by omega) (by omega)
    have h1 := Int_neg v h0 h'.1
    have e := zv_of (s := true) hu
    rw [e, trm_dig (s := true) (v := v) hu (by simp [sv, vl])] at h1
    have e2 : sv true [-v] = v := by simp [sv, vl]
    rw [e2] at h1
    exact h1
  · have hu : u64s [v] := u64s1 (by omega) (by omega)
    have h1 := Int_pos v (by omega) h'.2
    have e := zv_of (s := false) hu
    rw [e, trm_dig (s := false) (v := v) hu (by simp [sv, vl])] at h1
    have e2 : sv false [v] = v := by simp [sv, vl]
    rw [e2] at h1
    exact h1

end Go.Proofs.YtaogaegchagbfaaDoor.Vc

/- Contracts of bits.LeadingZeros64, Div64. -/
namespace Go.Proofs.YtaogaegchagbfaaDoor.Vc
open Go Go.RowKit
end Go.Proofs.YtaogaegchagbfaaDoor.Vc

/- Contracts of div.up, down. -/
namespace Go.Proofs.YtaogaegchagbfaaDoor.Vc
open Go Go.RowKit
end Go.Proofs.YtaogaegchagbfaaDoor.Vc

/- Contract of div.guess. -/
namespace Go.Proofs.YtaogaegchagbfaaDoor.Vc
open Go Go.RowKit
end Go.Proofs.YtaogaegchagbfaaDoor.Vc

/- Contract of div.divide. -/
namespace Go.Proofs.YtaogaegchagbfaaDoor.Vc
open Go Go.RowKit
end Go.Proofs.YtaogaegchagbfaaDoor.Vc

/- Contracts by values: nat.Norm, Length, Compare, Add of 1, Sub, Bit of 0, div.Both; the ways of whole.divide. -/
namespace Go.Proofs.YtaogaegchagbfaaDoor.Vc
open Go Go.RowKit
theorem Add1_v (v : Int) (h0 : 0 ≤ v) (hv : lenV (v + 1) ≤ 67108864) : Spec Tryd.prog 60 [.n false .u64 (lm v), .n false .u64 [1]] (fun o => o = .ret (.t [.n false .u64 (lm (v + 1)), .i .i64 0])) := by
  have hlv := lenV_lm (Nat.le_trans (lenV_mono (show v.natAbs ≤ (v + 1).natAbs by omega)) hv)
  have ev : vl (lm v) = v := by rw [lm_v]; omega
  have u1 : u64s [1] := u64s1 (by decide) (by decide)
  have hd : vl (sumL (lm v) [1]) = v + 1 := by rw [vl_sumL, ev]; rfl
  have hc := adN_c (a := (swL (trm (lm v)) (trm [1])).1) (b := (swL (trm (lm v)) (trm [1])).2) (by unfold swL; split; exact u64s_trm u1; exact u64s_trm (lm_u v)) (by unfold swL; split; exact u64s_trm (lm_u v); exact u64s_trm u1) (swL (trm (lm v)) (trm [1])).1.length
  have hu : u64s (sumL (lm v) [1]) := u64s_app1 (adN_u _) hc.1 (by omega)
  have e := trm_lm hu hd
  have h := Add_ok (lm v) [1] (by omega) (by decide) (lm_u v) u1 (by rw [e, lenN_lm]; exact hv)
  rwa [e] at h
end Go.Proofs.YtaogaegchagbfaaDoor.Vc

/- Contracts of nat.From of 1, whole.result, by values. -/
namespace Go.Proofs.YtaogaegchagbfaaDoor.Vc
open Go Go.RowKit
theorem result_nv (s : Bool) (l : List Int) (v : Int) (hl : l.length < 1099511627776) (hu : u64s l) (hv : sv s l = v) (h : lenV v ≤ 67108864) : SpecM Tryd.prog 61 [.b s, .n false .u64 l, .i .i64 0] [] (fun o G => o = .ret (.t [.a [.b (decide (v < 0)), .o 0 0 0 (lm v).length], .i .i64 0]) ∧ G = [⟨76, 1, 0, true, ints .u64 (lm v)⟩]) :=
  (result_n s l 0 v (.inl ⟨rfl, hu, hl, hv⟩)).mono fun o G ⟨s2, r, e, ho, hG, hR⟩ => by
    rcases hR with ⟨_, h1, h2, h3⟩ | ⟨hb, _⟩
    · subst h1; subst h2; subst h3; exact ⟨ho, hG⟩
    · omega
end Go.Proofs.YtaogaegchagbfaaDoor.Vc

/- Contracts of whole.divide, Quo, Floor, Ceil, Near, Euclid. -/
namespace Go.Proofs.YtaogaegchagbfaaDoor.Vc
open Go Go.RowKit
end Go.Proofs.YtaogaegchagbfaaDoor.Vc

/- Contracts of whole.divide, Quo, Floor, Ceil, Near, Euclid: the answers are the caller's own. -/
namespace Go.Proofs.YtaogaegchagbfaaDoor.Vc
open Go Go.RowKit
end Go.Proofs.YtaogaegchagbfaaDoor.Vc

/- Contracts of surdref01.Shl, Div. -/
namespace Go.Proofs.YtaogaegchagbfaaDoor.Vc
open Go Go.RowKit
set_option maxHeartbeats 4000000 in
theorem Shl_s (x n : Nat) (hx : (digs B32 x).length < 549755813888) (hn : n < 4294967296) : Spec Tryd.prog 53 [.n false .u64 (digs B32 x), .i .i64 (n : Int)] (fun o => o = .ret (.n false .u64 (digs B32 (x * 2 ^ n)))) := by
  refine spec_of' [(0, .n false .u64 (digs B32 x)), (1, .i .i64 (n : Int))] rfl Tryd.func53 rfl (Nat.le_of_ble_eq_true rfl) fun Γ hN hds hL hR => ?_
  have hd : ∀ d, Nat.blt d 55 = true → d < Γ.N := fun d h => by rw [hN]; exact Nat.le_of_ble_eq_true h
  have hr := rng_digs (b := B32) (by decide) x
  have hs : n % 32 < 32 := by omega
  refine jc_seq ?_; refine jc_region ?_; refine jo_l (ly_as rfl) (hd 4 rfl) ?_; refine jo_nil ?_; refine jc_seq ?_; refine jc_seq ?_; refine jc_region ?_; refine jo_l (ly_mv rfl) (hd 9 rfl) ?_; refine jo_l (ly_lenn sl33 rfl) (hd 10 rfl) ?_; refine jo_l (ly_eq rfl rfl) (hd 11 rfl) ?_; refine jo_nil ?_
  refine jc_if rfl (fun h1 => ?_) (fun h1 => ?_)
  · refine jc_seq ?_; refine jc_region ?_; refine jo_l (ly_as rfl) (hd 4 rfl) ?_; refine jo_nil ?_; refine jc_ret ?_
    refine ⟨_, _, (.cons rfl .nil), (.nil (fr := false) (k := .u64)), ?_⟩
    have hz : (digs B32 x) = [] := List.eq_nil_of_length_eq_zero (by omega)
    rw [digs_nil.1 hz, Nat.zero_mul, digs_0]
  · refine jc_skip ?_; refine jc_seq ?_; refine jc_region ?_; refine jo_l (ly_mv rfl) (hd 12 rfl) ?_; refine jo_l (ly_lenn sl33 rfl) (hd 13 rfl) ?_; refine jo_l (ly_mv rfl) (hd 14 rfl) ?_; refine jo_l (ly_quo rfl rfl (by omega) (r := ((n / 32 : Nat) : Int)) (quo32 (by omega))) (hd 15 rfl) ?_; refine jo_l (ly_add rfl rfl (r := (((digs B32 x).length + n / 32 : Nat) : Int)) (by rw [wrap_i64 (by omega) (by omega)]; omega)) (hd 16 rfl) ?_; refine jo_l (ly_add rfl rfl (r := (((digs B32 x).length + n / 32 + 1 : Nat) : Int)) (by rw [wrap_i64 (by omega) (by omega)]; omega)) (hd 17 rfl) ?_; refine jo_h (hy_mk (m := (digs B32 x).length + n / 32 + 1) el33 rfl rfl rfl (by show 8 * ((digs B32 x).length + n / 32 + 1) ≤ _; omega) (by unfold maxLen; omega) rfl) (hd 18 rfl) ?_; refine jo_l (ly_as rfl) (hd 5 rfl) ?_; refine jo_nil ?_; refine jc_seq ?_; refine jc_region ?_; refine jo_l (ly_mv rfl) (hd 19 rfl) ?_; refine jo_l (ly_is (ly_rem rfl rfl (by omega) rfl) (show V.i .i64 _ = V.i .i64 (((n % 32 : Nat) : Int)) from congrArg (V.i .i64) rem32)) (hd 20 rfl) ?_; refine jo_l (ly_as rfl) (hd 6 rfl) ?_; refine jo_nil ?_; refine jc_seq ?_; refine jc_seq ?_; refine jc_region ?_; refine jo_l (ly_mv rfl) (hd 21 rfl) ?_; refine jo_l (ly_lenn sl33 rfl) (hd 22 rfl) ?_; refine jo_l (ly_mv rfl) (hd 23 rfl) ?_; refine jo_nil ?_; refine jc_block ?_; refine jc_H (H' := [⟨76, 1, 0, true, ints .u64 (shR (digs B32 x) (n % 32) (n / 32) 0)⟩]) (by rw [← shR_0]; rfl) ?_
    refine jc_loopF (G := Nat) (fun i => i ≤ (digs B32 x).length) (fun i => [(23, .i .i64 (i : Int)), (7, .u), (8, .u), (24, .u), (25, .u), (26, .u), (27, .u), (28, .u), (29, .u), (30, .u), (31, .u), (32, .u), (33, .u), (34, .u), (35, .u), (36, .u), (37, .u), (38, .u), (39, .u), (40, .u), (41, .u), (42, .u), (43, .u), (44, .u), (45, .u), (46, .u), (47, .u), (48, .u), (49, .u), (50, .u), (51, .u), (52, .u)]) (fun i => [⟨76, 1, 0, true, ints .u64 (shR (digs B32 x) (n % 32) (n / 32) i)⟩]) (fun i => (digs B32 x).length - i) 0 ?_ ?_ rfl ?_
    · exact Nat.zero_le _
    · exact (.cons rfl (.u (.u (.u (.u (.u (.u (.u (.u (.u (.u (.u (.u (.u (.u (.u (.u (.u (.u (.u (.u (.u (.u (.u (.u (.u (.u (.u (.u (.u (.u (.u .nil))))))))))))))))))))))))))))))))
    · rintro i hc1
      have hf := shR_len (s := (n % 32)) (w := (n / 32)) hc1
      have hc := sh32_c hs hr i
      have hx := rng_getD (by decide) hr i
      have hp := sh_prod hs hr i
      have hel := sh_el (x := (digs B32 x).getD i 0) hs hc.1 hc.2
      refine jc_seq ?_; refine jc_region ?_; refine jo_l (ly_lt rfl rfl) (hd 24 rfl) ?_; refine jo_nil ?_; refine jc_seq ?_
      refine jc_if rfl (fun h2 => ?_) (fun h2 => ?_)
      · refine jc_skip ?_; refine jc_seq ?_; refine jc_block ?_; refine jc_seq ?_; refine jc_region ?_; refine jo_l (ly_mv rfl) (hd 25 rfl) ?_; refine jo_l (ly_ian (i := i) sl33 rfl rfl (by first | rfl | omega) (by omega)) (hd 26 rfl) ?_; refine jo_l (ly_ldq one82 rfl rfl) (hd 27 rfl) ?_; refine jo_l (ly_as rfl) (hd 7 rfl) ?_; refine jo_l (ly_as rfl) (hd 8 rfl) ?_; refine jo_nil ?_; refine jc_seq ?_; refine jc_draw (n := 14) _ rfl mixed ?_; refine ja_l2 0 [5, 6, 11, 12, 13] (lo_l (ly_mv rfl) (hd 28 rfl)) rfl (by kernel_rfl) (by kernel_rfl) (by kernel_rfl) (by kernel_rfl) (fun _ _ _ _ h => h) ?_; refine ja_l2 1 [4, 5, 6, 11, 12, 13] (lo_l (ly_mv rfl) (hd 29 rfl)) rfl (by kernel_rfl) (by kernel_rfl) (by kernel_rfl) (by kernel_rfl) (fun _ _ _ _ h => h) ?_; refine ja_l2 2 [3, 4, 5, 6, 11, 12, 13] (lo_l (ly_mv rfl) (hd 30 rfl)) rfl (by kernel_rfl) (by kernel_rfl) (by kernel_rfl) (by kernel_rfl) (fun _ _ _ _ h => h) ?_; refine ja_l2 3 [4, 5, 6, 11, 12, 13] (lo_l (ly_quo rfl rfl (by omega) (r := ((n / 32 : Nat) : Int)) (quo32 (by omega))) (hd 31 rfl)) rfl (by kernel_rfl) (by kernel_rfl) (by kernel_rfl) (by kernel_rfl) (fun _ _ _ _ h => h) ?_; refine ja_l2 4 [5, 6, 11, 12, 13] (lo_l (ly_add rfl rfl (r := ((i + n / 32 : Nat) : Int)) (by rw [wrap_i64 (by omega) (by omega)]; omega)) (hd 32 rfl)) rfl (by kernel_rfl) (by kernel_rfl) (by kernel_rfl) (by kernel_rfl) (fun _ _ _ _ h => h) ?_; refine ja_l2 5 [6, 11, 12, 13] (lo_l (ly_ia (i := i + n / 32) sl33 rfl rfl rfl (by first | rfl | omega) (by omega) rfl) (hd 33 rfl)) rfl (by kernel_rfl) (by kernel_rfl) (by kernel_rfl) (by kernel_rfl) (fun _ _ _ _ h => h) ?_; refine ja_l 6 (lo_l (ly_is (ly_ldi one82 rfl rfl (by omega)) (show V.i .u64 _ = V.i .u64 ((sh32 (digs B32 x) (n % 32) i).2) from congrArg (V.i .u64) shR_get)) (hd 34 rfl)) rfl (by kernel_rfl) (by kernel_rfl) (by kernel_rfl) (fun _ _ _ _ h => h) ?_; refine ja_l2 7 [9, 10, 11, 12, 13] (lo_l (ly_mv rfl) (hd 35 rfl)) rfl (by kernel_rfl) (by kernel_rfl) (by kernel_rfl) (by kernel_rfl) (fun _ _ _ _ h => h) ?_; refine ja_l2 8 [9, 10, 11, 12, 13] (lo_l (ly_mv rfl) (hd 36 rfl)) rfl (by kernel_rfl) (by kernel_rfl) (by kernel_rfl) (by kernel_rfl) (fun _ _ _ _ h => h) ?_; refine ja_l2 9 [10, 11, 12, 13] (lo_l (ly_is (ly_shl rfl rfl (by omega) rfl) (show V.i .u64 _ = V.i .u64 (((digs B32 x).getD i 0 * 2 ^ (n % 32))) from congrArg (V.i .u64) (shl_u64 hs hx.1 hx.2))) (hd 37 rfl)) rfl (by kernel_rfl) (by kernel_rfl) (by kernel_rfl) (by kernel_rfl) (fun _ _ _ _ h => h) ?_; refine ja_l 10 (lo_l (ly_is (ly_rem rfl rfl (by decide) rfl) (show V.i .u64 _ = V.i .u64 (((digs B32 x).getD i 0 * 2 ^ (n % 32)) % 4294967296) from congrArg (V.i .u64) (Int.tmod_eq_emod_of_nonneg hp.1))) (hd 38 rfl)) rfl (by kernel_rfl) (by kernel_rfl) (by kernel_rfl) (fun _ _ _ _ h => h) ?_; refine ja_l 11 (lo_l (ly_add rfl rfl (wrap_u64 hel.1 (Int.lt_trans hel.2 (by decide)))) (hd 39 rfl)) rfl (by kernel_rfl) (by kernel_rfl) (by kernel_rfl) (fun _ _ _ _ h => h) ?_; refine ja_l 12 (lo_l (ly_ia (i := i + n / 32) sl33 rfl rfl rfl (by first | rfl | omega) (by omega) rfl) (hd 40 rfl)) rfl (by kernel_rfl) (by kernel_rfl) (by kernel_rfl) (fun _ _ _ _ h => h) ?_
        refine ja_1 13 ?_ rfl (by kernel_rfl)
        refine js_st (sy_storei rfl rfl rfl one82 (by omega)) rfl ?_; refine ja_nil (by kernel_rfl) ?_; refine jc_region ?_; refine jo_l (ly_mv rfl) (hd 41 rfl) ?_; refine jo_l (ly_mv rfl) (hd 42 rfl) ?_; refine jo_l (ly_mv rfl) (hd 43 rfl) ?_; refine jo_l (ly_quo rfl rfl (by omega) (r := ((n / 32 : Nat) : Int)) (quo32 (by omega))) (hd 44 rfl) ?_; refine jo_l (ly_add rfl rfl (r := ((i + n / 32 : Nat) : Int)) (by rw [wrap_i64 (by omega) (by omega)]; omega)) (hd 45 rfl) ?_; refine jo_l (ly_add rfl rfl (r := ((i + n / 32 + 1 : Nat) : Int)) (by rw [wrap_i64 (by omega) (by omega)]; omega)) (hd 46 rfl) ?_; refine jo_l (ly_mv rfl) (hd 47 rfl) ?_; refine jo_l (ly_mv rfl) (hd 48 rfl) ?_; refine jo_l (ly_is (ly_shl rfl rfl (by omega) rfl) (show V.i .u64 _ = V.i .u64 (((digs B32 x).getD i 0 * 2 ^ (n % 32))) from congrArg (V.i .u64) (shl_u64 hs hx.1 hx.2))) (hd 49 rfl) ?_; refine jo_l (ly_quo rfl rfl (by decide) (r := ((digs B32 x).getD i 0 * 2 ^ (n % 32)) / 4294967296) (quo_u64 hp.1 (by omega) (by decide))) (hd 50 rfl) ?_; refine jo_l (ly_ia (i := i + n / 32 + 1) sl33 rfl rfl rfl (by first | rfl | omega) (by omega) rfl) (hd 51 rfl) ?_; refine jo_st (sy_storei rfl rfl rfl one82 (by simp only [List.length_set]; omega)) ?_; refine jo_nil ?_; refine jc_region ?_; refine jo_l (ly_add rfl rfl (wrap_i64 (by omega) (by omega))) (hd 52 rfl) ?_; refine jo_l (ly_mv rfl) (hd 23 rfl) ?_; refine jo_nil ?_
        refine ⟨i + 1, ?_, ?_, (by show [(⟨76, 1, 0, true, ints .u64 _⟩ : Ob)] = [⟨76, 1, 0, true, ints .u64 _⟩]; rw [shR_set (by omega)]), cov_n 64 rfl rfl ?_⟩
        · omega
        · omega
        · exact (.cons rfl (.u (.u (.u (.u (.u (.u (.u (.u (.u (.u (.u (.u (.u (.u (.u (.u (.u (.u (.u (.u (.u (.u (.u (.u (.u (.u (.u (.u (.u (.u (.u .nil))))))))))))))))))))))))))))))))
      · obtain rfl : i = (digs B32 x).length := by omega
        refine jc_exit ?_; refine jc_seq ?_; refine jc_region ?_; refine jo_frz (k := .u64) (l := shR (digs B32 x) (n % 32) (n / 32) (digs B32 x).length) (l' := shR (digs B32 x) (n % 32) (n / 32) (digs B32 x).length) 5 rfl rfl (by omega) (by rw [List.drop_zero, List.take_of_length_le (by omega)]) hL ?_; refine jo_l (ly_mv rfl) (hd 53 rfl) ?_
        refine jo_call Tryd.f82 (rnorm_s (shR (digs B32 x) (n % 32) (n / 32) (digs B32 x).length) (by omega)) rfl Tryd.func82 rfl rfl (ovL_cons rfl ovL_nil) (.cons .n .nil) (hd 54 rfl) ?_ (fun ch hp => by simp at hp)
        rintro y hy; injection hy with hy; subst hy; refine jo_l (ly_as rfl) (hd 4 rfl) ?_; refine jo_nil ?_; refine jc_ret ?_
        refine ⟨_, _, (.cons rfl .nil), .n, ?_⟩
        rw [shR_end]

end Go.Proofs.YtaogaegchagbfaaDoor.Vc

/- Contracts of surdref06.Floor, Ceil, Quo, Euclid, Near. -/
namespace Go.Proofs.YtaogaegchagbfaaDoor.Vc
open Go Go.RowKit
end Go.Proofs.YtaogaegchagbfaaDoor.Vc

/- Contracts of surdlaw06.pair, rest. -/
namespace Go.Proofs.YtaogaegchagbfaaDoor.Vc
open Go Go.RowKit
end Go.Proofs.YtaogaegchagbfaaDoor.Vc

/- Contracts of the references' Floor, Ceil, Near by their way. -/
namespace Go.Proofs.YtaogaegchagbfaaDoor.Vc
open Go Go.RowKit
end Go.Proofs.YtaogaegchagbfaaDoor.Vc

/- Two numbers with a sign, and more, that are handed in. -/
namespace Go.Proofs.YtaogaegchagbfaaDoor.Vc
open Go Go.RowKit
theorem short2b {H : Type} {d0 d1 : DataW H} {r : List (DataW H)} {l0 l1 : List Int} (hk : Rows.uptoSmall H (d0 :: d1 :: r) = true) (h0 : l0.length + 2 ≤ Rows.uptoBulk d0) (h1 : l1.length + 2 ≤ Rows.uptoBulk d1) : l0.length + l1.length ≤ 1048572 := by
  have h : Rows.uptoBulkAll (d0 :: d1 :: r) ≤ 1048576 := of_decide_eq_true hk
  simp only [Rows.uptoBulkAll] at h
  omega
end Go.Proofs.YtaogaegchagbfaaDoor.Vc

/- What WholeOwn needs, in plain Lean: a row written over by xor, sizes of sums and products, numbers by their answers. -/
namespace Go.Proofs.YtaogaegchagbfaaDoor.Vc
open Go Go.RowKit
def xr5 (x : Int) : Int := bitop .xor .u64 x 5
def xorL (l : List Int) : List Int := l.map xr5
/-- The first i are written over. -/
def xorI (l : List Int) (i : Nat) : List Int := xorL (l.take i) ++ l.drop i
/-- A copy, the first i taken over. -/
def cpI (l : List Int) (i : Nat) : List Int := fillI (l.take i) l.length
theorem lenV_add (a b : Int) : lenV (a + b) ≤ max (lenV a) (lenV b) + 1 := by
  have h := lenV_sub a (-b)
  rw [Int.sub_neg] at h
  have e : lenV (-b) = lenV b := by unfold lenV; rw [Int.natAbs_neg]
  rwa [e] at h
end Go.Proofs.YtaogaegchagbfaaDoor.Vc

/- Digits in any base, padded, the highest first; in plain Lean. -/
namespace Go.Proofs.YtaogaegchagbfaaDoor.Vc
open Go Go.RowKit

/-- The digits, the lowest first, at least m. -/
def padD (b m x : Nat) : List Int := digs b x ++ List.replicate (m - (digs b x).length) 0
/-- The same, the highest first. -/
def hdg (b m x : Nat) : List Int := (padD b m x).reverse
end Go.Proofs.YtaogaegchagbfaaDoor.Vc

/- Powers modulo, bit by bit, in plain Lean. -/
namespace Go.Proofs.YtaogaegchagbfaaDoor.Vc
open Go Go.RowKit
end Go.Proofs.YtaogaegchagbfaaDoor.Vc

/- Digits in any base, told one by one: the loops' steps, in plain Lean. -/
namespace Go.Proofs.YtaogaegchagbfaaDoor.Vc
open Go Go.RowKit
theorem pB_pow : ∀ n, pB n = ((2 ^ (64 * n) : Nat) : Int)
  | 0 => rfl
  | n + 1 => by
    rw [pB, pB_pow n, show 64 * (n + 1) = 64 * n + 64 by omega, Nat.pow_add, Int.natCast_mul, Int.mul_comm]
    rfl
/-- Filled from the end. -/
def revI (B : List Int) (i : Nat) : List Int := List.replicate (B.length - i) 0 ++ (B.take i).reverse
end Go.Proofs.YtaogaegchagbfaaDoor.Vc

/- The powers by which great numbers are parted; what the parts' digits make. -/
namespace Go.Proofs.YtaogaegchagbfaaDoor.Vc
open Go Go.RowKit
def pwV (b k : Nat) : V := .n true .u64 (lm ((b ^ 2 ^ k : Nat) : Int))
def pwR (b K : Nat) : List (List V) := (List.range K).map fun k => [pwV b k]
end Go.Proofs.YtaogaegchagbfaaDoor.Vc

/- The letters of digits; texts of digits: which stands later; in plain Lean. -/
namespace Go.Proofs.YtaogaegchagbfaaDoor.Vc
open Go Go.RowKit
def ltrTab : ByteArray := ⟨#[48, 49, 50, 51, 52, 53, 54, 55, 56, 57, 97, 98, 99, 100, 101, 102, 103, 104, 105, 106, 107, 108, 109, 110, 111, 112, 113, 114, 115, 116, 117, 118, 119, 120, 121, 122]⟩
def ltr (x : Int) : Int := byteAt ltrTab x.toNat
def ltrB (x : Int) : UInt8 := UInt8.ofNat (ltr x).toNat
def txt (l : List Int) : ByteArray := ⟨(l.map ltrB).toArray⟩
end Go.Proofs.YtaogaegchagbfaaDoor.Vc

/- What digits and texts say, in plain Lean. -/
namespace Go.Proofs.YtaogaegchagbfaaDoor.Vc
open Go Go.RowKit
/-- The number that digits say, the highest first. -/
def hv (b : Nat) (l : List Int) : Int := vb b l.reverse
/-- A byte as a digit; 36: none. -/
def dgv (c : Int) : Int := if 48 ≤ c ∧ c ≤ 57 then c - 48 else if 97 ≤ c ∧ c ≤ 122 then c - 97 + 10 else 36
def dgs (s : ByteArray) : List Int := (bytesI s).map dgv
end Go.Proofs.YtaogaegchagbfaaDoor.Vc

/- The order of numbers and the order of their texts, in plain Lean. -/
namespace Go.Proofs.YtaogaegchagbfaaDoor.Vc
open Go Go.RowKit
def ordW (s t : ByteArray) : Int := if s.size < t.size ∨ (s.size = t.size ∧ Op.bytesLess s.toList t.toList = true) then -1 else if s = t then 0 else 1
end Go.Proofs.YtaogaegchagbfaaDoor.Vc

/- Powers, and numbers of many digits, in plain Lean. -/
namespace Go.Proofs.YtaogaegchagbfaaDoor.Vc
open Go Go.RowKit
def PW (v n : Nat) : Int := ((v ^ n : Nat) : Int)
/-- What the map of powers keeps. -/
def cF (b n : Nat) : V := .n false .u64 (lm (PW b n))
end Go.Proofs.YtaogaegchagbfaaDoor.Vc

/- Digits one by one, texts letter by letter, in plain Lean. -/
namespace Go.Proofs.YtaogaegchagbfaaDoor.Vc
open Go Go.RowKit
theorem rOf_v {l : List Int} (hu : u64s l) : trm (dig l) = digs B32 (vl l).toNat := by
  rw [trm_dig (s := false) hu rfl]
  show digs 4294967296 (vl l).natAbs = digs 4294967296 (vl l).toNat
  have := vl_nonneg hu
  rw [show (vl l).natAbs = (vl l).toNat by omega]
theorem rInt_v {v : Nat} (h : v < 18446744073709551616) : trm (dig [(v : Int)]) = digs B32 v := by
  rw [rOf_v (fun x hx => by simp at hx; subst hx; omega), show (vl [(v : Int)]).toNat = v by simp [vl]]
theorem digs_dg {v : Int} (h : 0 ≤ v) : digs B32 v.toNat = dg v := by
  show digs 4294967296 v.toNat = digs 4294967296 v.natAbs
  rw [show v.natAbs = v.toNat by omega]
theorem digs_le_32 {b x n : Nat} (hb : 2 ≤ b) (h : x < 2 ^ n) : (digs b x).length ≤ n := digs_len hb n x (Nat.lt_of_lt_of_le h (Nat.pow_le_pow_left hb n))
end Go.Proofs.YtaogaegchagbfaaDoor.Vc

/- Noughts ahead of digits, places behind a point, in plain Lean. -/
namespace Go.Proofs.YtaogaegchagbfaaDoor.Vc
open Go Go.RowKit
def padZ (l : List Int) (j : Nat) : List Int := List.replicate j 0 ++ l
def zfill (m i : Nat) : List Int := List.replicate i 48 ++ List.replicate (m - i) 0
/-- What stands ahead of the point, and behind it. -/
def ptx (s : ByteArray) (k : Nat) : ByteArray := s.extract 0 (s.size - k) ++ ⟨#[46]⟩ ++ s.extract (s.size - k) s.size
end Go.Proofs.YtaogaegchagbfaaDoor.Vc

/- Digits whose number fits, in plain Lean. -/
namespace Go.Proofs.YtaogaegchagbfaaDoor.Vc
open Go Go.RowKit
theorem digs_lenV {x : Int} (h0 : 0 ≤ x) : (digs B32 x.toNat).length ≤ lenV x := by
  have h := nbits_le.1 (Nat.le_refl (lenV x))
  exact digs_le_32 (by decide) (Nat.lt_of_le_of_lt (by omega) h)
end Go.Proofs.YtaogaegchagbfaaDoor.Vc

/- Newton's steps toward a root, in plain Lean. -/
namespace Go.Proofs.YtaogaegchagbfaaDoor.Vc
open Go Go.RowKit
def nwt (a x n : Nat) : Nat := (n * x + a / x ^ n) / (n + 1)
structure RootIs (a k r : Nat) : Prop where
  le : r ^ k ≤ a
  lt : a < (r + 1) ^ k
theorem RootIs.is {a k r x : Nat} (h : RootIs a k r) (h1 : r ≤ x) (h2 : x ^ k ≤ a) : x = r := by
  rcases Nat.lt_or_ge r x with h3 | h3
  · have h4 := Nat.pow_le_pow_left h3 k
    have h5 := h.lt
    have h6 : (r + 1) ^ k ≤ a := Nat.le_trans h4 h2
    omega
  · omega
/-- 2 to the n, limb by limb. -/
def twoL (n : Nat) : List Int := List.replicate (n / 64) 0 ++ [((2 ^ (n % 64) : Nat) : Int), 0]
def twoS (n i : Nat) : List Int := if i = 0 then List.replicate (n / 64 + 2) 0 else twoL n
end Go.Proofs.YtaogaegchagbfaaDoor.Vc

/- Noughts at the end, Jacobi's symbol by its steps, in plain Lean. -/
namespace Go.Proofs.YtaogaegchagbfaaDoor.Vc
open Go Go.RowKit
def tz (x : Nat) : Nat := if h : x = 0 ∨ x % 2 = 1 then 0 else tz (x / 2) + 1
termination_by x
decreasing_by omega
theorem tz_0 : tz 0 = 0 := by rw [tz]; simp
theorem tz_odd {x : Nat} (h : x % 2 = 1) : tz x = 0 := by rw [tz, dif_pos (.inr h)]
theorem tz_even {x : Nat} (h0 : x ≠ 0) (h : x % 2 = 0) : tz x = tz (x / 2) + 1 := by rw [tz, dif_neg (by omega)]
theorem tz_spec {x : Nat} (h0 : 0 < x) : ∃ j, x = 2 ^ tz x * (2 * j + 1) := by
  induction x using Nat.strongRecOn with
  | _ x ih =>
    rcases Nat.mod_two_eq_zero_or_one x with h | h
    · obtain ⟨j, hj⟩ := ih (x / 2) (by omega) (by omega)
      refine ⟨j, ?_⟩
      rw [tz_even (by omega) h, Nat.pow_succ, Nat.mul_comm _ 2, Nat.mul_assoc, ← hj]
      omega
    · exact ⟨x / 2, by rw [tz_odd h]; omega⟩
theorem tz_is {k j : Nat} : tz (2 ^ k * (2 * j + 1)) = k := by
  induction k with
  | zero => exact tz_odd (by omega)
  | succ k ih =>
    have hp : 0 < 2 ^ k * (2 * j + 1) := Nat.mul_pos (Nat.pow_pos (by decide)) (by omega)
    have e : 2 ^ (k + 1) * (2 * j + 1) = 2 * (2 ^ k * (2 * j + 1)) := by rw [Nat.pow_succ, Nat.mul_comm _ 2, Nat.mul_assoc]
    rw [e, tz_even (by omega) (by omega), show 2 * (2 ^ k * (2 * j + 1)) / 2 = 2 ^ k * (2 * j + 1) by omega, ih]
theorem tz_le {x : Nat} (h0 : 0 < x) : 2 ^ tz x ≤ x := by
  obtain ⟨j, hj⟩ := tz_spec h0
  have h1 : 2 ^ tz x * 1 ≤ 2 ^ tz x * (2 * j + 1) := Nat.mul_le_mul_left _ (by omega)
  rw [← hj] at h1
  omega
theorem tz_lt {x n : Nat} (h0 : 0 < x) (h : x < 2 ^ n) : tz x < n := by
  have h1 := tz_le h0
  rcases Nat.lt_or_ge (tz x) n with h2 | h2
  · exact h2
  · have := Nat.pow_le_pow_right (n := 2) (by decide) h2
    omega
/-- What is left behind the noughts at the end. -/
def od (x : Nat) : Nat := x / 2 ^ tz x
theorem od_mod {x : Nat} (h0 : 0 < x) : od x % 2 = 1 := by
  obtain ⟨j, hj⟩ := tz_spec h0
  unfold od
  have hp : 0 < 2 ^ tz x := Nat.pow_pos (by decide)
  have e : x / 2 ^ tz x = 2 * j + 1 := by
    generalize 2 ^ tz x = p at *
    rw [hj, Nat.mul_div_cancel_left _ hp]
  omega
theorem od_le {x : Nat} : od x ≤ x := Nat.div_le_self _ _
def fl8 (m : Nat) (s : Int) : Int := if m % 8 = 3 ∨ m % 8 = 5 then -s else s
def fl4 (x m : Nat) (s : Int) : Int := if x % 4 = 3 ∧ m % 4 = 3 then -s else s
def flt (x m : Nat) (s : Int) : Int := if tz x % 2 = 1 then fl8 m s else s
/-- The symbol, by reciprocity. -/
def jf (x m : Nat) (s : Int) : Int := if h : x = 0 then (if m = 1 then s else 0) else jf (m % od x) (od x) (fl4 (od x) m (flt x m s))
termination_by x
decreasing_by
  have h1 := od_mod (x := x) (by omega)
  have h2 := @od_le x
  have h3 := Nat.mod_lt m (show 0 < od x by omega)
  omega
/-- The lowest 1 of a word. -/
theorem low_one {x : Nat} (h0 : 0 < x) (h : x < 2 ^ 64) : x &&& (2 ^ 64 - x) = 2 ^ tz x := by
  obtain ⟨j, hj⟩ := tz_spec h0
  apply Nat.eq_of_testBit_eq
  intro i
  have e : 2 ^ 64 - x = 2 ^ 64 - (x - 1 + 1) := by omega
  rw [Nat.testBit_and, e, Nat.testBit_two_pow_sub_succ (by omega), Nat.testBit_two_pow]
  generalize tz x = k at *
  have hp : 0 < 2 ^ k := Nat.pow_pos (by decide)
  rcases Nat.lt_trichotomy i k with h1 | h1 | h1
  · rw [hj, Nat.testBit_two_pow_mul]
    simp [show ¬ k ≤ i by omega, show ¬ k = i by omega]
  · subst h1
    have e1 : x - 1 = 2 ^ i * (2 * j) + (2 ^ i - 1) := by rw [hj, Nat.mul_add, Nat.mul_one]; omega
    rw [e1, Nat.testBit_two_pow_mul_add _ (by omega), if_neg (by omega), Nat.sub_self, hj, Nat.testBit_two_pow_mul]
    have hi : i < 64 := by
      rcases Nat.lt_or_ge i 64 with h2 | h2
      · exact h2
      · have h3 := Nat.pow_le_pow_right (n := 2) (by decide) h2
        have h4 : 2 ^ i * 1 ≤ 2 ^ i * (2 * j + 1) := Nat.mul_le_mul_left _ (by omega)
        omega
    simp [hi]
  · have e1 : x - 1 = 2 ^ k * (2 * j) + (2 ^ k - 1) := by rw [hj, Nat.mul_add, Nat.mul_one]; omega
    rw [e1, Nat.testBit_two_pow_mul_add _ (by omega), if_neg (by omega), hj, Nat.testBit_two_pow_mul]
    have e2 : (2 * j + 1).testBit (i - k) = (2 * j).testBit (i - k) := by
      obtain ⟨m, hm⟩ : ∃ m, i - k = m + 1 := ⟨i - k - 1, by omega⟩
      rw [hm, Nat.testBit_succ, Nat.testBit_succ]
      congr 1
      omega
    simp [show k ≤ i by omega, show ¬ k = i by omega, e2]
    intro h8 _; exact h8
def tzTab : List Int := [0, 1, 56, 2, 57, 49, 28, 3, 61, 58, 42, 50, 38, 29, 17, 4, 62, 47, 59, 36, 45, 43, 51, 22, 53, 39, 33, 30, 24, 18, 12, 5, 63, 55, 48, 27, 60, 41, 37, 16, 46, 35, 44, 21, 52, 32, 23, 11, 54, 26, 40, 15, 34, 20, 31, 10, 25, 14, 19, 9, 13, 8, 7, 6]
theorem tz_tabB : ((List.range 64).all fun k => Nat.blt (2 ^ k * 285870213051353865 % 18446744073709551616 / 288230376151711744) 64 && decide (tzTab.getD (2 ^ k * 285870213051353865 % 18446744073709551616 / 288230376151711744) 0 = Int.ofNat k)) = true := by decide +kernel
theorem tz_tab (k : Nat) (h : k < 64) : 2 ^ k * 285870213051353865 % 18446744073709551616 / 288230376151711744 < 64 ∧ tzTab.getD (2 ^ k * 285870213051353865 % 18446744073709551616 / 288230376151711744) 0 = (k : Int) := by
  have h1 := List.all_eq_true.1 tz_tabB k (List.mem_range.2 h)
  rw [Bool.and_eq_true] at h1
  exact ⟨Nat.le_of_ble_eq_true h1.1, of_decide_eq_true h1.2⟩
abbrev tzCells : List V := ints .u8 tzTab
theorem low_one' {x : Nat} (h0 : 0 < x) (h : x < 18446744073709551616) : x &&& (18446744073709551616 - x) = 2 ^ tz x := low_one h0 h
theorem tz_p2 {x : Nat} (h0 : 0 < x) (h : x < 18446744073709551616) : tz x < 64 ∧ 2 ^ tz x < 18446744073709551616 := by
  have h1 : tz x < 64 := tz_lt h0 h
  have h2 := Nat.pow_lt_pow_right (a := 2) (by decide) h1
  exact ⟨h1, h2⟩
theorem ints_cell {l : List Int} {j : Nat} {v : Int} (h1 : j < l.length) (h2 : l.getD j 0 = v) : ((ints .u8 l).drop (j * 1))[0]? = some (V.i .u8 v) := by
  rw [List.getElem?_drop, Nat.mul_one, Nat.add_zero, ints_at, List.getElem?_eq_getElem h1]
  rw [List.getD_eq_getElem?_getD, List.getElem?_eq_getElem h1] at h2
  rw [← h2]; rfl
theorem tz_len : tzTab.length = 64 := by decide
theorem tz_cell {k : Nat} (h : k < 64) : (tzCells.drop (2 ^ k * 285870213051353865 % 18446744073709551616 / 288230376151711744 * 1))[0]? = some (.i .u8 (k : Int)) :=
  ints_cell (by rw [tz_len]; exact (tz_tab k h).1) (tz_tab k h).2
theorem and_nat {a b : Nat} (ha : a < 18446744073709551616) (hb : b < 18446744073709551616) : bitop .and .u64 (a : Int) (b : Int) = ((a &&& b : Nat) : Int) := by
  unfold bitop
  simp only [IntKind.bits]
  have e1 : (BitVec.ofInt 64 (a : Int)).toNat = a := by rw [BitVec.toNat_ofInt]; simp; omega
  have e2 : (BitVec.ofInt 64 (b : Int)).toNat = b := by rw [BitVec.toNat_ofInt]; simp; omega
  have e3 : (BitVec.ofInt 64 (a : Int) &&& BitVec.ofInt 64 (b : Int)).toNat = a &&& b := by rw [BitVec.toNat_and, e1, e2]
  show IntKind.u64.wrap (((BitVec.ofInt 64 (a : Int) &&& BitVec.ofInt 64 (b : Int)).toNat : Nat) : Int) = _
  rw [e3]
  have h := Nat.and_le_left (n := a) (m := b)
  exact wrap_u64 (by omega) (by omega)
/-- The noughts at the end, limb by limb. -/
theorem tz_word {x r : Nat} (h0 : 0 < x) (h : x < 2 ^ 64) : tz (x + 2 ^ 64 * r) = tz x := by
  obtain ⟨j, hj⟩ := tz_spec h0
  have hk := tz_lt h0 h
  generalize tz x = k at *
  have e : x + 2 ^ 64 * r = 2 ^ k * (2 * (j + 2 ^ (63 - k) * r) + 1) := by
    have e1 : (2 : Nat) ^ 64 = 2 ^ k * (2 * 2 ^ (63 - k)) := by rw [← Nat.pow_succ', ← Nat.pow_add]; congr 1; omega
    rw [hj, e1, Nat.mul_assoc, ← Nat.mul_add]
    congr 1
    rw [Nat.mul_add, Nat.mul_assoc]
    omega
  rw [e, tz_is]
theorem tz_zero {y : Nat} (h0 : 0 < y) : tz (2 ^ 64 * y) = 64 + tz y := by
  obtain ⟨j, hj⟩ := tz_spec h0
  have e : 2 ^ 64 * y = 2 ^ (64 + tz y) * (2 * j + 1) := by rw [Nat.pow_add, Nat.mul_assoc, ← hj]
  rw [e, tz_is]
theorem tail_val : ∀ {l : List Int} {i : Nat}, u64s l → i < l.length → (∀ j < i, l.getD j 0 = 0) → l.getD i 0 ≠ 0 → tz (vl l).toNat = 64 * i + tz (l.getD i 0).toNat
  | [], i, _, hi, _, _ => by simp at hi
  | y :: l, 0, hu, _, _, hx => by
    have hy := hu y (List.mem_cons_self ..)
    have hl := vl_nonneg fun z hz => hu z (List.mem_cons_of_mem _ hz)
    have hx' : y ≠ 0 := hx
    have e : (vl (y :: l)).toNat = y.toNat + 2 ^ 64 * (vl l).toNat := by
      simp only [vl]
      have hB : Bs = 18446744073709551616 := rfl
      rw [hB]
      omega
    rw [e, tz_word (by omega) (by omega)]
    show _ = 64 * 0 + tz y.toNat
    omega
  | y :: l, i + 1, hu, hi, hz, hx => by
    have hy : y = 0 := hz 0 (by omega)
    have hu' : u64s l := fun z hzm => hu z (List.mem_cons_of_mem _ hzm)
    have hl := vl_nonneg hu'
    have hi' : i < l.length := by simpa using hi
    have hxi : l.getD i 0 ≠ 0 := hx
    have ih := tail_val (l := l) (i := i) hu' hi' (fun j hj => hz (j + 1) (by omega)) hxi
    have hp : 0 < (vl l).toNat := by
      rcases Nat.eq_zero_or_pos (vl l).toNat with h0 | h0
      · have h1 := row_at hu' i
        rw [h0] at h1
        simp at h1
        exact absurd h1 hxi
      · exact h0
    have e : (vl (y :: l)).toNat = 2 ^ 64 * (vl l).toNat := by
      simp only [vl]
      have hB : Bs = 18446744073709551616 := rfl
      rw [hB, hy]
      omega
    rw [e, tz_zero hp, ih]
    show _ = 64 * (i + 1) + tz (l.getD i 0).toNat
    omega
theorem tail_none {l : List Int} (hu : u64s l) (hz : ∀ j < l.length, l.getD j 0 = 0) : vl l = 0 := by
  induction l with
  | nil => rfl
  | cons y l ih =>
    have hy : y = 0 := hz 0 (by simp)
    have h := ih (fun z hzm => hu z (List.mem_cons_of_mem _ hzm)) fun j hj => hz (j + 1) (by simpa using hj)
    simp only [vl]
    rw [hy, h]
    rfl
end Go.Proofs.YtaogaegchagbfaaDoor.Vc

/- Bits of naturals and of two's complement, in plain Lean. -/
namespace Go.Proofs.YtaogaegchagbfaaDoor.Vc
open Go Go.RowKit
def dgl (z j : Nat) : Int := ((z / 2 ^ (64 * j) % 2 ^ 64 : Nat) : Int)
def dll (z m : Nat) : List Int := (List.range m).map (dgl z)
theorem dll_len (z m : Nat) : (dll z m).length = m := by simp [dll]
theorem dll_succ (z m : Nat) : dll z (m + 1) = dll z m ++ [dgl z m] := by simp [dll, List.range_succ]
theorem dgl_bd (z j : Nat) : 0 ≤ dgl z j ∧ dgl z j < 18446744073709551616 := by
  unfold dgl
  have h := Nat.mod_lt (z / 2 ^ (64 * j)) (show 0 < 2 ^ 64 by decide)
  have e : (2 : Nat) ^ 64 = 18446744073709551616 := by decide
  omega
theorem dll_u (z m : Nat) : u64s (dll z m) := fun x hx => by
  obtain ⟨j, _, rfl⟩ := List.mem_map.1 hx
  exact dgl_bd z j
theorem dll_vl (z : Nat) : ∀ m, vl (dll z m) = ((z % 2 ^ (64 * m) : Nat) : Int)
  | 0 => by simp [dll, vl, Nat.mod_one]
  | m + 1 => by
    rw [dll_succ, vl_app, dll_len, dll_vl z m, pB_pow, show vl [dgl z m] = dgl z m by simp [vl]]
    unfold dgl
    rw [show 64 * (m + 1) = 64 * m + 64 by omega, Nat.pow_add, Nat.mod_mul, Int.natCast_add, Int.natCast_mul]
theorem dll_trm {z m : Nat} (h : z < 2 ^ (64 * m)) : trm (dll z m) = lm (z : Int) := trm_lm (dll_u z m) (by rw [dll_vl, Nat.mod_eq_of_lt h])
theorem fill_dll {z i n : Nat} (h : i < n) : (fillI (dll z i) n).set ((0 + i) * 1) (dgl z i) = fillI (dll z (i + 1)) n := by
  have := fillI_set (l := dll z i) (n := n) (v := dgl z i) (by rw [dll_len]; exact h)
  rw [dll_len] at this
  rw [Nat.zero_add, Nat.mul_one, this, dll_succ]
theorem dll_0 {z n : Nat} : fillI (dll z 0) n = List.replicate n 0 := by unfold fillI dll; simp
theorem dll_fl {z i n : Nat} (h : i ≤ n) : (fillI (dll z i) n).length = n := fillI_len (by rw [dll_len]; exact h)
theorem dll_all {z n : Nat} : fillI (dll z n) n = dll z n := fillI_full (dll_len z n)
theorem lm_at (x i : Nat) : (lm (x : Int)).getD i 0 = dgl x i := by
  have h := row_at (lm_u (x : Int)) i
  rw [vl_lm (Int.natCast_nonneg _), Int.toNat_natCast] at h
  rw [h]
  unfold dgl
  rw [Nat.pow_mul]
theorem lm_lt (x : Nat) : x < 2 ^ (64 * (lm (x : Int)).length) := by
  have h := vl_lt (lm_u (x : Int))
  rw [vl_lm (Int.natCast_nonneg _), pB_pow] at h
  exact Int.ofNat_lt.1 h
theorem lm_lt2 {x n : Nat} (h : (lm (x : Int)).length ≤ n) : x < 2 ^ (64 * n) := Nat.lt_of_lt_of_le (lm_lt x) (Nat.pow_le_pow_right (by decide) (by omega))
theorem lenV_pow2 {z n : Nat} (h : z < 2 ^ n) : lenV (z : Int) ≤ n := nbits_le.2 (by rw [Int.natAbs_natCast]; exact h)
theorem lt_lenV (x : Nat) : x < 2 ^ lenV (x : Int) := by
  have := nbits_le.1 (Nat.le_refl (lenV (x : Int)))
  rwa [Int.natAbs_natCast] at this
theorem dgl_and (x y i : Nat) : bitop .and .u64 (dgl x i) (dgl y i) = dgl (x &&& y) i := by
  unfold dgl
  have h1 := Nat.mod_lt (x / 2 ^ (64 * i)) (show 0 < 2 ^ 64 by decide)
  have h2 := Nat.mod_lt (y / 2 ^ (64 * i)) (show 0 < 2 ^ 64 by decide)
  have e : (2 : Nat) ^ 64 = 18446744073709551616 := by decide
  rw [and_nat (by omega) (by omega), Nat.and_div_two_pow, Nat.and_mod_two_pow]
theorem or_nat {a b : Nat} (ha : a < 18446744073709551616) (hb : b < 18446744073709551616) : bitop .or .u64 (a : Int) (b : Int) = ((a ||| b : Nat) : Int) := by
  unfold bitop
  simp only [IntKind.bits]
  have e1 : (BitVec.ofInt 64 (a : Int)).toNat = a := by rw [BitVec.toNat_ofInt]; simp; omega
  have e2 : (BitVec.ofInt 64 (b : Int)).toNat = b := by rw [BitVec.toNat_ofInt]; simp; omega
  have e3 : (BitVec.ofInt 64 (a : Int) ||| BitVec.ofInt 64 (b : Int)).toNat = a ||| b := by rw [BitVec.toNat_or, e1, e2]
  show IntKind.u64.wrap (((BitVec.ofInt 64 (a : Int) ||| BitVec.ofInt 64 (b : Int)).toNat : Nat) : Int) = _
  rw [e3]
  have h : a ||| b < 2 ^ 64 := Nat.or_lt_two_pow ha hb
  have e : (2 : Nat) ^ 64 = 18446744073709551616 := by decide
  exact wrap_u64 (by omega) (by omega)
theorem dgl_or (x y i : Nat) : bitop .or .u64 (dgl x i) (dgl y i) = dgl (x ||| y) i := by
  unfold dgl
  have h1 := Nat.mod_lt (x / 2 ^ (64 * i)) (show 0 < 2 ^ 64 by decide)
  have h2 := Nat.mod_lt (y / 2 ^ (64 * i)) (show 0 < 2 ^ 64 by decide)
  have e : (2 : Nat) ^ 64 = 18446744073709551616 := by decide
  rw [or_nat (by omega) (by omega), Nat.or_div_two_pow, Nat.or_mod_two_pow]
theorem xor_nat {a b : Nat} (ha : a < 18446744073709551616) (hb : b < 18446744073709551616) : bitop .xor .u64 (a : Int) (b : Int) = ((a ^^^ b : Nat) : Int) := by
  unfold bitop
  simp only [IntKind.bits]
  have e1 : (BitVec.ofInt 64 (a : Int)).toNat = a := by rw [BitVec.toNat_ofInt]; simp; omega
  have e2 : (BitVec.ofInt 64 (b : Int)).toNat = b := by rw [BitVec.toNat_ofInt]; simp; omega
  have e3 : (BitVec.ofInt 64 (a : Int) ^^^ BitVec.ofInt 64 (b : Int)).toNat = a ^^^ b := by rw [BitVec.toNat_xor, e1, e2]
  show IntKind.u64.wrap (((BitVec.ofInt 64 (a : Int) ^^^ BitVec.ofInt 64 (b : Int)).toNat : Nat) : Int) = _
  rw [e3]
  have h : a ^^^ b < 2 ^ 64 := Nat.xor_lt_two_pow ha hb
  have e : (2 : Nat) ^ 64 = 18446744073709551616 := by decide
  exact wrap_u64 (by omega) (by omega)
theorem dgl_xor (x y i : Nat) : bitop .xor .u64 (dgl x i) (dgl y i) = dgl (x ^^^ y) i := by
  unfold dgl
  have h1 := Nat.mod_lt (x / 2 ^ (64 * i)) (show 0 < 2 ^ 64 by decide)
  have h2 := Nat.mod_lt (y / 2 ^ (64 * i)) (show 0 < 2 ^ 64 by decide)
  have e : (2 : Nat) ^ 64 = 18446744073709551616 := by decide
  rw [xor_nat (by omega) (by omega), Nat.xor_div_two_pow, Nat.xor_mod_two_pow]
/-- The bits of two's complement. -/
def tw (v : Int) : Nat := if v < 0 then (-v - 1).toNat else v.toNat
theorem tw_p {v : Int} (h : 0 ≤ v) : tw v = v.toNat := by unfold tw; rw [if_neg (by omega)]
theorem tw_n {v : Int} (h : v < 0) : tw v = (-v - 1).toNat := by unfold tw; rw [if_pos h]
def andI (v w : Int) : Int :=
  if v < 0 then (if w < 0 then -((tw v ||| tw w : Nat) : Int) - 1 else ((tw w ^^^ (tw w &&& tw v) : Nat) : Int))
  else (if w < 0 then ((tw v ^^^ (tw v &&& tw w) : Nat) : Int) else ((tw v &&& tw w : Nat) : Int))
def orI (v w : Int) : Int :=
  if v < 0 then (if w < 0 then -((tw v &&& tw w : Nat) : Int) - 1 else -((tw v ^^^ (tw v &&& tw w) : Nat) : Int) - 1)
  else (if w < 0 then -((tw w ^^^ (tw w &&& tw v) : Nat) : Int) - 1 else ((tw v ||| tw w : Nat) : Int))
def xoI (v w : Int) : Int := if (decide (v < 0) != decide (w < 0)) = true then -((tw v ^^^ tw w : Nat) : Int) - 1 else ((tw v ^^^ tw w : Nat) : Int)
theorem tz_ge {x n : Nat} (h : 0 < x) : n ≤ tz x ↔ 2 ^ n ∣ x := by
  obtain ⟨j, hj⟩ := tz_spec h
  constructor
  · intro h1
    refine Nat.dvd_trans (Nat.pow_dvd_pow 2 h1) ⟨2 * j + 1, hj⟩
  · intro h1
    rcases Nat.lt_or_ge (tz x) n with h2 | h2
    · exfalso
      have h3 : 2 ^ (tz x + 1) ∣ x := Nat.dvd_trans (Nat.pow_dvd_pow 2 h2) h1
      obtain ⟨m, hm⟩ := h3
      have hp : 0 < 2 ^ tz x := Nat.pow_pos (by decide)
      have e : 2 ^ tz x * (2 * m) = 2 ^ tz x * (2 * j + 1) := by rw [← Nat.mul_assoc, ← Nat.pow_succ, ← hm, ← hj]
      have := Nat.eq_of_mul_eq_mul_left hp e
      omega
    · exact h2
/-- A bit of two's complement. -/
def bitI (v : Int) (i : Nat) : Int := if v < 0 then 1 - ((tw v / 2 ^ i % 2 : Nat) : Int) else ((tw v / 2 ^ i % 2 : Nat) : Int)
theorem tw_shr {v : Int} {n : Nat} : (v / ((2 ^ n : Nat) : Int) < 0 ↔ v < 0) ∧ tw (v / ((2 ^ n : Nat) : Int)) = tw v / 2 ^ n := by
  have hp : 0 < 2 ^ n := Nat.pow_pos (by decide)
  generalize 2 ^ n = p at *
  rcases (show v < 0 ∨ 0 ≤ v by omega) with h | h
  · have e : v / (p : Int) = -((((-v - 1).toNat / p : Nat) : Int)) - 1 := by
      obtain ⟨m, hm⟩ : ∃ m : Nat, v = -(m : Int) - 1 := ⟨(-v - 1).toNat, by omega⟩
      subst hm
      rw [show (-(-(m : Int) - 1) - 1).toNat = m by omega]
      have h1 := Nat.div_add_mod m p
      have h2 := Nat.mod_lt m hp
      have e2 : (-(m : Int) - 1) = ((p - 1 - m % p : Nat) : Int) + (p : Int) * (-((m / p : Nat) : Int) - 1) := by
        rw [Int.mul_sub, Int.mul_neg, Int.mul_one, ← Int.natCast_mul]
        omega
      rw [e2, Int.add_mul_ediv_left _ _ (by omega), Int.ediv_eq_zero_of_lt (by omega) (by omega)]
      omega
    have h3 := tw_n h
    rw [h3]
    generalize (-v - 1).toNat / p = q at *
    refine ⟨⟨fun _ => h, fun _ => by rw [e]; omega⟩, ?_⟩
    rw [tw_n (by rw [e]; omega), e]
    omega
  · have h1 : 0 ≤ v / (p : Int) := Int.ediv_nonneg h (by omega)
    refine ⟨⟨fun h2 => by omega, fun h2 => by omega⟩, ?_⟩
    rw [tw_p h, tw_p h1]
    obtain ⟨m, rfl⟩ := Int.eq_ofNat_of_zero_le h
    rfl
end Go.Proofs.YtaogaegchagbfaaDoor.Vc

/- A number is the sum of its bits, in plain Lean. -/
namespace Go.Proofs.YtaogaegchagbfaaDoor.Vc
open Go Go.RowKit
def bitN (v : Int) (i : Nat) : Nat := if v < 0 then 1 - tw v / 2 ^ i % 2 else tw v / 2 ^ i % 2
theorem bitN_le (v : Int) (i : Nat) : bitN v i ≤ 1 := by
  have := Nat.mod_lt (tw v / 2 ^ i) (show 0 < 2 by decide)
  unfold bitN; split <;> omega
theorem bitI_N (v : Int) (i : Nat) : bitI v i = ((bitN v i : Nat) : Int) := by
  have := Nat.mod_lt (tw v / 2 ^ i) (show 0 < 2 by decide)
  unfold bitI bitN; split <;> omega
def sgN (v : Int) : Nat := if v < 0 then 1 else 0
theorem bitN_shr (v : Int) (i : Nat) : bitN v i = (v / ((2 ^ i : Nat) : Int) % 2).toNat := by
  obtain ⟨h1, h2⟩ := @tw_shr v i
  generalize hy : v / ((2 ^ i : Nat) : Int) = y at *
  unfold bitN
  rw [← h2]
  by_cases h : v < 0
  · have h3 := h1.2 h
    rw [if_pos h, tw_n h3]
    omega
  · have h3 : 0 ≤ y := by
      rcases (show y < 0 ∨ 0 ≤ y by omega) with h4 | h4
      · exact absurd (h1.1 h4) h
      · exact h4
    rw [if_neg h, tw_p h3]
    omega
/-- The lowest bits, as a natural. -/
def zS (z : Int) (i : Nat) : Nat := (z % ((2 ^ i : Nat) : Int)).toNat
theorem zS_0 (z : Int) : zS z 0 = 0 := by unfold zS; rw [show ((2 ^ 0 : Nat) : Int) = 1 from rfl, Int.emod_one]; rfl
theorem zS_lt (z : Int) (i : Nat) : zS z i < 2 ^ i := by
  have hp : 0 < 2 ^ i := Nat.pow_pos (by decide)
  have h1 := Int.emod_nonneg z (show ((2 ^ i : Nat) : Int) ≠ 0 by omega)
  have h2 := Int.emod_lt_of_pos z (show (0 : Int) < ((2 ^ i : Nat) : Int) by omega)
  unfold zS
  generalize 2 ^ i = p at *
  omega
theorem zS_s (z : Int) (i : Nat) : zS z (i + 1) = zS z i + bitN z i * 2 ^ i := by
  have hp : 0 < 2 ^ i := Nat.pow_pos (by decide)
  rw [bitN_shr]
  unfold zS
  rw [Nat.pow_succ]
  generalize 2 ^ i = p at *
  have h0 := Int.emod_add_mul_ediv z (p : Int)
  have h1 := Int.emod_nonneg z (show (p : Int) ≠ 0 by omega)
  have h2 := Int.emod_lt_of_pos z (show (0 : Int) < (p : Int) by omega)
  generalize z % (p : Int) = r at *
  generalize hq : z / (p : Int) = q at *
  have e1 : q = 2 * (q / 2) + q % 2 := by omega
  have e2 : z = (r + (p : Int) * (q % 2)) + ((p * 2 : Nat) : Int) * (q / 2) := by
    have e3 : (p : Int) * q = (p : Int) * (q % 2) + ((p * 2 : Nat) : Int) * (q / 2) := by
      rw [Int.natCast_mul, Int.mul_assoc, ← Int.mul_add]
      congr 1
      omega
    omega
  have h3 : 0 ≤ q % 2 := by omega
  have h4 : q % 2 ≤ 1 := by omega
  have h5 : 0 ≤ (p : Int) * (q % 2) := Int.mul_nonneg (by omega) h3
  have h6 : (p : Int) * (q % 2) ≤ (p : Int) * 1 := Int.mul_le_mul_of_nonneg_left h4 (by omega)
  have h7 : z % ((p * 2 : Nat) : Int) = r + (p : Int) * (q % 2) := by
    conv => lhs; rw [e2]
    rw [Int.add_mul_emod_self_left]
    refine Int.emod_eq_of_lt (by omega) ?_
    rw [Int.natCast_mul]
    omega
  rw [h7]
  rcases (show q % 2 = 0 ∨ q % 2 = 1 by omega) with h8 | h8 <;> rw [h8]
  · simp
  · simp; omega
/-- A number by its lowest bits. -/
theorem zS_end {z : Int} {n : Nat} (h : lenV z ≤ n) : z = ((zS z n : Nat) : Int) - (if z < 0 then ((2 ^ n : Nat) : Int) else 0) := by
  have h1 : z.natAbs < 2 ^ n := nbits_le.1 h
  unfold zS
  generalize 2 ^ n = p at *
  split
  · have e : z % (p : Int) = z + (p : Int) := by
      have e2 : z = (z + (p : Int)) + (p : Int) * (-1) := by omega
      conv => lhs; rw [e2]
      rw [Int.add_mul_emod_self_left]
      exact Int.emod_eq_of_lt (by omega) (by omega)
    rw [e]; omega
  · rw [Int.emod_eq_of_lt (by omega) (by omega)]; omega
theorem dgl_hi {z j i : Nat} (h : z < 2 ^ i) (hj : i ≤ 64 * j) : dgl z j = 0 := by
  unfold dgl
  rw [Nat.div_eq_of_lt (Nat.lt_of_lt_of_le h (Nat.pow_le_pow_right (by decide) hj))]
  rfl
theorem dgl_add {z b i j : Nat} (hz : z < 2 ^ i) (hb : b ≤ 1) : dgl (z + b * 2 ^ i) j = if j = i / 64 then dgl z j + ((b * 2 ^ (i % 64) : Nat) : Int) else dgl z j := by
  have hp : 0 < 2 ^ (64 * j) := Nat.pow_pos (by decide)
  rcases Nat.lt_trichotomy j (i / 64) with h | h | h
  · rw [if_neg (by omega)]
    unfold dgl
    have e : b * 2 ^ i = 2 ^ (64 * j) * (b * 2 ^ (i - 64 * j)) := by
      rw [Nat.mul_left_comm, ← Nat.pow_add]; congr 2; omega
    have e2 : b * 2 ^ (i - 64 * j) = 2 ^ 64 * (b * 2 ^ (i - 64 * j - 64)) := by
      rw [Nat.mul_left_comm, ← Nat.pow_add]; congr 2; omega
    rw [e, Nat.add_mul_div_left _ _ hp, e2, Nat.add_mul_mod_self_left]
  · subst h
    rw [if_pos rfl]
    unfold dgl
    have e : b * 2 ^ i = 2 ^ (64 * (i / 64)) * (b * 2 ^ (i % 64)) := by
      rw [Nat.mul_left_comm, ← Nat.pow_add]; congr 2; omega
    have h1 : z / 2 ^ (64 * (i / 64)) < 2 ^ (i % 64) := by
      rw [Nat.div_lt_iff_lt_mul hp, ← Nat.pow_add, show i % 64 + 64 * (i / 64) = i by omega]
      exact hz
    have h2 : 2 ^ (i % 64) * 2 ≤ 2 ^ 64 := by
      rw [← Nat.pow_succ]
      exact Nat.pow_le_pow_right (by decide) (by omega)
    rw [e, Nat.add_mul_div_left _ _ hp]
    generalize z / 2 ^ (64 * (i / 64)) = y at *
    have h3 : b * 2 ^ (i % 64) ≤ 1 * 2 ^ (i % 64) := Nat.mul_le_mul_right _ hb
    rw [Nat.mod_eq_of_lt (a := y) (by omega), Nat.mod_eq_of_lt (by omega)]
    omega
  · have h1 : z < 2 ^ (i + 1) := Nat.lt_trans hz (Nat.pow_lt_pow_right (by decide) (by omega))
    have h2 : z + b * 2 ^ i < 2 ^ (i + 1) := by
      have h3 : b * 2 ^ i ≤ 1 * 2 ^ i := Nat.mul_le_mul_right _ hb
      rw [Nat.pow_succ]; omega
    rw [if_neg (by omega), dgl_hi h1 (by omega), dgl_hi h2 (by omega)]
theorem dll_at {z j m : Nat} (h : j < m) : (dll z m).getD j 0 = dgl z j := by
  unfold dll
  rw [List.getD_eq_getElem?_getD, List.getElem?_map, List.getElem?_range h]
  rfl
theorem dll_add {z b i m : Nat} (hz : z < 2 ^ i) (hb : b ≤ 1) (hm : i / 64 < m) : (dll z m).set ((0 + i / 64) * 1) (dgl z (i / 64) + ((b * 2 ^ (i % 64) : Nat) : Int)) = dll (z + b * 2 ^ i) m := by
  rw [Nat.zero_add, Nat.mul_one]
  apply List.ext_getElem?
  intro j
  by_cases hj : j < m
  · have h1 : (dll (z + b * 2 ^ i) m)[j]? = some (dgl (z + b * 2 ^ i) j) := by unfold dll; rw [List.getElem?_map, List.getElem?_range hj]; rfl
    have h2 : (dll z m)[j]? = some (dgl z j) := by unfold dll; rw [List.getElem?_map, List.getElem?_range hj]; rfl
    rw [h1, dgl_add hz hb]
    by_cases e : j = i / 64
    · subst e
      rw [if_pos rfl, List.getElem?_set_self (by rw [dll_len]; exact hm)]
    · rw [if_neg e, List.getElem?_set_ne (fun h => e h.symm), h2]
  · rw [List.getElem?_eq_none (by rw [List.length_set, dll_len]; omega), List.getElem?_eq_none (by rw [dll_len]; omega)]
theorem dgl_bit {z b i : Nat} (hz : z < 2 ^ i) (hb : b ≤ 1) : dgl z (i / 64) + ((b * 2 ^ (i % 64) : Nat) : Int) < 18446744073709551616 := by
  have h1 := dgl_add (j := i / 64) hz hb
  rw [if_pos rfl] at h1
  rw [← h1]
  exact (dgl_bd _ _).2
theorem dll_z (m : Nat) : dll 0 m = List.replicate m 0 := by
  apply List.ext_getElem?
  intro j
  unfold dll
  by_cases hj : j < m
  · rw [List.getElem?_map, List.getElem?_range hj, List.getElem?_replicate, if_pos hj]
    simp [dgl]
  · rw [List.getElem?_eq_none (by simp; omega), List.getElem?_replicate, if_neg hj]
/-- The bits of a number made bit by bit. -/
theorem bit_and (x y i : Nat) : (x &&& y) / 2 ^ i % 2 = (x / 2 ^ i % 2) * (y / 2 ^ i % 2) := by
  rw [Nat.and_div_two_pow]
  have h := @Nat.and_mod_two_eq_one (x / 2 ^ i) (y / 2 ^ i)
  rcases Nat.mod_two_eq_zero_or_one (x / 2 ^ i) with p | p <;> rcases Nat.mod_two_eq_zero_or_one (y / 2 ^ i) with q | q <;> rw [p, q] <;> omega
theorem bit_or (x y i : Nat) : (x ||| y) / 2 ^ i % 2 = max (x / 2 ^ i % 2) (y / 2 ^ i % 2) := by
  rw [Nat.or_div_two_pow]
  have h := @Nat.or_mod_two_eq_one (x / 2 ^ i) (y / 2 ^ i)
  rcases Nat.mod_two_eq_zero_or_one (x / 2 ^ i) with p | p <;> rcases Nat.mod_two_eq_zero_or_one (y / 2 ^ i) with q | q <;> rw [p, q] <;> omega
theorem bit_xor (x y i : Nat) : (x ^^^ y) / 2 ^ i % 2 = (x / 2 ^ i % 2 + y / 2 ^ i % 2) % 2 := by
  rw [Nat.xor_div_two_pow]
  have h := @Nat.xor_mod_two_eq_one (x / 2 ^ i) (y / 2 ^ i)
  rcases Nat.mod_two_eq_zero_or_one (x / 2 ^ i) with p | p <;> rcases Nat.mod_two_eq_zero_or_one (y / 2 ^ i) with q | q <;> rw [p, q] <;> omega
theorem tw_nat (n : Nat) : tw ((n : Nat) : Int) = n := by unfold tw; rw [if_neg (by omega)]; rfl
theorem tw_neg (n : Nat) : tw (-((n : Nat) : Int) - 1) = n := by unfold tw; rw [if_pos (by omega)]; omega
theorem bitN_nat (n i : Nat) : bitN ((n : Nat) : Int) i = n / 2 ^ i % 2 := by unfold bitN; rw [if_neg (by omega), tw_nat]
theorem bitN_neg (n i : Nat) : bitN (-((n : Nat) : Int) - 1) i = 1 - n / 2 ^ i % 2 := by unfold bitN; rw [if_pos (by omega), tw_neg]
theorem one_at (x y : Nat) (hx : x ≤ 1) (hy : y ≤ 1) : 8 / 2 ^ (2 * x + y) % 2 = x * y ∧ 14 / 2 ^ (2 * x + y) % 2 = max x y ∧ 6 / 2 ^ (2 * x + y) % 2 = (x + y) % 2 := by
  rcases (show x = 0 ∨ x = 1 by omega) with rfl | rfl <;> rcases (show y = 0 ∨ y = 1 by omega) with rfl | rfl <;> decide
theorem ones (v w : Int) (i : Nat) : 8 / 2 ^ (2 * bitN v i + bitN w i) % 2 = bitN (andI v w) i ∧ 14 / 2 ^ (2 * bitN v i + bitN w i) % 2 = bitN (orI v w) i ∧ 6 / 2 ^ (2 * bitN v i + bitN w i) % 2 = bitN (xoI v w) i := by
  have h := one_at (bitN v i) (bitN w i) (bitN_le v i) (bitN_le w i)
  rw [h.1, h.2.1, h.2.2]
  have hx := Nat.mod_lt (tw v / 2 ^ i) (show 0 < 2 by decide)
  have hy := Nat.mod_lt (tw w / 2 ^ i) (show 0 < 2 by decide)
  have b1 := bit_and (tw v) (tw w) i
  have b2 := bit_or (tw v) (tw w) i
  have b3 := bit_xor (tw v) (tw w) i
  have b4 := bit_xor (tw v) (tw v &&& tw w) i
  have b5 := bit_xor (tw w) (tw w &&& tw v) i
  have b6 := bit_and (tw w) (tw v) i
  unfold andI orI xoI
  have hv : bitN v i = if v < 0 then 1 - tw v / 2 ^ i % 2 else tw v / 2 ^ i % 2 := rfl
  have hw : bitN w i = if w < 0 then 1 - tw w / 2 ^ i % 2 else tw w / 2 ^ i % 2 := rfl
  rw [hv, hw]
  by_cases p : v < 0 <;> by_cases q : w < 0 <;> simp only [p, q, if_true, if_false, decide_true, decide_false, bne_self_eq_false, Bool.false_eq_true, bne, Bool.not_true, Bool.not_false, bitN_neg, bitN_nat, b1, b2, b3, b4, b5, b6] <;>
    rcases (show tw v / 2 ^ i % 2 = 0 ∨ tw v / 2 ^ i % 2 = 1 by omega) with e | e <;> rcases (show tw w / 2 ^ i % 2 = 0 ∨ tw w / 2 ^ i % 2 = 1 by omega) with f | f <;> simp [e, f, bitN_nat, bitN_neg, b1, b2, b3, b4, b5, b6]
theorem ones_sg (v w : Int) : 8 / 2 ^ (2 * sgN v + sgN w) % 2 = sgN (andI v w) ∧ 14 / 2 ^ (2 * sgN v + sgN w) % 2 = sgN (orI v w) ∧ 6 / 2 ^ (2 * sgN v + sgN w) % 2 = sgN (xoI v w) := by
  unfold sgN andI orI xoI
  by_cases p : v < 0 <;> by_cases q : w < 0 <;> simp [p, q] <;> omega
end Go.Proofs.YtaogaegchagbfaaDoor.Vc

/- Contracts of mul.Mul told exactly, nat.Bit, div.limb, plus. -/
namespace Go.Proofs.YtaogaegchagbfaaDoor.Vc
open Go Go.RowKit
set_option maxHeartbeats 4000000 in
theorem Bit_r (l : List Int) (i : Nat) (hl : l.length < 1099511627776) (hu : u64s l) (hi : i < 9223372036854775808) : Spec Tryd.prog 43 [.n false .u64 l, .i .i64 (i : Int)] (fun o => o = .ret (.i .i64 (((vl l).toNat / 2 ^ i % 2 : Nat) : Int))) := by
  refine spec_of' [(0, .n false .u64 l), (1, .i .i64 (i : Int))] rfl Tryd.func43 rfl (Nat.le_of_ble_eq_true rfl) fun Γ hN hds hL hR => ?_
  have hd : ∀ d, Nat.blt d 25 = true → d < Γ.N := fun d h => by rw [hN]; exact Nat.le_of_ble_eq_true h
  have hm1 : ((vl l).toNat / 18446744073709551616 ^ (i / 64) % 18446744073709551616) < 18446744073709551616 := Nat.mod_lt _ (by decide)
  have hm2 : ((vl l).toNat / 18446744073709551616 ^ (i / 64) % 18446744073709551616) / 2 ^ (i % 64) ≤ ((vl l).toNat / 18446744073709551616 ^ (i / 64) % 18446744073709551616) := Nat.div_le_self _ _
  refine jc_seq ?_; refine jc_region ?_; refine jo_l (ly_as rfl) (hd 4 rfl) ?_; refine jo_nil ?_; refine jc_seq ?_; refine jc_seq ?_; refine jc_region ?_; refine jo_l (ly_mv rfl) (hd 5 rfl) ?_; refine jo_l (ly_ff (ly_lt rfl rfl) (by omega)) (hd 6 rfl) ?_; refine jo_l (ly_mv rfl) (hd 7 rfl) ?_; refine jo_g 7 rfl rfl (ly_mv rfl) (hd 8 rfl) ?_; refine jo_g 7 rfl rfl (ly_quo rfl rfl (by decide) (r := ((i / 64 : Nat) : Int)) (by rw [show ((i : Int).tdiv 64) = ((i / 64 : Nat) : Int) from rfl, wrap_i64 (by omega) (by omega)])) (hd 9 rfl) ?_; refine jo_g 7 rfl rfl (ly_mv rfl) (hd 10 rfl) ?_; refine jo_g 7 rfl rfl (ly_lenn sl28 rfl) (hd 11 rfl) ?_; refine jo_g 7 rfl rfl (ly_ge rfl rfl) (hd 12 rfl) ?_; refine jo_l (ly_pick_f rfl rfl) (hd 13 rfl) ?_; refine jo_nil ?_
  refine jc_if rfl (fun h1 => ?_) (fun h1 => ?_)
  · refine jc_seq ?_; refine jc_region ?_; refine jo_l (ly_as rfl) (hd 4 rfl) ?_; refine jo_nil ?_; refine jc_ret ?_
    refine ⟨_, _, (.cons rfl .nil), .i, ?_⟩
    rw [row_out hu (by omega)]
    rfl
  · refine jc_skip ?_; refine jc_seq ?_; refine jc_region ?_; refine jo_l (ly_mv rfl) (hd 14 rfl) ?_; refine jo_l (ly_mv rfl) (hd 15 rfl) ?_; refine jo_l (ly_quo rfl rfl (by decide) (r := ((i / 64 : Nat) : Int)) (by rw [show ((i : Int).tdiv 64) = ((i / 64 : Nat) : Int) from rfl, wrap_i64 (by omega) (by omega)])) (hd 16 rfl) ?_; refine jo_l (ly_ian (i := i / 64) sl28 rfl rfl (by first | rfl | omega) (by omega)) (hd 17 rfl) ?_; refine jo_l (ly_is (ly_ldq one82 rfl rfl) (by exact congrArg (V.i .u64) (row_at hu (i / 64)))) (hd 18 rfl) ?_; refine jo_l (ly_mv rfl) (hd 19 rfl) ?_; refine jo_l (ly_is (ly_rem rfl rfl (by decide) rfl) (show V.i .i64 ((i : Int).tmod 64) = V.i .i64 ((i % 64 : Nat) : Int) from rfl)) (hd 20 rfl) ?_; refine jo_l (ly_conv und3 und116 rfl (r := ((i % 64 : Nat) : Int)) (wrap_u64 (by omega) (by omega))) (hd 21 rfl) ?_; refine jo_l (ly_is (ly_shr rfl rfl (by omega) rfl) (by exact congrArg (V.i .u64) (shr_nat (k := 2 ^ (i % 64)) (by rw [Int.toNat_natCast, Nat.min_eq_left (by have h : IntKind.u64.bits = 64 := rfl; omega)])))) (hd 22 rfl) ?_; refine jo_l (ly_is (ly_bit (by simp) rfl rfl rfl) (by exact congrArg (V.i .u64) (and1 (by omega)))) (hd 23 rfl) ?_; refine jo_l (ly_conv und82 und3 rfl (r := ((((vl l).toNat / 18446744073709551616 ^ (i / 64) % 18446744073709551616) / 2 ^ (i % 64) % 2 : Nat) : Int)) (wrap_i64 (by omega) (by omega))) (hd 24 rfl) ?_; refine jo_l (ly_as rfl) (hd 4 rfl) ?_; refine jo_nil ?_; refine jc_ret ?_
    refine ⟨_, _, (.cons rfl .nil), .i, ?_⟩
    rw [bit_row]
end Go.Proofs.YtaogaegchagbfaaDoor.Vc
