/- Writing a natural number with a point answers as the reference does, for every base and every number of places. Texts joined: Qj, Qk, Ql, Qo, Qp, Qr, RNPoints. -/
import Derived.Test.YtcfdclehmpfkcaaK6
import Derived.Test.YtcfdclehmpfkcaaRows
import Derived.WalkKit
import Derived.ProofKit
import Derived.OpenShut
import Derived.Carry
import Derived.JoinedCond
set_option linter.unusedVariables false
set_option linter.unusedSimpArgs false
/- Contract of numeral.build of at most 12 digits. -/
namespace Go.Proofs.Ytcfdclehmpfkcaa.Vc
open Go Go.RowKit
set_option maxHeartbeats 4000000 in
theorem part_12 (l : List Int) (b : Nat) (ys zs : List V) (hlb : 2 ≤ b) (hb2 : b ≤ 36) (hr : rng b l) (hl : l.length ≤ 12) : Spec Try.prog 114 [.n false .i64 l, .q [.i .i64 (b : Int)], .q ys, .q zs] (fun o => o = .ret (.t [.n false .u64 (lm (hv b l)), .i .i64 0])) := by
  refine spec_of' [(0, .n false .i64 l), (1, .q [.i .i64 (b : Int)]), (2, .q ys), (3, .q zs)] rfl Try.func114 rfl (Nat.le_of_ble_eq_true rfl) fun Γ hN hds hL hR => ?_
  have hd : ∀ d, Nat.blt d 89 = true → d < Γ.N := fun d h => by rw [hN]; exact Nat.le_of_ble_eq_true h
  refine jc_seq ?_; refine jc_region ?_; refine jo_l (ly_as rfl) (hd 5 rfl) ?_; refine jo_l (ly_as rfl) (hd 6 rfl) ?_; refine jo_nil ?_; refine jc_seq ?_; refine jc_seq ?_; refine jc_region ?_; refine jo_l (ly_mv rfl) (hd 16 rfl) ?_; refine jo_l (ly_lenn sl1039 rfl) (hd 17 rfl) ?_; refine jo_l (ly_tt (ly_le rfl rfl) (by omega)) (hd 18 rfl) ?_; refine jo_nil ?_; refine jc_litt rfl ?_; refine jc_seq ?_; refine jc_region ?_; refine jo_l (ly_as rfl) (hd 7 rfl) ?_; refine jo_nil ?_; refine jc_seq ?_; refine jc_seq ?_; refine jc_region ?_; refine jo_l (ly_mv rfl) (hd 19 rfl) ?_; refine jo_l (ly_lenn sl1039 rfl) (hd 20 rfl) ?_; refine jo_l (ly_mv rfl) (hd 21 rfl) ?_; refine jo_nil ?_; refine jc_block ?_
  refine jc_loopF (G := Nat) (fun i => i ≤ l.length) (fun i => [(7, .i .u64 (hv b (l.take i))), (21, .i .i64 (i : Int)), (9, .u), (22, .u), (23, .u), (24, .u), (25, .u), (26, .u), (27, .u), (28, .u), (29, .u), (30, .u), (31, .u), (32, .u)]) (fun _ => _) (fun i => l.length - i) 0 ?_ ?_ rfl ?_
  · exact Nat.zero_le _
  · exact (.cons rfl (.cons rfl (.u (.u (.u (.u (.u (.u (.u (.u (.u (.u (.u (.u .nil))))))))))))))
  · rintro i hi
    have hrt := rng_take hr i
    have hn0 := hv_nonneg hrt
    have hn1 := hv_12 hb2 hlb hrt (by rw [List.length_take]; omega)
    have hx := rng_getD (by omega) hr i
    refine jc_seq ?_; refine jc_region ?_; refine jo_l (ly_lt rfl rfl) (hd 22 rfl) ?_; refine jo_nil ?_; refine jc_seq ?_
    refine jc_if rfl (fun h2 => ?_) (fun h2 => ?_)
    · have hrm := rng_take hr (i + 1)
      have hm0 := hv_nonneg hrm
      have hm1 := hv_12 hb2 hlb hrm (by rw [List.length_take]; omega)
      have hst := hv_step (b := b) (l := l) (i := i) (by omega)
      refine jc_skip ?_; refine jc_seq ?_; refine jc_block ?_; refine jc_seq ?_; refine jc_region ?_; refine jo_l (ly_ian (i := i) sl1039 rfl rfl (by first | rfl | omega) (by omega)) (hd 23 rfl) ?_; refine jo_l (ly_ldq one3 rfl rfl) (hd 24 rfl) ?_; refine jo_l (ly_as rfl) (hd 9 rfl) ?_; refine jo_nil ?_; refine jc_region ?_; refine jo_l (ly_mv rfl) (hd 25 rfl) ?_; refine jo_l (ly_ldq one3 rfl rfl) (hd 26 rfl) ?_; refine jo_l (ly_conv und3 und82 rfl (r := (b : Int)) (wrap_u64 (by omega) (by omega))) (hd 27 rfl) ?_; refine jo_l (ly_mul rfl rfl (r := (hv b (l.take i)) * b) (wrap_u64 (Int.mul_nonneg hn0 (by omega)) (by omega))) (hd 28 rfl) ?_; refine jo_l (ly_mv rfl) (hd 29 rfl) ?_; refine jo_l (ly_conv und3 und82 rfl (r := l.getD i 0) (wrap_u64 hx.1 (by omega))) (hd 30 rfl) ?_; refine jo_l (ly_add rfl rfl (r := hv b (l.take (i + 1))) (by rw [← hv_step (by omega)]; exact wrap_u64 hm0 (by omega))) (hd 31 rfl) ?_; refine jo_l (ly_as rfl) (hd 7 rfl) ?_; refine jo_nil ?_; refine jc_region ?_; refine jo_l (ly_add rfl rfl (r := ((i + 1 : Nat) : Int)) (by rw [wrap_i64 (by omega) (by omega)]; omega)) (hd 32 rfl) ?_; refine jo_l (ly_mv rfl) (hd 21 rfl) ?_; refine jo_nil ?_
      refine ⟨i + 1, ?_, ?_, rfl, cov_n 28 rfl rfl ?_⟩
      · omega
      · omega
      · exact (.cons rfl (.cons rfl (.u (.u (.u (.u (.u (.u (.u (.u (.u (.u (.u (.u .nil))))))))))))))
    · obtain rfl : i = l.length := by omega
      refine jc_exit ?_; refine jc_seq ?_; refine jc_region ?_; refine jo_l (ly_mv rfl) (hd 33 rfl) ?_
      refine jo_call Try.f113 (From_s (hv b (l.take l.length))) rfl Try.func113 rfl rfl (ovL_cons rfl ovL_nil) (.cons .i .nil) (hd 34 rfl) ?_ (fun ch hp => by simp at hp)
      rintro y hy; injection hy with hy; subst hy; refine jo_l (ly_as rfl) (hd 5 rfl) ?_; refine jo_l (ly_as rfl) (hd 6 rfl) ?_; refine jo_nil ?_; refine jc_ret ?_
      refine ⟨_, _, (.cons rfl (.cons rfl .nil)), (.t1 .nn (.t1 .i .t0)), ?_⟩
      rw [fl_lm hn0 (by omega), List.take_length]

set_option maxHeartbeats 4000000 in
theorem build_12 (l : List Int) (b : Nat) (hlb : 2 ≤ b) (hb2 : b ≤ 36) (hr : rng b l) (hl : l.length ≤ 12) : Spec Try.prog 67 [.n false .i64 l, .i .i64 (b : Int)] (fun o => o = .ret (.t [.n false .u64 (lm (hv b l)), .i .i64 0])) := by
  refine spec_of' [(0, .n false .i64 l), (1, .i .i64 (b : Int))] rfl Try.func67 rfl (Nat.le_of_ble_eq_true rfl) fun Γ hN hds hL hR => ?_
  have hd : ∀ d, Nat.blt d 31 = true → d < Γ.N := fun d h => by rw [hN]; exact Nat.le_of_ble_eq_true h
  refine jc_seq ?_; refine jc_region ?_; refine jo_h (hy_box (id := 0) (n := 1) rfl rfl rfl (by decide) rfl) (hd 3 rfl) ?_; refine jo_l (ly_as rfl) (hd 4 rfl) ?_; refine jo_l (ly_as rfl) (hd 5 rfl) ?_; refine jo_nil ?_
  refine jc_meetH (G := Nat) (fun i => i ≤ l.length ∧ hv b (l.drop i) = hv b l) (fun i => [(0, .n false .i64 (l.drop i)), (9, .u), (10, .u), (11, .u), (12, .u), (13, .u), (14, .u), (15, .u), (16, .u), (17, .u), (18, .u), (19, .u)]) ?_ ?_
  · refine jc_block ?_
    refine jc_loopF (G := Nat) (fun i => i ≤ l.length ∧ hv b (l.drop i) = hv b l) (fun i => [(0, .n false .i64 (l.drop i)), (9, .u), (10, .u), (11, .u), (12, .u), (13, .u), (14, .u), (15, .u), (16, .u), (17, .u), (18, .u), (19, .u)]) (fun _ => _) (fun i => l.length - i) 0 ?_ ?_ rfl ?_
    · exact ⟨Nat.zero_le _, rfl⟩
    · exact (.cons rfl (.u (.u (.u (.u (.u (.u (.u (.u (.u (.u (.u .nil))))))))))))
    · rintro i ⟨hi, hvi⟩
      have hld : (l.drop i).length = l.length - i := List.length_drop ..
      refine jc_seq ?_; refine jc_seq ?_; refine jc_region ?_; refine jo_l (ly_mv rfl) (hd 9 rfl) ?_; refine jo_l (ly_lenn sl1039 rfl) (hd 10 rfl) ?_; refine jo_l (ly_gt rfl rfl) (hd 11 rfl) ?_; refine jo_l (ly_mv rfl) (hd 12 rfl) ?_
      refine jo_ifp 12 rfl (fun h1 => ?_) (fun h1 => ?_)
      · refine jo_g 12 rfl rfl (ly_mv rfl) (hd 13 rfl) ?_; refine jo_g 12 rfl rfl (ly_ian (i := 0) sl1039 rfl rfl rfl (by omega)) (hd 14 rfl) ?_; refine jo_g 12 rfl rfl (ly_ldq one3 rfl rfl) (hd 15 rfl) ?_; refine jo_g 12 rfl rfl (ly_eq rfl rfl) (hd 16 rfl) ?_; refine jo_l (ly_pick_t rfl rfl) (hd 17 rfl) ?_; refine jo_nil ?_
        refine jc_if rfl (fun h2 => ?_) (fun h2 => ?_)
        · refine jc_skip ?_; refine jc_block ?_; refine jc_region ?_; refine jo_l (ly_mv rfl) (hd 18 rfl) ?_; refine jo_l (ly_sln sl1039 rfl (bnd_some' rfl rfl) bnd_none (.inl rfl) (by show 1 ≤ _; omega) (by omega)) (hd 19 rfl) ?_; refine jo_l (ly_as rfl) (hd 0 rfl) ?_; refine jo_nil ?_
          refine ⟨i + 1, ?_, ?_, rfl, cov_n 25 rfl rfl ?_⟩
          · exact ⟨by omega, hv_dropI (by assumption) hvi⟩
          · omega
          · exact (.cons (by show some (V.n _ _ _) = some (V.n _ _ _); rw [List.take_length, List.drop_drop]) (.u (.u (.u (.u (.u (.u (.u (.u (.u (.u (.u .nil))))))))))))
        · refine jc_exit ?_
          refine ⟨i, ?_, rfl, cov_n 22 rfl rfl ?_⟩
          · exact ⟨hi, hvi⟩
          · exact (.cons rfl (.u (.u (.u (.u (.u (.u (.u (.u (.u (.u (.u .nil))))))))))))
      · refine jo_s 12 rfl rfl rfl (hd 13 rfl) ?_; refine jo_s 12 rfl rfl rfl (hd 14 rfl) ?_; refine jo_s 12 rfl rfl rfl (hd 15 rfl) ?_; refine jo_s 12 rfl rfl rfl (hd 16 rfl) ?_; refine jo_l (ly_pick_f rfl rfl) (hd 17 rfl) ?_; refine jo_nil ?_; refine jc_litf rfl ?_; refine jc_exit ?_
        refine ⟨i, ?_, rfl, cov_n 22 rfl rfl ?_⟩
        · exact ⟨hi, hvi⟩
        · exact (.cons rfl (.u (.u (.u (.u (.u (.u (.u (.u (.u (.u (.u .nil))))))))))))
  · rintro i ⟨hi, hvi⟩
    have hld : (l.drop i).length = l.length - i := List.length_drop ..
    refine jc_seq ?_; refine jc_seq ?_; refine jc_region ?_; refine jo_l (ly_mv rfl) (hd 20 rfl) ?_; refine jo_l (ly_lenn sl1039 rfl) (hd 21 rfl) ?_; refine jo_l (ly_ff (ly_gt rfl rfl) (by omega)) (hd 22 rfl) ?_; refine jo_nil ?_; refine jc_litf rfl ?_; refine jc_skip ?_; refine jc_seq ?_; refine jc_region ?_; refine jo_mkmap (hd 23 rfl) fun g => ?_; refine jo_h (hy_alloc (id := 1) zero1138 (by decide) rfl (by decide) rfl) (hd 6 rfl) ?_; refine jo_st (sy_store rfl rfl rfl siz1138 rfl rfl (Nat.le_of_ble_eq_true rfl)) ?_; refine jo_nil ?_; refine jc_seq ?_; refine jc_region ?_; refine jo_h (hy_alloc (id := 2) zero1139 (by decide) rfl (by decide) rfl) (hd 7 rfl) ?_; refine jo_nil ?_; refine jc_seq ?_; refine jc_frzp 6 rfl rfl rfl rfl hL ?_; refine jc_frzp 3 rfl rfl rfl rfl hL ?_; refine jc_region ?_; refine jo_l (ly_mf (ovL_cons rfl (ovL_cons rfl ovL_nil))) (hd 24 rfl) ?_; refine jo_st (sy_store rfl rfl rfl siz1139 rfl rfl (Nat.le_of_ble_eq_true rfl)) ?_; refine jo_nil ?_; refine jc_seq ?_; refine jc_region ?_; refine jo_h (hy_alloc (id := 3) zero1143 (by decide) rfl (by decide) rfl) (hd 8 rfl) ?_; refine jo_nil ?_; refine jc_seq ?_; refine jc_frzF 7 rfl rfl rfl hL ?_; refine jc_region ?_; refine jo_l (ly_mf (ovL_cons rfl (ovL_cons rfl (ovL_cons rfl ovL_nil)))) (hd 25 rfl) ?_; refine jo_st (sy_store rfl rfl rfl siz1143 rfl rfl (Nat.le_of_ble_eq_true rfl)) ?_; refine jo_nil ?_; refine jc_seq ?_; refine jc_cyc 8 [.q [.i .i64 (b : Int)]] [.q [.f 111 [.q [.c (.map (some g))], .q [.i .i64 (b : Int)]]]] 1 rfl rfl rfl rfl hL ?_; refine jc_region ?_; refine jo_l (ly_ldqf one1143 rfl rfl) (hd 26 rfl) ?_; refine jo_l (ly_mv rfl) (hd 27 rfl) ?_
    refine jo_callC Try.f114 (part_12 (l.drop i) b _ _ hlb hb2 (rng_drop hr i) (by omega)) rfl Try.func114 rfl rfl (ovL_cons rfl ovL_nil) (.cons .n (.cons .q (.cons .q (.cons .q .nil)))) (hd 28 rfl) ?_ (fun ch hp => by simp at hp)
    rintro y hy; injection hy with hy; subst hy; refine jo_l (ly_ext rfl rfl) (hd 29 rfl) ?_; refine jo_l (ly_ext rfl rfl) (hd 30 rfl) ?_; refine jo_l (ly_as rfl) (hd 4 rfl) ?_; refine jo_l (ly_as rfl) (hd 5 rfl) ?_; refine jo_nil ?_; refine jc_ret ?_
    refine ⟨_, _, (.cons rfl (.cons rfl .nil)), (.t1 .nn (.t1 .i .t0)), ?_⟩
    rw [hvi]
end Go.Proofs.Ytcfdclehmpfkcaa.Vc

/- Contract of numeral.Parse where all are digits. -/
namespace Go.Proofs.Ytcfdclehmpfkcaa.Vc
open Go Go.RowKit
set_option maxHeartbeats 4000000 in
theorem Parse_k (s : ByteArray) (b : Nat) (r : List Int) (e : Int) (hlb : 2 ≤ b) (hb2 : b ≤ 36) (hs0 : s.size ≠ 0) (hs : s.size < 1099511627776) (hval : ∀ i, i < s.size → dgv (byteAt s i) < b) (hB : Spec Try.prog 67 [.n false .i64 (dgs s), .i .i64 (b : Int)] (fun o => o = .ret (.t [.n false .u64 r, .i .i64 e]))) : Spec Try.prog 16 [.s s, .i .i64 (b : Int)] (fun o => o = .ret (.t [.n false .u64 r, .i .i64 e])) := by
  refine spec_of' [(0, .s s), (1, .i .i64 (b : Int))] rfl Try.func16 rfl (Nat.le_of_ble_eq_true rfl) fun Γ hN hds hL hR => ?_
  have hd : ∀ d, Nat.blt d 60 = true → d < Γ.N := fun d h => by rw [hN]; exact Nat.le_of_ble_eq_true h
  refine jc_seq ?_; refine jc_region ?_; refine jo_l (ly_as rfl) (hd 4 rfl) ?_; refine jo_l (ly_as rfl) (hd 5 rfl) ?_; refine jo_nil ?_; refine jc_seq ?_; refine jc_seq ?_; refine jc_region ?_; refine jo_l (ly_mv rfl) (hd 10 rfl) ?_
  refine jo_call Try.f66 (good_y b hlb hb2) rfl Try.func66 rfl rfl (ovL_cons rfl ovL_nil) (.cons .i .nil) (hd 11 rfl) ?_ (fun ch hp => by simp at hp)
  rintro y hy; injection hy with hy; subst hy; refine jo_l (ly_not rfl) (hd 12 rfl) ?_; refine jo_nil ?_; refine jc_litf rfl ?_; refine jc_skip ?_; refine jc_seq ?_; refine jc_seq ?_; refine jc_region ?_; refine jo_l (ly_mv rfl) (hd 13 rfl) ?_; refine jo_l (ly_ff (ly_eqS rfl rfl) (fun h => hs0 (by rw [h]; rfl))) (hd 14 rfl) ?_; refine jo_nil ?_; refine jc_litf rfl ?_; refine jc_skip ?_; refine jc_seq ?_; refine jc_region ?_; refine jo_l (ly_mv rfl) (hd 15 rfl) ?_; refine jo_l (ly_lens und9 rfl) (hd 16 rfl) ?_; refine jo_h (hy_mk (m := s.size) el1039 rfl rfl rfl (by show 8 * s.size ≤ _; omega) (by unfold maxLen; omega) rfl) (hd 17 rfl) ?_; refine jo_l (ly_as rfl) (hd 6 rfl) ?_; refine jo_nil ?_; refine jc_seq ?_; refine jc_seq ?_; refine jc_H (H' := [⟨3, 1, 0, true, ints .i64 (cpI (dgs s) 0)⟩]) (by rw [← cpI_0, dgs_len]; rfl) ?_; refine jc_region ?_; refine jo_l (ly_mv rfl) (hd 18 rfl) ?_; refine jo_l (ly_lens und9 rfl) (hd 19 rfl) ?_; refine jo_l (ly_mv rfl) (hd 20 rfl) ?_; refine jo_nil ?_; refine jc_block ?_
  refine jc_loopF (G := Nat) (fun i => i ≤ s.size) (fun i => [(20, .i .i64 (i : Int)), (4, .u), (5, .u), (7, .u), (8, .u), (9, .u), (21, .u), (22, .u), (23, .u), (24, .u), (25, .u), (26, .u), (27, .u), (28, .u), (29, .u), (30, .u), (31, .u), (32, .u), (33, .u), (34, .u), (35, .u), (36, .u), (37, .u), (38, .u), (39, .u), (40, .u), (41, .u), (42, .u), (43, .u), (44, .u), (45, .u), (46, .u), (47, .u), (48, .u), (49, .u), (50, .u), (51, .u), (52, .u), (53, .u), (54, .u)]) (fun i => [⟨3, 1, 0, true, ints .i64 (cpI (dgs s) i)⟩]) (fun i => s.size - i) 0 ?_ ?_ rfl ?_
  · exact Nat.zero_le _
  · exact (.cons rfl (.u (.u (.u (.u (.u (.u (.u (.u (.u (.u (.u (.u (.u (.u (.u (.u (.u (.u (.u (.u (.u (.u (.u (.u (.u (.u (.u (.u (.u (.u (.u (.u (.u (.u (.u (.u (.u (.u (.u .nil))))))))))))))))))))))))))))))))))))))))
  · rintro i hi
    have hcl := cpI_len (l := dgs s) (i := i) (by rw [dgs_len]; omega)
    rw [dgs_len] at hcl
    have hbr := byteAt_range s i
    have hdr := dgv_rng hbr.1 hbr.2
    refine jc_seq ?_; refine jc_region ?_; refine jo_l (ly_lt rfl rfl) (hd 21 rfl) ?_; refine jo_nil ?_; refine jc_seq ?_
    refine jc_if rfl (fun h3 => ?_) (fun h3 => ?_)
    · refine jc_skip ?_; refine jc_seq ?_; refine jc_block ?_; refine jc_seq ?_; refine jc_region ?_; refine jo_l (ly_mv rfl) (hd 22 rfl) ?_; refine jo_l (ly_as rfl) (hd 7 rfl) ?_; refine jo_nil ?_; refine jc_seq ?_; refine jc_region ?_; refine jo_l (ly_as rfl) (hd 8 rfl) ?_; refine jo_nil ?_
      refine jc_meetH (G := Unit) (fun _ => True) (fun _ => [(7, .i .i64 (i : Int)), (8, .i .i64 (dgv (byteAt s i))), (9, .u), (23, .u), (24, .u), (25, .u), (26, .u), (27, .u), (28, .u), (29, .u), (30, .u), (31, .u), (32, .u), (33, .u), (34, .u), (35, .u), (36, .u), (37, .u), (38, .u), (39, .u), (40, .u), (41, .u), (42, .u), (43, .u), (44, .u), (45, .u), (46, .u)]) ?_ ?_
      · refine jc_seq ?_; refine jc_region ?_; refine jo_l (ly_mv rfl) (hd 23 rfl) ?_; refine jo_l (ly_mv rfl) (hd 24 rfl) ?_; refine jo_l (ly_ixs (i := i) und9 rfl rfl (by first | rfl | omega) (by omega)) (hd 25 rfl) ?_; refine jo_l (ly_as rfl) (hd 9 rfl) ?_; refine jo_nil ?_; refine jc_block ?_; refine jc_seq ?_; refine jc_region ?_; refine jo_l (ly_mv rfl) (hd 27 rfl) ?_; refine jo_l (ly_ge rfl rfl) (hd 28 rfl) ?_; refine jo_l (ly_mv rfl) (hd 29 rfl) ?_
        refine jo_ifp 29 rfl (fun h4 => ?_) (fun h4 => ?_)
        · refine jo_g 29 rfl rfl (ly_mv rfl) (hd 30 rfl) ?_; refine jo_g 29 rfl rfl (ly_le rfl rfl) (hd 31 rfl) ?_; refine jo_l (ly_pick_t rfl rfl) (hd 32 rfl) ?_; refine jo_l (ly_as rfl) (hd 26 rfl) ?_; refine jo_nil ?_
          refine jc_if rfl (fun h5 => ?_) (fun h5 => ?_)
          · refine jc_region ?_; refine jo_l (ly_mv rfl) (hd 33 rfl) ?_; refine jo_l (ly_sub rfl rfl (wrap_u8 (by omega) (by omega))) (hd 34 rfl) ?_; refine jo_l (ly_conv und5 und3 rfl (wrap_i64 (by omega) (by omega))) (hd 35 rfl) ?_; refine jo_l (ly_as rfl) (hd 8 rfl) ?_; refine jo_nil ?_
            refine ⟨(), ?_, rfl, cov_n 16 rfl rfl ?_⟩
            · trivial
            · exact (.cons rfl (.cons (by show some (V.i .i64 _) = some (V.i .i64 _); congr 1; congr 1; first | (exfalso; omega) | skip; unfold dgv; first | rw [if_pos (by omega)] | rw [if_neg (by omega), if_pos (by omega)] | rw [if_neg (by omega), if_neg (by omega)]) (.u (.u (.u (.u (.u (.u (.u (.u (.u (.u (.u (.u (.u (.u (.u (.u (.u (.u (.u (.u (.u (.u (.u (.u (.u .nil)))))))))))))))))))))))))))
          · refine jc_seq ?_; refine jc_region ?_; refine jo_l (ly_mv rfl) (hd 37 rfl) ?_; refine jo_l (ly_ge rfl rfl) (hd 38 rfl) ?_; refine jo_l (ly_mv rfl) (hd 39 rfl) ?_
            refine jo_ifp 39 rfl (fun h6 => ?_) (fun h6 => ?_)
            · refine jo_g 39 rfl rfl (ly_mv rfl) (hd 40 rfl) ?_; refine jo_g 39 rfl rfl (ly_le rfl rfl) (hd 41 rfl) ?_; refine jo_l (ly_pick_t rfl rfl) (hd 42 rfl) ?_; refine jo_l (ly_as rfl) (hd 36 rfl) ?_; refine jo_nil ?_
              refine jc_if rfl (fun h7 => ?_) (fun h7 => ?_)
              · refine jc_region ?_; refine jo_l (ly_mv rfl) (hd 43 rfl) ?_; refine jo_l (ly_sub rfl rfl (wrap_u8 (by omega) (by omega))) (hd 44 rfl) ?_; refine jo_l (ly_conv und5 und3 rfl (wrap_i64 (by omega) (by omega))) (hd 45 rfl) ?_; refine jo_l (ly_add rfl rfl (wrap_i64 (by omega) (by omega))) (hd 46 rfl) ?_; refine jo_l (ly_as rfl) (hd 8 rfl) ?_; refine jo_nil ?_
                refine ⟨(), ?_, rfl, cov_n 25 rfl rfl ?_⟩
                · trivial
                · exact (.cons rfl (.cons (by show some (V.i .i64 _) = some (V.i .i64 _); congr 1; congr 1; first | (exfalso; omega) | skip; unfold dgv; first | rw [if_pos (by omega)] | rw [if_neg (by omega), if_pos (by omega)] | rw [if_neg (by omega), if_neg (by omega)]) (.u (.u (.u (.u (.u (.u (.u (.u (.u (.u (.u (.u (.u (.u (.u (.u (.u (.u (.u (.u (.u (.u (.u (.u (.u .nil)))))))))))))))))))))))))))
              · refine jc_skip ?_
                refine ⟨(), ?_, rfl, cov_n 20 rfl rfl ?_⟩
                · trivial
                · exact (.cons rfl (.cons (by show some (V.i .i64 _) = some (V.i .i64 _); congr 1; congr 1; first | (exfalso; omega) | skip; unfold dgv; first | rw [if_pos (by omega)] | rw [if_neg (by omega), if_pos (by omega)] | rw [if_neg (by omega), if_neg (by omega)]) (.u (.u (.u (.u (.u (.u (.u (.u (.u (.u (.u (.u (.u (.u (.u (.u (.u (.u (.u (.u (.u (.u (.u (.u (.u .nil)))))))))))))))))))))))))))
            · refine jo_s 39 rfl rfl rfl (hd 40 rfl) ?_; refine jo_s 39 rfl rfl rfl (hd 41 rfl) ?_; refine jo_l (ly_pick_f rfl rfl) (hd 42 rfl) ?_; refine jo_l (ly_as rfl) (hd 36 rfl) ?_; refine jo_nil ?_; refine jc_litf rfl ?_; refine jc_skip ?_
              refine ⟨(), ?_, rfl, cov_n 20 rfl rfl ?_⟩
              · trivial
              · exact (.cons rfl (.cons (by show some (V.i .i64 _) = some (V.i .i64 _); congr 1; congr 1; first | (exfalso; omega) | skip; unfold dgv; first | rw [if_pos (by omega)] | rw [if_neg (by omega), if_pos (by omega)] | rw [if_neg (by omega), if_neg (by omega)]) (.u (.u (.u (.u (.u (.u (.u (.u (.u (.u (.u (.u (.u (.u (.u (.u (.u (.u (.u (.u (.u (.u (.u (.u (.u .nil)))))))))))))))))))))))))))
        · refine jo_s 29 rfl rfl rfl (hd 30 rfl) ?_; refine jo_s 29 rfl rfl rfl (hd 31 rfl) ?_; refine jo_l (ly_pick_f rfl rfl) (hd 32 rfl) ?_; refine jo_l (ly_as rfl) (hd 26 rfl) ?_; refine jo_nil ?_; refine jc_litf rfl ?_; refine jc_seq ?_; refine jc_region ?_; refine jo_l (ly_mv rfl) (hd 37 rfl) ?_; refine jo_l (ly_ge rfl rfl) (hd 38 rfl) ?_; refine jo_l (ly_mv rfl) (hd 39 rfl) ?_
          refine jo_ifp 39 rfl (fun h10 => ?_) (fun h10 => ?_)
          · refine jo_g 39 rfl rfl (ly_mv rfl) (hd 40 rfl) ?_; refine jo_g 39 rfl rfl (ly_le rfl rfl) (hd 41 rfl) ?_; refine jo_l (ly_pick_t rfl rfl) (hd 42 rfl) ?_; refine jo_l (ly_as rfl) (hd 36 rfl) ?_; refine jo_nil ?_
            refine jc_if rfl (fun h11 => ?_) (fun h11 => ?_)
            · refine jc_region ?_; refine jo_l (ly_mv rfl) (hd 43 rfl) ?_; refine jo_l (ly_sub rfl rfl (wrap_u8 (by omega) (by omega))) (hd 44 rfl) ?_; refine jo_l (ly_conv und5 und3 rfl (wrap_i64 (by omega) (by omega))) (hd 45 rfl) ?_; refine jo_l (ly_add rfl rfl (wrap_i64 (by omega) (by omega))) (hd 46 rfl) ?_; refine jo_l (ly_as rfl) (hd 8 rfl) ?_; refine jo_nil ?_
              refine ⟨(), ?_, rfl, cov_n 25 rfl rfl ?_⟩
              · trivial
              · exact (.cons rfl (.cons (by show some (V.i .i64 _) = some (V.i .i64 _); congr 1; congr 1; first | (exfalso; omega) | skip; unfold dgv; first | rw [if_pos (by omega)] | rw [if_neg (by omega), if_pos (by omega)] | rw [if_neg (by omega), if_neg (by omega)]) (.u (.u (.u (.u (.u (.u (.u (.u (.u (.u (.u (.u (.u (.u (.u (.u (.u (.u (.u (.u (.u (.u (.u (.u (.u .nil)))))))))))))))))))))))))))
            · refine jc_skip ?_
              refine ⟨(), ?_, rfl, cov_n 20 rfl rfl ?_⟩
              · trivial
              · exact (.cons rfl (.cons (by show some (V.i .i64 _) = some (V.i .i64 _); congr 1; congr 1; first | (exfalso; omega) | skip; unfold dgv; first | rw [if_pos (by omega)] | rw [if_neg (by omega), if_pos (by omega)] | rw [if_neg (by omega), if_neg (by omega)]) (.u (.u (.u (.u (.u (.u (.u (.u (.u (.u (.u (.u (.u (.u (.u (.u (.u (.u (.u (.u (.u (.u (.u (.u (.u .nil)))))))))))))))))))))))))))
          · refine jo_s 39 rfl rfl rfl (hd 40 rfl) ?_; refine jo_s 39 rfl rfl rfl (hd 41 rfl) ?_; refine jo_l (ly_pick_f rfl rfl) (hd 42 rfl) ?_; refine jo_l (ly_as rfl) (hd 36 rfl) ?_; refine jo_nil ?_; refine jc_litf rfl ?_; refine jc_skip ?_
            refine ⟨(), ?_, rfl, cov_n 20 rfl rfl ?_⟩
            · trivial
            · exact (.cons rfl (.cons (by show some (V.i .i64 _) = some (V.i .i64 _); congr 1; congr 1; first | (exfalso; omega) | skip; unfold dgv; first | rw [if_pos (by omega)] | rw [if_neg (by omega), if_pos (by omega)] | rw [if_neg (by omega), if_neg (by omega)]) (.u (.u (.u (.u (.u (.u (.u (.u (.u (.u (.u (.u (.u (.u (.u (.u (.u (.u (.u (.u (.u (.u (.u (.u (.u .nil)))))))))))))))))))))))))))
      · rintro _ _; refine jc_seq ?_; refine jc_seq ?_; refine jc_region ?_; refine jo_l (ly_mv rfl) (hd 47 rfl) ?_; refine jo_l (ly_mv rfl) (hd 48 rfl) ?_; refine jo_l (ly_ff (ly_ge rfl rfl) (by have := hval i (by omega); omega)) (hd 49 rfl) ?_; refine jo_nil ?_; refine jc_litf rfl ?_; refine jc_skip ?_; refine jc_region ?_; refine jo_l (ly_mv rfl) (hd 50 rfl) ?_; refine jo_l (ly_mv rfl) (hd 51 rfl) ?_; refine jo_l (ly_mv rfl) (hd 52 rfl) ?_; refine jo_l (ly_ia (i := i) sl1039 rfl rfl rfl (by first | rfl | omega) (by omega) rfl) (hd 53 rfl) ?_; refine jo_st (sy_storei rfl rfl rfl one3 (by first | omega | (dsimp only; omega))) ?_; refine jo_nil ?_; refine jc_region ?_; refine jo_l (ly_add rfl rfl (r := ((i + 1 : Nat) : Int)) (by rw [wrap_i64 (by omega) (by omega)]; omega)) (hd 54 rfl) ?_; refine jo_l (ly_mv rfl) (hd 20 rfl) ?_; refine jo_nil ?_
        refine ⟨i + 1, ?_, ?_, (by show [(⟨3, 1, 0, true, ints .i64 _⟩ : Ob)] = [⟨3, 1, 0, true, ints .i64 _⟩]; rw [← cpI_set (by rw [dgs_len]; omega), dgs_getD (by omega)]), cov_n 80 rfl rfl ?_⟩
        · omega
        · omega
        · exact (.cons rfl (.u (.u (.u (.u (.u (.u (.u (.u (.u (.u (.u (.u (.u (.u (.u (.u (.u (.u (.u (.u (.u (.u (.u (.u (.u (.u (.u (.u (.u (.u (.u (.u (.u (.u (.u (.u (.u (.u (.u .nil))))))))))))))))))))))))))))))))))))))))
    · refine jc_exit ?_; refine jc_seq ?_
      obtain rfl : i = s.size := by omega
      refine jc_frz (k := .i64) (l := cpI (dgs s) s.size) (l' := dgs s) 6 rfl rfl (by rw [hcl]; exact Nat.le_of_eq (Nat.zero_add _)) (by rw [List.drop_zero, List.take_of_length_le (by omega)]; have h := cpI_all (dgs s); rwa [dgs_len] at h) hL ?_; refine jc_region ?_; refine jo_l (ly_mv rfl) (hd 55 rfl) ?_; refine jo_l (ly_mv rfl) (hd 56 rfl) ?_
      refine jo_call Try.f67 (hB) rfl Try.func67 rfl rfl (ovL_cons rfl (ovL_cons rfl ovL_nil)) (.cons .n (.cons .i .nil)) (hd 57 rfl) ?_ (fun ch hp => by simp at hp)
      rintro y hy; injection hy with hy; subst hy; refine jo_l (ly_ext rfl rfl) (hd 58 rfl) ?_; refine jo_l (ly_ext rfl rfl) (hd 59 rfl) ?_; refine jo_l (ly_as rfl) (hd 4 rfl) ?_; refine jo_l (ly_as rfl) (hd 5 rfl) ?_; refine jo_nil ?_; refine jc_ret ?_
      refine ⟨_, _, (.cons rfl (.cons rfl .nil)), (.t1 .nn (.t1 .i .t0)), ?_⟩
      exact rfl
end Go.Proofs.Ytcfdclehmpfkcaa.Vc

/- Contracts of surdlaw05.lives, NumeralNames, right. -/
namespace Go.Proofs.Ytcfdclehmpfkcaa.Vc
open Go Go.RowKit
set_option maxHeartbeats 4000000 in
set_option maxRecDepth 100000 in
theorem lives5_s  : Spec Try.prog 15 [] (fun o => o = .ret (.b true)) := by
  refine spec_of' [] rfl Try.func15 rfl (Nat.le_of_ble_eq_true rfl) fun Γ hN hds hL hR => ?_
  have hd : ∀ d, Nat.blt d 35 = true → d < Γ.N := fun d h => by rw [hN]; exact Nat.le_of_ble_eq_true h
  have hP : Spec Try.prog 21 [.n false .u64 [255], .i .i64 16] (fun o => o = .ret (.t [.s ⟨#[102, 102]⟩, .i .i64 0])) := by have h := Print_s [255] 16 (by decide) (u64s1 (by decide) (by decide)) (by decide) (by decide); rwa [hdg_255] at h
  have hB : Spec Try.prog 67 [.n false .i64 [0, 0, 15, 15], .i .i64 16] (fun o => o = .ret (.t [.n false .u64 [255], .i .i64 0])) := by have h := build_12 [0, 0, 15, 15] 16 (by decide) (by decide) (fun x hx => by simp at hx; omega) (by decide); rwa [lm_255] at h
  have hQ : Spec Try.prog 16 [.s ⟨#[48, 48, 102, 102]⟩, .i .i64 16] (fun o => o = .ret (.t [.n false .u64 [255], .i .i64 0])) := Parse_k ⟨#[48, 48, 102, 102]⟩ 16 [255] 0 (by decide) (by decide) (by decide) (by decide) (by decide +kernel) (by rw [show dgs ⟨#[48, 48, 102, 102]⟩ = [0, 0, 15, 15] by decide +kernel]; exact hB)
  have hC : Spec Try.prog 22 [.n false .u64 [255], .n false .u64 [255]] (fun o => o = .ret (.i .i64 0)) := by have h := Compare_s [255] [255] (by decide) (by decide); rwa [show cmpL (trm [255]) (trm [255]) = 0 by decide] at h
  refine jc_seq ?_; refine jc_region ?_; refine jo_l (ly_as rfl) (hd 0 rfl) ?_; refine jo_nil ?_; refine jc_seq ?_; refine jc_region ?_; refine jo_h (hy_lit (id := 0) (xs := [.const (.int .u64 255)]) el28 rfl (ovL_cons rfl ovL_nil) rfl (all2_of rfl) (by decide) rfl) (hd 6 rfl) ?_; refine jo_frz (k := .u64) (l := [255]) (l' := [255]) 6 rfl rfl (by decide) rfl hL ?_
  refine jo_call Try.f21 (hP) rfl Try.func21 rfl rfl (ovL_cons rfl (ovL_cons rfl ovL_nil)) (.cons .n (.cons .i .nil)) (hd 7 rfl) ?_ (fun ch hp => by simp at hp)
  rintro y hy; injection hy with hy; subst hy; refine jo_l (ly_mv rfl) (hd 5 rfl) ?_; refine jo_l (ly_ext rfl rfl) (hd 8 rfl) ?_; refine jo_l (ly_ext rfl rfl) (hd 9 rfl) ?_; refine jo_l (ly_as rfl) (hd 1 rfl) ?_; refine jo_l (ly_as rfl) (hd 2 rfl) ?_; refine jo_nil ?_; refine jc_seq ?_; refine jc_region ?_
  refine jo_call Try.f16 (hQ) rfl Try.func16 rfl rfl (ovL_cons rfl (ovL_cons rfl ovL_nil)) (.cons .s (.cons .i .nil)) (hd 11 rfl) ?_ (fun ch hp => by simp at hp)
  rintro y hy; injection hy with hy; subst hy; refine jo_l (ly_mv rfl) (hd 10 rfl) ?_; refine jo_l (ly_ext rfl rfl) (hd 12 rfl) ?_; refine jo_l (ly_ext rfl rfl) (hd 13 rfl) ?_; refine jo_l (ly_as rfl) (hd 3 rfl) ?_; refine jo_l (ly_as rfl) (hd 4 rfl) ?_; refine jo_nil ?_; refine jc_seq ?_; refine jc_region ?_; refine jo_l (ly_mv rfl) (hd 14 rfl) ?_; refine jo_l (ly_tt (ly_eqS rfl rfl) rfl) (hd 15 rfl) ?_; refine jo_l (ly_mv rfl) (hd 16 rfl) ?_; refine jo_g 16 rfl rfl (ly_mv rfl) (hd 17 rfl) ?_; refine jo_g 16 rfl rfl (ly_tt (ly_eq rfl rfl) rfl) (hd 18 rfl) ?_; refine jo_l (ly_pick_t rfl rfl) (hd 19 rfl) ?_; refine jo_l (ly_mv rfl) (hd 20 rfl) ?_; refine jo_g 20 rfl rfl (ly_mv rfl) (hd 21 rfl) ?_; refine jo_hg 20 rfl rfl (hy_lit (id := 1) (xs := [.const (.int .u64 255)]) el28 rfl (ovL_cons rfl ovL_nil) rfl (all2_of rfl) (by decide) rfl) (hd 22 rfl) ?_
  refine jo_callLg Try.f22 20 rfl rfl (hC) rfl Try.func22 rfl rfl (ovL_cons rfl (ovL_cons rfl ovL_nil)) (.a1 .n (.a1 (.o (k := .u64) (l := [255]) rfl (by decide) rfl) .a0)) (.cons .n (.cons .n .nil)) hL (fun y hy => by injection hy with hy; subst hy; rfl) (hd 23 rfl) ?_ (fun ch hp => by simp at hp)
  rintro y hy; injection hy with hy; subst hy; refine jo_g 20 rfl rfl (ly_tt (ly_eq rfl rfl) rfl) (hd 24 rfl) ?_; refine jo_l (ly_pick_t rfl rfl) (hd 25 rfl) ?_; refine jo_l (ly_mv rfl) (hd 26 rfl) ?_; refine jo_g 26 rfl rfl (ly_mv rfl) (hd 27 rfl) ?_; refine jo_g 26 rfl rfl (ly_tt (ly_eq rfl rfl) rfl) (hd 28 rfl) ?_; refine jo_l (ly_pick_t rfl rfl) (hd 29 rfl) ?_; refine jo_l (ly_mv rfl) (hd 30 rfl) ?_; refine jo_g 30 rfl rfl (ly_mv rfl) (hd 31 rfl) ?_; refine jo_g 30 rfl rfl (ly_lenn sl28 rfl) (hd 32 rfl) ?_; refine jo_g 30 rfl rfl (ly_tt (ly_eq rfl rfl) rfl) (hd 33 rfl) ?_; refine jo_l (ly_pick_t rfl rfl) (hd 34 rfl) ?_; refine jo_l (ly_as rfl) (hd 0 rfl) ?_; refine jo_nil ?_; refine jc_ret ?_
  refine ⟨_, _, (.cons rfl .nil), .b, ?_⟩
  exact rfl

end Go.Proofs.Ytcfdclehmpfkcaa.Vc

/- Contract of surdref05.Digits. -/
namespace Go.Proofs.Ytcfdclehmpfkcaa.Vc
open Go Go.RowKit
set_option maxHeartbeats 4000000 in
theorem rDigits_s (x b : Nat) (hlb : 2 ≤ b) (hb2 : b ≤ 36) (hx : (digs B32 x).length < 4294967296) (hd9 : (digs b x).length ≤ 67108864) : Spec Try.prog 31 [.n false .u64 (digs B32 x), .i .i64 (b : Int)] (fun o => o = .ret (.t [.n false .i64 (hdg b 1 x), .i .i64 0])) := by
  refine spec_of' [(0, .n false .u64 (digs B32 x)), (1, .i .i64 (b : Int))] rfl Try.func31 rfl (Nat.le_of_ble_eq_true rfl) fun Γ hN hds hL hR => ?_
  have hd : ∀ d, Nat.blt d 59 = true → d < Γ.N := fun d h => by rw [hN]; exact Nat.le_of_ble_eq_true h
  have hI : Spec Try.prog 72 [.i .i64 (b : Int)] (fun o => o = .ret (.n false .u64 (digs B32 b))) := by have h := rInt_s (b : Int) (by omega) (by omega); rwa [rInt_v (by omega)] at h
  have hb1 : (digs B32 b).length ≤ 1 := digs_len (by decide) 1 b (by show b < 4294967296 ^ 1; omega)
  refine jc_seq ?_; refine jc_region ?_; refine jo_l (ly_as rfl) (hd 4 rfl) ?_; refine jo_l (ly_as rfl) (hd 5 rfl) ?_; refine jo_nil ?_; refine jc_seq ?_; refine jc_seq ?_; refine jc_region ?_; refine jo_l (ly_mv rfl) (hd 12 rfl) ?_; refine jo_l (ly_ff (ly_lt rfl rfl) (by omega)) (hd 13 rfl) ?_; refine jo_l (ly_mv rfl) (hd 14 rfl) ?_; refine jo_g 14 rfl rfl (ly_mv rfl) (hd 15 rfl) ?_; refine jo_g 14 rfl rfl (ly_ff (ly_gt rfl rfl) (by omega)) (hd 16 rfl) ?_; refine jo_l (ly_pick_f rfl rfl) (hd 17 rfl) ?_; refine jo_nil ?_; refine jc_litf rfl ?_; refine jc_skip ?_; refine jc_seq ?_; refine jc_region ?_; refine jo_l (ly_mv rfl) (hd 18 rfl) ?_
  refine jo_call Try.f72 (hI) rfl Try.func72 rfl rfl (ovL_cons rfl ovL_nil) (.cons .i .nil) (hd 19 rfl) ?_ (fun ch hp => by simp at hp)
  rintro y hy; injection hy with hy; subst hy; refine jo_l (ly_as rfl) (hd 6 rfl) ?_; refine jo_nil ?_; refine jc_seq ?_; refine jc_region ?_; refine jo_l (ly_as rfl) (hd 7 rfl) ?_; refine jo_nil ?_; refine jc_seq ?_; refine jc_block ?_; refine jc_own0 (id := 0) 7 3 1 rfl rfl ?_
  refine jc_loopD (G := Nat × Nat × List Int) 1 (fun g => g.1 ≤ (digs b x).length ∧ g.1 ≤ g.2.2.length ∧ g.2.2.take g.1 = (digs b x).take g.1) (fun g => [(0, .n false .u64 (digs B32 (x / b ^ g.1))), (7, .o 0 g.2.1 0 g.1), (8, .u), (9, .u), (20, .u), (21, .u), (22, .u), (23, .u), (24, .u), (25, .u), (26, .u), (27, .u), (28, .u), (29, .u), (30, .u), (31, .u), (32, .u), (33, .u), (34, .u), (35, .u), (36, .u), (37, .u), (38, .u), (39, .u)]) (fun g => [⟨3, 1, g.2.1, true, ints .i64 g.2.2⟩]) (fun g => (digs b x).length - g.1) (0, 0, []) ?_ ?_ rfl hR rfl (fun _ _ => rfl) (fun g _ => .cons ints_id .nil) ?_
  · exact ⟨Nat.zero_le _, Nat.le_refl _, rfl⟩
  · exact (.cons (by show some (V.n _ _ _) = some (V.n _ _ _); rw [Nat.pow_zero, Nat.div_one]) (.cons rfl (.u (.u (.u (.u (.u (.u (.u (.u (.u (.u (.u (.u (.u (.u (.u (.u (.u (.u (.u (.u (.u (.u .nil))))))))))))))))))))))))
  · rintro ⟨k, ver, C⟩ ⟨hk, hC1, hC2⟩
    dsimp only at hk hC1 hC2
    have hdk : (digs B32 (x / b ^ k)).length ≤ (digs B32 x).length := digs_mono (by decide) _ _ (Nat.div_le_self _ _)
    have hmod : (x / b ^ k) % b < b := Nat.mod_lt _ (by omega)
    refine jc_seq ?_; refine jc_seq ?_; refine jc_region ?_; refine jo_l (ly_mv rfl) (hd 20 rfl) ?_
    refine jo_call Try.f76 (Zero_s (digs B32 (x / b ^ k))) rfl Try.func76 rfl rfl (ovL_cons rfl ovL_nil) (.cons .n .nil) (hd 21 rfl) ?_ (fun ch hp => by simp at hp)
    rintro y hy; injection hy with hy; subst hy; refine jo_l (ly_not rfl) (hd 22 rfl) ?_; refine jo_nil ?_
    refine jc_ifn rfl (fun h2 => ?_) (fun h2 => ?_)
    · have hn0 : (x / b ^ k) ≠ 0 := fun h0 => by simp [h0, digs_0] at h2
      refine jc_skip ?_; refine jc_block ?_; refine jc_seq ?_; refine jc_region ?_; refine jo_l (ly_as rfl) (hd 8 rfl) ?_; refine jo_nil ?_; refine jc_seq ?_; refine jc_region ?_; refine jo_l (ly_mv rfl) (hd 24 rfl) ?_; refine jo_l (ly_mv rfl) (hd 25 rfl) ?_
      refine jo_call Try.f77 (rDiv_s (x / b ^ k) b (by omega) (by omega) (by omega)) rfl Try.func77 rfl rfl (ovL_cons rfl (ovL_cons rfl ovL_nil)) (.cons .n (.cons .n .nil)) (hd 26 rfl) ?_ (fun ch hp => by simp at hp)
      rintro y hy; injection hy with hy; subst hy; refine jo_l (ly_mv rfl) (hd 23 rfl) ?_; refine jo_l (ly_ext rfl rfl) (hd 27 rfl) ?_; refine jo_l (ly_ext rfl rfl) (hd 28 rfl) ?_; refine jo_l (ly_as rfl) (hd 0 rfl) ?_; refine jo_l (ly_as rfl) (hd 8 rfl) ?_; refine jo_nil ?_; refine jc_seq ?_; refine jc_region ?_; refine jo_l (ly_as rfl) (hd 9 rfl) ?_; refine jo_nil ?_
      refine jc_meetH (G := Unit) (fun _ => True) (fun _ => [(9, .i .i64 ((x / b ^ k % b : Nat) : Int)), (29, .u), (30, .u), (31, .u), (32, .u), (33, .u), (34, .u), (35, .u)]) ?_ ?_
      · refine jc_seq ?_; refine jc_region ?_; refine jo_l (ly_mv rfl) (hd 29 rfl) ?_; refine jo_l (ly_lenn sl33 rfl) (hd 30 rfl) ?_; refine jo_l (ly_gt rfl rfl) (hd 31 rfl) ?_; refine jo_nil ?_
        refine jc_if rfl (fun h3 => ?_) (fun h3 => ?_)
        · have hr0 : x / b ^ k % b ≠ 0 := fun h0 => by simp [h0, digs_0] at h3
          have hr1 := digs_one hr0 (by show _ < 4294967296; omega)
          refine jc_region ?_; refine jo_l (ly_mv rfl) (hd 32 rfl) ?_; refine jo_l (ly_ian (i := 0) sl33 rfl rfl rfl (by omega)) (hd 33 rfl) ?_; refine jo_l (ly_is (ly_ldq one82 rfl rfl) (show V.i .u64 _ = V.i .u64 ((x / b ^ k % b : Nat) : Int) by rw [hr1]; rfl)) (hd 34 rfl) ?_; refine jo_l (ly_conv und82 und3 rfl (r := ((x / b ^ k % b : Nat) : Int)) (wrap_i64 (by omega) (by omega))) (hd 35 rfl) ?_; refine jo_l (ly_as rfl) (hd 9 rfl) ?_; refine jo_nil ?_
          refine ⟨(), ?_, rfl, cov_n 8 rfl rfl ?_⟩
          · trivial
          · exact (.cons (by show some (V.i _ _) = some (V.i _ _); first | rfl | (have h5 : (digs B32 (x / b ^ k % b)).length = 0 := (by omega); have h6 := digs_nil.1 (List.eq_nil_of_length_eq_zero h5); rw [h6]; rfl)) (.u (.u (.u (.u (.u (.u (.u .nil))))))))
        · refine jc_skip ?_
          refine ⟨(), ?_, rfl, cov_n 3 rfl rfl ?_⟩
          · trivial
          · exact (.cons (by show some (V.i _ _) = some (V.i _ _); first | rfl | (have h5 : (digs B32 (x / b ^ k % b)).length = 0 := (by omega); have h6 := digs_nil.1 (List.eq_nil_of_length_eq_zero h5); rw [h6]; rfl)) (.u (.u (.u (.u (.u (.u (.u .nil))))))))
      · rintro _ _; refine jc_region ?_; refine jo_l (ly_mv rfl) (hd 36 rfl) ?_; refine jo_l (ly_mv rfl) (hd 37 rfl) ?_; refine jo_h (hy_lit (id := 1) (xs := [.tmp 37]) el1039 rfl (ovL_cons rfl ovL_nil) rfl (all2_of rfl) (by decide) rfl) (hd 38 rfl) ?_
        refine jo_appI (C := C) (v := ((x / b ^ k % b : Nat) : Int)) el1039 rfl rfl hC1 rfl (src_o (cs := ints .i64 [((x / b ^ k % b : Nat) : Int)]) rfl rfl rfl) (by show (_ + 1) * 8 ≤ _; first | omega | (dsimp only; omega)) (by show _ + 1 ≤ 9223372036854775807; first | omega | (dsimp only; omega)) (hd 39 rfl) (fun ver' C' hE1 hE2 => ?_)
        refine jo_l (ly_as rfl) (hd 7 rfl) ?_; refine jo_nil ?_
        refine ⟨(k + 1, ver', C'), ?_, ?_, rfl, cov_n 50 rfl rfl ?_⟩
        · exact ⟨dgk_pos hlb hn0, hE1, by rw [hE2, hC2, ← dgk_take hlb hn0]⟩
        · have := dgk_pos hlb hn0
          show (digs b x).length - (k + 1) < (digs b x).length - k
          omega
        · exact (.cons (by show some (V.n _ _ _) = some (V.n _ _ _); rw [dgk_next]) (.cons rfl (.u (.u (.u (.u (.u (.u (.u (.u (.u (.u (.u (.u (.u (.u (.u (.u (.u (.u (.u (.u (.u (.u .nil))))))))))))))))))))))))
    · have hn0 : (x / b ^ k) = 0 := by have h1 := h2; exact digs_nil.1 (List.eq_nil_of_length_eq_zero (by omega))
      obtain rfl : k = (digs b x).length := Nat.le_antisymm hk (dgk_end hlb hn0)
      refine jc_exit ?_; refine jc_seq ?_; refine jc_seq ?_; refine jc_region ?_; refine jo_l (ly_mv rfl) (hd 40 rfl) ?_; refine jo_l (ly_leno sl1039 rfl rfl) (hd 41 rfl) ?_; refine jo_l (ly_eq rfl rfl) (hd 42 rfl) ?_; refine jo_nil ?_
      refine jc_if rfl (fun h4 => ?_) (fun h4 => ?_)
      · have hx0 : x = 0 := by
          rcases Nat.eq_zero_or_pos x with h0 | h0
          · exact h0
          · have h1 := List.length_pos_iff.2 (digs_ne hlb (show x ≠ 0 by omega))
            omega
        refine jc_seq ?_; refine jc_region ?_; refine jo_h (hy_lit (id := 1) (xs := [.const (.int .i64 0)]) el1039 rfl (ovL_cons rfl ovL_nil) rfl (all2_of rfl) (by decide) rfl) (hd 43 rfl) ?_; refine jo_frz (k := .i64) (l := [0]) (l' := hdg b 1 x) 43 rfl rfl (Nat.le_refl _) (by rw [hx0, hdg_0]; rfl) hL ?_; refine jo_l (ly_as rfl) (hd 4 rfl) ?_; refine jo_l (ly_as rfl) (hd 5 rfl) ?_; refine jo_nil ?_; refine jc_ret ?_
        refine ⟨_, _, (.cons rfl (.cons rfl .nil)), (.t1 .nn (.t1 .i .t0)), ?_⟩
        exact rfl
      · have hx0 : x ≠ 0 := fun h0 => by subst h0; exact h4 (by rw [digs_0]; rfl)
        refine jc_skip ?_; refine jc_seq ?_; refine jc_region ?_; refine jo_l (ly_as rfl) (hd 10 rfl) ?_; refine jo_nil ?_; refine jc_seq ?_; refine jc_seq ?_; refine jc_region ?_; refine jo_l (ly_mv rfl) (hd 44 rfl) ?_; refine jo_l (ly_leno sl1039 rfl rfl) (hd 45 rfl) ?_; refine jo_l (ly_sub rfl rfl (r := (((digs b x).length : Int) - 1)) (by rw [wrap_i64 (by omega) (by omega)])) (hd 46 rfl) ?_; refine jo_l (ly_as rfl) (hd 11 rfl) ?_; refine jo_nil ?_; refine jc_block ?_; refine jc_own0 (id := 1) 10 3 1 rfl rfl ?_
        refine jc_loopD (G := Nat × Nat × List Int) 2 (fun g => g.1 ≤ (digs b x).length ∧ (digs b x).length - g.1 ≤ g.2.2.length ∧ g.2.2.take ((digs b x).length - g.1) = ((digs b x).drop g.1).reverse) (fun g => [(10, .o 1 g.2.1 0 ((digs b x).length - g.1)), (11, .i .i64 ((g.1 : Int) - 1)), (47, .u), (48, .u), (49, .u), (50, .u), (51, .u), (52, .u), (53, .u), (54, .u), (55, .u), (56, .u), (57, .u)]) (fun g => [⟨3, 1, ver, true, ints .i64 C⟩, ⟨3, 1, g.2.1, true, ints .i64 g.2.2⟩]) (fun g => g.1) ((digs b x).length, 0, []) ?_ ?_ rfl hR rfl (fun _ _ => rfl) (fun g _ => .cons ints_id (.cons ints_id .nil)) ?_
        · exact ⟨Nat.le_refl _, by dsimp only; omega, by dsimp only; rw [Nat.sub_self, List.drop_eq_nil_of_le (by omega)]; rfl⟩
        · exact (.cons (by show some (V.o _ _ _ _) = some (V.o _ _ _ _); rw [Nat.sub_self]) (.cons rfl (.u (.u (.u (.u (.u (.u (.u (.u (.u (.u (.u .nil)))))))))))))
        · rintro ⟨j, ver2, C2⟩ ⟨hj, hD1, hD2⟩
          dsimp only at hj hD1 hD2
          refine jc_seq ?_; refine jc_seq ?_; refine jc_region ?_; refine jo_l (ly_mv rfl) (hd 47 rfl) ?_; refine jo_l (ly_ge rfl rfl) (hd 48 rfl) ?_; refine jo_nil ?_
          refine jc_if rfl (fun h5 => ?_) (fun h5 => ?_)
          · have hj0 : 0 < j := by omega
            have hkj : (digs b x).length - (j - 1) = (digs b x).length - j + 1 := by omega
            have hrs := rev_step (D := (digs b x)) (j := j - 1) (by omega)
            rw [show j - 1 + 1 = j by omega] at hrs
            refine jc_skip ?_; refine jc_seq ?_; refine jc_block ?_; refine jc_region ?_; refine jo_l (ly_mv rfl) (hd 51 rfl) ?_; refine jo_l (ly_mv rfl) (hd 52 rfl) ?_; refine jo_l (ly_mv rfl) (hd 53 rfl) ?_; refine jo_l (ly_ia (i := j - 1) sl1039 rfl rfl rfl (by omega) (by omega) rfl) (hd 54 rfl) ?_; refine jo_l (ly_is (ly_ldi one3 rfl rfl (by first | omega | (dsimp only; omega))) (show V.i .i64 _ = V.i .i64 ((digs b x).getD (j - 1) 0) by rw [getT (acc := (digs b x)) (by rw [hC2, List.take_length]) (by omega)])) (hd 55 rfl) ?_; refine jo_h (hy_lit (id := 2) (xs := [.tmp 55]) el1039 rfl (ovL_cons rfl ovL_nil) rfl (all2_of rfl) (by decide) rfl) (hd 56 rfl) ?_
            refine jo_appI (C := C2) (v := ((digs b x).getD (j - 1) 0)) el1039 rfl rfl hD1 rfl (src_o (cs := ints .i64 [((digs b x).getD (j - 1) 0)]) rfl rfl rfl) (by show (_ + 1) * 8 ≤ _; first | omega | (dsimp only; omega)) (by show _ + 1 ≤ 9223372036854775807; first | omega | (dsimp only; omega)) (hd 57 rfl) (fun ver' C' hE1 hE2 => ?_)
            refine jo_l (ly_as rfl) (hd 10 rfl) ?_; refine jo_nil ?_; refine jc_region ?_; refine jo_l (ly_mv rfl) (hd 49 rfl) ?_; refine jo_l (ly_sub rfl rfl (r := (j : Int) - 1 - 1) (wrap_i64 (by omega) (by omega))) (hd 50 rfl) ?_; refine jo_l (ly_as rfl) (hd 11 rfl) ?_; refine jo_nil ?_
            refine ⟨(j - 1, ver', C'), ?_, ?_, rfl, cov_n 26 rfl rfl ?_⟩
            · (try dsimp only at hE1 hE2); exact ⟨by dsimp only; omega, by dsimp only; omega, by dsimp only; rw [hkj, hE2, hD2, hrs]⟩
            · show j - 1 < j
              omega
            · exact (.cons (by show some (V.o _ _ _ _) = some (V.o _ _ _ _); rw [hkj]) (.cons (by show some (V.i _ _) = some (V.i _ _); congr 2; dsimp only; omega) (.u (.u (.u (.u (.u (.u (.u (.u (.u (.u (.u .nil)))))))))))))
          · obtain rfl : j = 0 := by omega
            refine jc_exit ?_; refine jc_seq ?_; refine jc_frz (k := .i64) (l := C2) (l' := hdg b 1 x) 10 rfl rfl (by omega) (by rw [List.drop_zero, hD2, hdg_rev hlb hx0]; rfl) hL ?_; refine jc_region ?_; refine jo_l (ly_mv rfl) (hd 58 rfl) ?_; refine jo_l (ly_as rfl) (hd 4 rfl) ?_; refine jo_l (ly_as rfl) (hd 5 rfl) ?_; refine jo_nil ?_; refine jc_ret ?_
            refine ⟨_, _, (.cons rfl (.cons rfl .nil)), (.t1 .nn (.t1 .i .t0)), ?_⟩
            exact rfl
end Go.Proofs.Ytcfdclehmpfkcaa.Vc

/- Contracts of surdlaw05.ints, surdref05.Print, numeral.Length, Digits. -/
namespace Go.Proofs.Ytcfdclehmpfkcaa.Vc
open Go Go.RowKit
set_option maxHeartbeats 4000000 in
theorem rPrint_g (X l : List Int) (b e : Int) (hl : l.length ≤ 1099511627776) (hr : rng 36 l) (hD : Spec Try.prog 31 [.n false .u64 X, .i .i64 b] (fun o => o = .ret (.t [.n false .i64 l, .i .i64 e]))) : Spec Try.prog 30 [.n false .u64 X, .i .i64 b] (fun o => o = .ret (.t [.s (txt l), .i .i64 e])) := by
  refine spec_of' [(0, .n false .u64 X), (1, .i .i64 b)] rfl Try.func30 rfl (Nat.le_of_ble_eq_true rfl) fun Γ hN hds hL hR => ?_
  have hd : ∀ d, Nat.blt d 32 = true → d < Γ.N := fun d h => by rw [hN]; exact Nat.le_of_ble_eq_true h
  refine jc_seq ?_; refine jc_region ?_; refine jo_l (ly_as rfl) (hd 4 rfl) ?_; refine jo_l (ly_as rfl) (hd 5 rfl) ?_; refine jo_nil ?_; refine jc_seq ?_; refine jc_region ?_; refine jo_l (ly_mv rfl) (hd 12 rfl) ?_; refine jo_l (ly_mv rfl) (hd 13 rfl) ?_
  refine jo_call Try.f31 (hD) rfl Try.func31 rfl rfl (ovL_cons rfl (ovL_cons rfl ovL_nil)) (.cons .n (.cons .i .nil)) (hd 14 rfl) ?_ (fun ch hp => by simp at hp)
  rintro y hy; injection hy with hy; subst hy; refine jo_l (ly_mv rfl) (hd 11 rfl) ?_; refine jo_l (ly_ext rfl rfl) (hd 15 rfl) ?_; refine jo_l (ly_ext rfl rfl) (hd 16 rfl) ?_; refine jo_l (ly_as rfl) (hd 6 rfl) ?_; refine jo_l (ly_as rfl) (hd 7 rfl) ?_; refine jo_nil ?_; refine jc_seq ?_; refine jc_region ?_; refine jo_l (ly_as rfl) (hd 8 rfl) ?_; refine jo_nil ?_; refine jc_seq ?_; refine jc_seq ?_; refine jc_region ?_; refine jo_l (ly_mv rfl) (hd 17 rfl) ?_; refine jo_l (ly_lenn sl1039 rfl) (hd 18 rfl) ?_; refine jo_l (ly_mv rfl) (hd 19 rfl) ?_; refine jo_nil ?_; refine jc_block ?_
  refine jc_loopF (G := Nat) (fun i => i ≤ l.length) (fun i => [(8, .s (txt (l.take i))), (19, .i .i64 (i : Int)), (10, .u), (20, .u), (21, .u), (22, .u), (23, .u), (24, .u), (25, .u), (26, .u), (27, .u), (28, .u), (29, .u)]) (fun _ => _) (fun i => l.length - i) 0 ?_ ?_ rfl ?_
  · exact Nat.zero_le _
  · exact (.cons (by show some (V.s _) = some (V.s _); rfl) (.cons rfl (.u (.u (.u (.u (.u (.u (.u (.u (.u (.u (.u .nil)))))))))))))
  · rintro i hi
    have hx := rng_getD (by decide) hr i
    have hts := txt_size (l.take i)
    rw [List.length_take] at hts
    refine jc_seq ?_; refine jc_region ?_; refine jo_l (ly_lt rfl rfl) (hd 20 rfl) ?_; refine jo_nil ?_; refine jc_seq ?_
    refine jc_if rfl (fun h1 => ?_) (fun h1 => ?_)
    · refine jc_skip ?_; refine jc_seq ?_; refine jc_block ?_; refine jc_seq ?_; refine jc_region ?_; refine jo_l (ly_ian (i := i) sl1039 rfl rfl (by first | rfl | omega) (by omega)) (hd 21 rfl) ?_; refine jo_l (ly_ldq one3 rfl rfl) (hd 22 rfl) ?_; refine jo_l (ly_as rfl) (hd 10 rfl) ?_; refine jo_nil ?_; refine jc_region ?_; refine jo_l (ly_mv rfl) (hd 23 rfl) ?_; refine jo_l (ly_mv rfl) (hd 24 rfl) ?_; refine jo_l (ly_mv rfl) (hd 25 rfl) ?_; refine jo_l (ly_add rfl rfl (r := l.getD i 0 + 1) (wrap_i64 (by omega) (by omega))) (hd 26 rfl) ?_; refine jo_l (ly_sls (l := (l.getD i 0).toNat) (h := (l.getD i 0).toNat + 1) und9 rfl (bnd_some' rfl (by omega)) (bnd_some' rfl (by omega)) (by omega) (by show _ ≤ 36; omega)) (hd 27 rfl) ?_; refine jo_l (ly_adds rfl rfl (by rw [hts]; show ((min i l.length + (ltrTab.extract (l.getD i 0).toNat ((l.getD i 0).toNat + 1)).size : Nat) : Int) ≤ 9223372036854775807; rw [ltr_ext (by omega)]; omega)) (hd 28 rfl) ?_; refine jo_l (ly_as rfl) (hd 8 rfl) ?_; refine jo_nil ?_; refine jc_region ?_; refine jo_l (ly_add rfl rfl (r := ((i + 1 : Nat) : Int)) (by rw [wrap_i64 (by omega) (by omega)]; omega)) (hd 29 rfl) ?_; refine jo_l (ly_mv rfl) (hd 19 rfl) ?_; refine jo_nil ?_
      refine ⟨i + 1, ?_, ?_, rfl, cov_n 26 rfl rfl ?_⟩
      · omega
      · omega
      · exact (.cons (by show some (V.s _) = some (V.s _); rw [← txt_step (by omega) hr]; rfl) (.cons rfl (.u (.u (.u (.u (.u (.u (.u (.u (.u (.u (.u .nil)))))))))))))
    · refine jc_exit ?_; refine jc_seq ?_; refine jc_region ?_; refine jo_l (ly_mv rfl) (hd 30 rfl) ?_; refine jo_l (ly_mv rfl) (hd 31 rfl) ?_; refine jo_l (ly_as rfl) (hd 4 rfl) ?_; refine jo_l (ly_as rfl) (hd 5 rfl) ?_; refine jo_nil ?_; refine jc_ret ?_
      refine ⟨_, _, (.cons rfl (.cons rfl .nil)), (.t1 .s (.t1 .i .t0)), ?_⟩
      rw [List.take_of_length_le (by omega)]

set_option maxHeartbeats 4000000 in
theorem rDigits_b (X : List Int) (b : Int) (hb : ¬ (2 ≤ b ∧ b ≤ 36)) : Spec Try.prog 31 [.n false .u64 X, .i .i64 b] (fun o => o = .ret (.t [.n false .i64 [], .i .i64 50])) := by
  refine spec_of' [(0, .n false .u64 X), (1, .i .i64 b)] rfl Try.func31 rfl (Nat.le_of_ble_eq_true rfl) fun Γ hN hds hL hR => ?_
  have hd : ∀ d, Nat.blt d 59 = true → d < Γ.N := fun d h => by rw [hN]; exact Nat.le_of_ble_eq_true h
  refine jc_seq ?_; refine jc_region ?_; refine jo_l (ly_as rfl) (hd 4 rfl) ?_; refine jo_l (ly_as rfl) (hd 5 rfl) ?_; refine jo_nil ?_; refine jc_seq ?_; refine jc_seq ?_; refine jc_region ?_; refine jo_l (ly_mv rfl) (hd 12 rfl) ?_; refine jo_l (ly_lt rfl rfl) (hd 13 rfl) ?_; refine jo_l (ly_mv rfl) (hd 14 rfl) ?_
  refine jo_ifp 14 rfl (fun h1 => ?_) (fun h1 => ?_)
  · refine jo_s 14 rfl rfl rfl (hd 15 rfl) ?_; refine jo_s 14 rfl rfl rfl (hd 16 rfl) ?_; refine jo_l (ly_pick_t rfl rfl) (hd 17 rfl) ?_; refine jo_nil ?_; refine jc_litt rfl ?_; refine jc_seq ?_; refine jc_region ?_; refine jo_l (ly_as rfl) (hd 4 rfl) ?_; refine jo_l (ly_as rfl) (hd 5 rfl) ?_; refine jo_nil ?_; refine jc_ret ?_
    refine ⟨_, _, (.cons rfl (.cons rfl .nil)), (.t1 (.nil (fr := false) (k := .i64)) (.t1 .i .t0)), ?_⟩
    exact rfl
  · refine jo_g 14 rfl rfl (ly_mv rfl) (hd 15 rfl) ?_; refine jo_g 14 rfl rfl (ly_gt rfl rfl) (hd 16 rfl) ?_; refine jo_l (ly_pick_f rfl rfl) (hd 17 rfl) ?_; refine jo_nil ?_
    refine jc_if rfl (fun h3 => ?_) (fun h3 => ?_)
    · refine jc_seq ?_; refine jc_region ?_; refine jo_l (ly_as rfl) (hd 4 rfl) ?_; refine jo_l (ly_as rfl) (hd 5 rfl) ?_; refine jo_nil ?_; refine jc_ret ?_
      refine ⟨_, _, (.cons rfl (.cons rfl .nil)), (.t1 (.nil (fr := false) (k := .i64)) (.t1 .i .t0)), ?_⟩
      exact rfl
    · exfalso
      omega

end Go.Proofs.Ytcfdclehmpfkcaa.Vc

/- The contract of surdlaw05.NumeralPoints. -/
namespace Go.Proofs.Ytcfdclehmpfkcaa.Vc
open Go Go.RowKit
set_option maxHeartbeats 4000000 in
theorem Point_0 (l : List Int) (b : Nat) (hl : l.length ≤ 1048576) (hu : u64s l) (hlb : 2 ≤ b) (hb2 : b ≤ 36) : Spec Try.prog 34 [.n false .u64 l, .i .i64 (b : Int), .i .i64 0] (fun o => o = .ret (.t [.s (txt (hdg b 1 (vl l).toNat)), .i .i64 0])) := by
  refine spec_of' [(0, .n false .u64 l), (1, .i .i64 (b : Int)), (2, .i .i64 0)] rfl Try.func34 rfl (Nat.le_of_ble_eq_true rfl) fun Γ hN hds hL hR => ?_
  have hd : ∀ d, Nat.blt d 70 = true → d < Γ.N := fun d h => by rw [hN]; exact Nat.le_of_ble_eq_true h
  have hRl : (hdg b 1 (vl l).toNat).length ≤ 67108864 := by rw [hdg_le]; have h1 := digs_le_len hu hlb; omega
  have hRp : 1 ≤ (hdg b 1 (vl l).toNat).length := by rw [hdg_le]; omega
  have hbl : (bytesI (txt (hdg b 1 (vl l).toNat))).length = (hdg b 1 (vl l).toNat).length := by rw [bytesI_len, txt_size]
  refine jc_seq ?_; refine jc_region ?_; refine jo_l (ly_as rfl) (hd 6 rfl) ?_; refine jo_l (ly_as rfl) (hd 7 rfl) ?_; refine jo_nil ?_; refine jc_seq ?_; refine jc_seq ?_; refine jc_region ?_; refine jo_l (ly_mv rfl) (hd 13 rfl) ?_
  refine jo_call Try.f66 (good_y b hlb hb2) rfl Try.func66 rfl rfl (ovL_cons rfl ovL_nil) (.cons .i .nil) (hd 14 rfl) ?_ (fun ch hp => by simp at hp)
  rintro y hy; injection hy with hy; subst hy; refine jo_l (ly_not rfl) (hd 15 rfl) ?_; refine jo_nil ?_; refine jc_litf rfl ?_; refine jc_skip ?_; refine jc_seq ?_; refine jc_seq ?_; refine jc_region ?_; refine jo_l (ly_mv rfl) (hd 16 rfl) ?_; refine jo_l (ly_ff (ly_lt rfl rfl) (by omega)) (hd 17 rfl) ?_; refine jo_l (ly_mv rfl) (hd 18 rfl) ?_; refine jo_g 18 rfl rfl (ly_mv rfl) (hd 19 rfl) ?_; refine jo_g 18 rfl rfl (ly_ff (ly_gt rfl rfl) (by omega)) (hd 20 rfl) ?_; refine jo_l (ly_pick_f rfl rfl) (hd 21 rfl) ?_; refine jo_nil ?_; refine jc_litf rfl ?_; refine jc_skip ?_; refine jc_seq ?_; refine jc_region ?_; refine jo_l (ly_mv rfl) (hd 22 rfl) ?_; refine jo_l (ly_mv rfl) (hd 23 rfl) ?_
  refine jo_callN Try.f70 (all_n l b hl hu hlb hb2) (fun o G ⟨_, h⟩ => h ▸ idless_cons ints_id idless_nil) rfl Try.func70 rfl rfl (ovL_cons rfl (ovL_cons rfl ovL_nil)) (.cons .n (.cons .i .nil)) (hd 24 rfl) ?_ (fun ch G hp => by simp at hp)
  rintro y G ⟨hy, rfl⟩; injection hy with hy; subst hy
  show JO _ _ _ _ ((24, .o 0 0 0 (hdg b 1 (vl l).toNat).length) :: _) _ _
  refine jo_frz (k := .i64) (l := (hdg b 1 (vl l).toNat)) (l' := (hdg b 1 (vl l).toNat)) 24 rfl rfl (by omega) (by rw [List.drop_zero, List.take_length]) hL ?_
  refine jo_call Try.f69 (text_s (hdg b 1 (vl l).toNat) (by omega) (rng36 hb2 (hdg_rng hlb _ _))) rfl Try.func69 rfl rfl (ovL_cons rfl ovL_nil) (.cons .n .nil) (hd 25 rfl) ?_ (fun ch hp => by simp at hp)
  rintro y hy; injection hy with hy; subst hy; refine jo_l (ly_as rfl) (hd 8 rfl) ?_; refine jo_nil ?_; refine jc_seq ?_; refine jc_seq ?_; refine jc_region ?_; refine jo_l (ly_mv rfl) (hd 26 rfl) ?_; refine jo_l (ly_tt (ly_eq rfl rfl) (by omega)) (hd 27 rfl) ?_; refine jo_nil ?_; refine jc_litt rfl ?_; refine jc_seq ?_; refine jc_region ?_; refine jo_l (ly_mv rfl) (hd 28 rfl) ?_; refine jo_l (ly_b2s undS1104 und5 und9 rfl) (hd 29 rfl) ?_; refine jo_l (ly_as rfl) (hd 6 rfl) ?_; refine jo_l (ly_as rfl) (hd 7 rfl) ?_; refine jo_nil ?_; refine jc_ret ?_
  refine ⟨_, _, (.cons rfl (.cons rfl .nil)), (.t1 .s (.t1 .i .t0)), ?_⟩
  exact rfl

set_option maxHeartbeats 4000000 in
theorem Point_k (l : List Int) (b : Nat) (k : Nat) (hl : l.length ≤ 1048576) (hu : u64s l) (hlb : 2 ≤ b) (hb2 : b ≤ 36) (hk0 : k ≠ 0) (hk : k ≤ 1048576) : Spec Try.prog 34 [.n false .u64 l, .i .i64 (b : Int), .i .i64 (k : Int)] (fun o => o = .ret (.t [.s (ptx (txt (padZ (hdg b 1 (vl l).toNat) (k + 1 - (hdg b 1 (vl l).toNat).length))) k), .i .i64 0])) := by
  refine spec_of' [(0, .n false .u64 l), (1, .i .i64 (b : Int)), (2, .i .i64 (k : Int))] rfl Try.func34 rfl (Nat.le_of_ble_eq_true rfl) fun Γ hN hds hL hR => ?_
  have hd : ∀ d, Nat.blt d 70 = true → d < Γ.N := fun d h => by rw [hN]; exact Nat.le_of_ble_eq_true h
  have hRl : (hdg b 1 (vl l).toNat).length ≤ 67108864 := by rw [hdg_le]; have h1 := digs_le_len hu hlb; omega
  have hRp : 1 ≤ (hdg b 1 (vl l).toNat).length := by rw [hdg_le]; omega
  have hbl : (bytesI (txt (hdg b 1 (vl l).toNat))).length = (hdg b 1 (vl l).toNat).length := by rw [bytesI_len, txt_size]
  refine jc_seq ?_; refine jc_region ?_; refine jo_l (ly_as rfl) (hd 6 rfl) ?_; refine jo_l (ly_as rfl) (hd 7 rfl) ?_; refine jo_nil ?_; refine jc_seq ?_; refine jc_seq ?_; refine jc_region ?_; refine jo_l (ly_mv rfl) (hd 13 rfl) ?_
  refine jo_call Try.f66 (good_y b hlb hb2) rfl Try.func66 rfl rfl (ovL_cons rfl ovL_nil) (.cons .i .nil) (hd 14 rfl) ?_ (fun ch hp => by simp at hp)
  rintro y hy; injection hy with hy; subst hy; refine jo_l (ly_not rfl) (hd 15 rfl) ?_; refine jo_nil ?_; refine jc_litf rfl ?_; refine jc_skip ?_; refine jc_seq ?_; refine jc_seq ?_; refine jc_region ?_; refine jo_l (ly_mv rfl) (hd 16 rfl) ?_; refine jo_l (ly_ff (ly_lt rfl rfl) (by omega)) (hd 17 rfl) ?_; refine jo_l (ly_mv rfl) (hd 18 rfl) ?_; refine jo_g 18 rfl rfl (ly_mv rfl) (hd 19 rfl) ?_; refine jo_g 18 rfl rfl (ly_ff (ly_gt rfl rfl) (by omega)) (hd 20 rfl) ?_; refine jo_l (ly_pick_f rfl rfl) (hd 21 rfl) ?_; refine jo_nil ?_; refine jc_litf rfl ?_; refine jc_skip ?_; refine jc_seq ?_; refine jc_region ?_; refine jo_l (ly_mv rfl) (hd 22 rfl) ?_; refine jo_l (ly_mv rfl) (hd 23 rfl) ?_
  refine jo_callN Try.f70 (all_n l b hl hu hlb hb2) (fun o G ⟨_, h⟩ => h ▸ idless_cons ints_id idless_nil) rfl Try.func70 rfl rfl (ovL_cons rfl (ovL_cons rfl ovL_nil)) (.cons .n (.cons .i .nil)) (hd 24 rfl) ?_ (fun ch G hp => by simp at hp)
  rintro y G ⟨hy, rfl⟩; injection hy with hy; subst hy
  show JO _ _ _ _ ((24, .o 0 0 0 (hdg b 1 (vl l).toNat).length) :: _) _ _
  refine jo_frz (k := .i64) (l := (hdg b 1 (vl l).toNat)) (l' := (hdg b 1 (vl l).toNat)) 24 rfl rfl (by omega) (by rw [List.drop_zero, List.take_length]) hL ?_
  refine jo_call Try.f69 (text_s (hdg b 1 (vl l).toNat) (by omega) (rng36 hb2 (hdg_rng hlb _ _))) rfl Try.func69 rfl rfl (ovL_cons rfl ovL_nil) (.cons .n .nil) (hd 25 rfl) ?_ (fun ch hp => by simp at hp)
  rintro y hy; injection hy with hy; subst hy; refine jo_l (ly_as rfl) (hd 8 rfl) ?_; refine jo_nil ?_; refine jc_seq ?_; refine jc_seq ?_; refine jc_region ?_; refine jo_l (ly_mv rfl) (hd 26 rfl) ?_; refine jo_l (ly_ff (ly_eq rfl rfl) (by omega)) (hd 27 rfl) ?_; refine jo_nil ?_; refine jc_litf rfl ?_; refine jc_skip ?_; refine jc_seq ?_; refine jc_block ?_
  refine jc_loopD (G := Nat) 1 (fun y => y = 0 ∨ y = (k + 1 - (hdg b 1 (vl l).toNat).length)) (fun y => [(8, .n true .u8 (bytesI (txt (padZ (hdg b 1 (vl l).toNat) y)))), (9, .u), (10, .u), (11, .u), (30, .u), (31, .u), (32, .u), (33, .u), (34, .u), (35, .u), (36, .u), (37, .u), (38, .u), (39, .u), (40, .u), (41, .u), (42, .u), (43, .u), (44, .u), (45, .u), (46, .u), (47, .u), (48, .u), (49, .u), (50, .u), (51, .u), (52, .u), (53, .u), (54, .u), (55, .u)]) (fun y => [⟨3, 1, 0, false, []⟩]) (fun y => (k + 1 - (hdg b 1 (vl l).toNat).length) - y) 0 ?_ ?_ rfl hR rfl (fun _ _ => rfl) (fun _ _ => .cons rfl .nil) ?_
  · exact .inl rfl
  · exact (.cons rfl (.u (.u (.u (.u (.u (.u (.u (.u (.u (.u (.u (.u (.u (.u (.u (.u (.u (.u (.u (.u (.u (.u (.u (.u (.u (.u (.u (.u (.u .nil))))))))))))))))))))))))))))))
  · rintro y hy
    have hyl : (bytesI (txt (padZ (hdg b 1 (vl l).toNat) y))).length = y + (hdg b 1 (vl l).toNat).length := by rw [bytesI_len, txt_size, padZ_len]
    refine jc_seq ?_; refine jc_seq ?_; refine jc_region ?_; refine jo_l (ly_mv rfl) (hd 30 rfl) ?_; refine jo_l (ly_lenn sl1104 rfl) (hd 31 rfl) ?_; refine jo_l (ly_mv rfl) (hd 32 rfl) ?_; refine jo_l (ly_le rfl rfl) (hd 33 rfl) ?_; refine jo_nil ?_
    refine jc_if rfl (fun h4 => ?_) (fun h4 => ?_)
    · obtain rfl : y = 0 := by omega
      refine jc_skip ?_; refine jc_block ?_; refine jc_seq ?_; refine jc_region ?_; refine jo_l (ly_mv rfl) (hd 34 rfl) ?_; refine jo_l (ly_add rfl rfl (r := ((k + 1 : Nat) : Int)) (by rw [wrap_i64 (by omega) (by omega)]; omega)) (hd 35 rfl) ?_; refine jo_l (ly_mv rfl) (hd 36 rfl) ?_; refine jo_l (ly_lenn sl1104 rfl) (hd 37 rfl) ?_; refine jo_l (ly_sub rfl rfl (r := (((k + 1 - (hdg b 1 (vl l).toNat).length) : Nat) : Int)) (by rw [wrap_i64 (by omega) (by omega)]; omega)) (hd 38 rfl) ?_; refine jo_l (ly_as rfl) (hd 9 rfl) ?_; refine jo_nil ?_; refine jc_seq ?_; refine jc_region ?_; refine jo_l (ly_mv rfl) (hd 39 rfl) ?_; refine jo_l (ly_mv rfl) (hd 40 rfl) ?_; refine jo_l (ly_mv rfl) (hd 41 rfl) ?_; refine jo_l (ly_lenn sl1104 rfl) (hd 42 rfl) ?_; refine jo_l (ly_add rfl rfl (r := (((k + 1 - (hdg b 1 (vl l).toNat).length) + (hdg b 1 (vl l).toNat).length : Nat) : Int)) (by rw [wrap_i64 (by omega) (by omega)]; omega)) (hd 43 rfl) ?_; refine jo_h (hy_mkS (l := (k + 1 - (hdg b 1 (vl l).toNat).length)) (m := (k + 1 - (hdg b 1 (vl l).toNat).length) + (bytesI (txt (hdg b 1 (vl l).toNat))).length) (zs := [.i .u8 0]) el1104 rfl rfl rfl (by rw [hbl]) (by omega) rfl rfl (by rw [hbl]; omega) (by unfold maxLen; rw [hbl]; omega) rfl) (hd 44 rfl) ?_; refine jo_l (ly_as rfl) (hd 10 rfl) ?_; refine jo_nil ?_; refine jc_seq ?_; refine jc_seq ?_; refine jc_region ?_; refine jo_l (ly_mv rfl) (hd 45 rfl) ?_; refine jo_l (ly_mv rfl) (hd 46 rfl) ?_; refine jo_nil ?_; refine jc_block ?_; refine jc_H (H' := [⟨3, 1, 0, false, []⟩, ⟨5, 1, 0, true, ints .u8 (zfill ((k + 1 - (hdg b 1 (vl l).toNat).length) + (bytesI (txt (hdg b 1 (vl l).toNat))).length) 0)⟩]) (by show [_, (⟨_, _, _, _, (List.replicate _ _).flatten⟩ : Ob)] = _; rw [zfill_mk]) ?_
      refine jc_loopF (G := Nat) (fun i => i ≤ (k + 1 - (hdg b 1 (vl l).toNat).length)) (fun i => [(46, .i .i64 (i : Int)), (11, .u), (47, .u), (48, .u), (49, .u), (50, .u), (51, .u), (52, .u)]) (fun i => [⟨3, 1, 0, false, []⟩, ⟨5, 1, 0, true, ints .u8 (zfill ((k + 1 - (hdg b 1 (vl l).toNat).length) + (bytesI (txt (hdg b 1 (vl l).toNat))).length) i)⟩]) (fun i => (k + 1 - (hdg b 1 (vl l).toNat).length) - i) 0 ?_ ?_ rfl ?_
      · exact Nat.zero_le _
      · exact (.cons rfl (.u (.u (.u (.u (.u (.u (.u .nil))))))))
      · rintro i hi
        have hzl := zfill_len (m := (k + 1 - (hdg b 1 (vl l).toNat).length) + (bytesI (txt (hdg b 1 (vl l).toNat))).length) (i := i) (by omega)
        refine jc_seq ?_; refine jc_region ?_; refine jo_l (ly_lt rfl rfl) (hd 47 rfl) ?_; refine jo_nil ?_; refine jc_seq ?_
        refine jc_if rfl (fun h5 => ?_) (fun h5 => ?_)
        · refine jc_skip ?_; refine jc_seq ?_; refine jc_block ?_; refine jc_seq ?_; refine jc_region ?_; refine jo_l (ly_mv rfl) (hd 48 rfl) ?_; refine jo_l (ly_as rfl) (hd 11 rfl) ?_; refine jo_nil ?_; refine jc_region ?_; refine jo_l (ly_mv rfl) (hd 49 rfl) ?_; refine jo_l (ly_mv rfl) (hd 50 rfl) ?_; refine jo_l (ly_ia (i := i) sl1104 rfl rfl rfl (by first | rfl | omega) (by omega) rfl) (hd 51 rfl) ?_; refine jo_st (sy_storei rfl rfl rfl one5 (by first | omega | (dsimp only; omega))) ?_; refine jo_nil ?_; refine jc_region ?_; refine jo_l (ly_add rfl rfl (r := ((i + 1 : Nat) : Int)) (by rw [wrap_i64 (by omega) (by omega)]; omega)) (hd 52 rfl) ?_; refine jo_l (ly_mv rfl) (hd 46 rfl) ?_; refine jo_nil ?_
          refine ⟨i + 1, ?_, ?_, (by show [_, (⟨5, 1, 0, true, ints .u8 ((zfill _ i).set ((0 + i) * 1) 48)⟩ : Ob)] = [_, ⟨5, 1, 0, true, ints .u8 (zfill _ (i + 1))⟩]; rw [zfill_set (by omega)]), cov_n 16 rfl rfl ?_⟩
          · omega
          · omega
          · exact (.cons rfl (.u (.u (.u (.u (.u (.u (.u .nil))))))))
        · obtain rfl : i = (k + 1 - (hdg b 1 (vl l).toNat).length) := by omega
          refine jc_exit ?_; refine jc_region ?_; refine jo_l (ly_mv rfl) (hd 53 rfl) ?_; refine jo_l (ly_mv rfl) (hd 54 rfl) ?_; refine jo_appin (m := (bytesI (txt (hdg b 1 (vl l).toNat))).length) (zs := ints .u8 (bytesI (txt (hdg b 1 (vl l).toNat)))) el1104 rfl rfl rfl src_n (by rw [hbl]; omega) (by rw [ints_length, zfill_len (by omega)]; omega) (hd 55 rfl) ?_; refine jo_frz (k := .u8) (l := List.replicate (k + 1 - (hdg b 1 (vl l).toNat).length) 48 ++ bytesI (txt (hdg b 1 (vl l).toNat))) (l' := bytesI (txt (padZ (hdg b 1 (vl l).toNat) (k + 1 - (hdg b 1 (vl l).toNat).length)))) 55 rfl (by show some (⟨5, 1, 0, true, setV _ (_ * 1) _⟩ : Ob) = some ⟨5, 1, 0, true, _⟩; rw [zfill_app]) (by rw [List.length_append, List.length_replicate]; omega) (by rw [List.drop_zero, ← bytes_pad, List.take_of_length_le (by rw [List.length_append, List.length_replicate]; omega)]) hL ?_; refine jo_l (ly_as rfl) (hd 8 rfl) ?_; refine jo_nil ?_
          refine ⟨(k + 1 - (hdg b 1 (vl l).toNat).length), ?_, ?_, rfl, cov_n 63 rfl rfl ?_⟩
          · exact .inr rfl
          · omega
          · exact (.cons rfl (.u (.u (.u (.u (.u (.u (.u (.u (.u (.u (.u (.u (.u (.u (.u (.u (.u (.u (.u (.u (.u (.u (.u (.u (.u (.u (.u (.u (.u .nil))))))))))))))))))))))))))))))
    · obtain rfl : y = (k + 1 - (hdg b 1 (vl l).toNat).length) := by omega
      have hws := txt_size (padZ (hdg b 1 (vl l).toNat) (k + 1 - (hdg b 1 (vl l).toNat).length))
      rw [padZ_len] at hws
      refine jc_exit ?_; refine jc_seq ?_; refine jc_region ?_; refine jo_l (ly_mv rfl) (hd 56 rfl) ?_; refine jo_l (ly_lenn sl1104 rfl) (hd 57 rfl) ?_; refine jo_l (ly_mv rfl) (hd 58 rfl) ?_; refine jo_l (ly_sub rfl rfl (r := (((txt (padZ (hdg b 1 (vl l).toNat) (k + 1 - (hdg b 1 (vl l).toNat).length))).size - k : Nat) : Int)) (by rw [wrap_i64 (by omega) (by omega)]; omega)) (hd 59 rfl) ?_; refine jo_l (ly_as rfl) (hd 12 rfl) ?_; refine jo_nil ?_; refine jc_seq ?_; refine jc_draw (n := 12) _ rfl mixed ?_; refine ja_l2 0 [2, 3, 4, 9, 10, 11] (lo_l (ly_mv rfl) (hd 60 rfl)) rfl (by kernel_rfl) (by kernel_rfl) (by kernel_rfl) (by kernel_rfl) (fun _ _ _ _ h => h) ?_; refine ja_l2 1 [2, 3, 4, 9, 10, 11] (lo_l (ly_mv rfl) (hd 61 rfl)) rfl (by kernel_rfl) (by kernel_rfl) (by kernel_rfl) (by kernel_rfl) (fun _ _ _ _ h => h) ?_; refine ja_l2 2 [3, 4, 9, 10, 11] (lo_l (ly_is (ly_sln sl1104 rfl bnd_none (bnd_some' rfl rfl) (.inl rfl) (by omega) (by omega)) (show V.n _ _ _ = V.n true .u8 (bytesI ((txt (padZ (hdg b 1 (vl l).toNat) (k + 1 - (hdg b 1 (vl l).toNat).length))).extract 0 ((txt (padZ (hdg b 1 (vl l).toNat) (k + 1 - (hdg b 1 (vl l).toNat).length))).size - k))) by rw [bytesI_ext])) (hd 62 rfl)) rfl (by kernel_rfl) (by kernel_rfl) (by kernel_rfl) (by kernel_rfl) (fun _ _ _ _ h => h) ?_; refine ja_l2 5 [7, 8, 9, 10, 11] (lo_l (ly_mv rfl) (hd 65 rfl)) rfl (by kernel_rfl) (by kernel_rfl) (by kernel_rfl) (by kernel_rfl) (fun _ _ _ _ h => h) ?_; refine ja_l2 6 [7, 8, 9, 10, 11] (lo_l (ly_mv rfl) (hd 66 rfl)) rfl (by kernel_rfl) (by kernel_rfl) (by kernel_rfl) (by kernel_rfl) (fun _ _ _ _ h => h) ?_; refine ja_l2 7 [8, 9, 10, 11] (lo_l (ly_is (ly_sln sl1104 rfl (bnd_some' rfl rfl) bnd_none (.inl rfl) (by omega) (by omega)) (show V.n _ _ _ = V.n true .u8 (bytesI ((txt (padZ (hdg b 1 (vl l).toNat) (k + 1 - (hdg b 1 (vl l).toNat).length))).extract ((txt (padZ (hdg b 1 (vl l).toNat) (k + 1 - (hdg b 1 (vl l).toNat).length))).size - k) (txt (padZ (hdg b 1 (vl l).toNat) (k + 1 - (hdg b 1 (vl l).toNat).length))).size)) by rw [← bytesI_ext, bytesI_len])) (hd 67 rfl)) rfl (by kernel_rfl) (by kernel_rfl) (by kernel_rfl) (by kernel_rfl) (fun _ _ _ _ h => h) ?_
      refine ja_2 3 8 ?_ ?_ rfl rfl (by kernel_rfl)
      · refine js_l (ly_b2s undS1104 und5 und9 rfl) (hd 63 rfl) ?_; refine ja_l 4 (lo_l (ly_adds rfl rfl (by have h1 := ext_size (txt (padZ (hdg b 1 (vl l).toNat) (k + 1 - (hdg b 1 (vl l).toNat).length))) 0 ((txt (padZ (hdg b 1 (vl l).toNat) (k + 1 - (hdg b 1 (vl l).toNat).length))).size - k); show ((_ + 1 : Nat) : Int) ≤ 9223372036854775807; omega)) (hd 64 rfl)) rfl (by kernel_rfl) (by kernel_rfl) (by kernel_rfl) (fun _ _ _ _ h => h) ?_
        refine ja_1 8 ?_ rfl (by kernel_rfl)
        refine js_l (ly_b2s undS1104 und5 und9 rfl) (hd 68 rfl) ?_; refine ja_l 9 (lo_l (ly_adds rfl rfl (by have h1 := ext_size (txt (padZ (hdg b 1 (vl l).toNat) (k + 1 - (hdg b 1 (vl l).toNat).length))) 0 ((txt (padZ (hdg b 1 (vl l).toNat) (k + 1 - (hdg b 1 (vl l).toNat).length))).size - k); have h2 := ext_size (txt (padZ (hdg b 1 (vl l).toNat) (k + 1 - (hdg b 1 (vl l).toNat).length))) ((txt (padZ (hdg b 1 (vl l).toNat) (k + 1 - (hdg b 1 (vl l).toNat).length))).size - k) (txt (padZ (hdg b 1 (vl l).toNat) (k + 1 - (hdg b 1 (vl l).toNat).length))).size; rw [ByteArray.size_append]; show (((_ + 1) + _ : Nat) : Int) ≤ 9223372036854775807; omega)) (hd 69 rfl)) rfl (by kernel_rfl) (by kernel_rfl) (by kernel_rfl) (fun _ _ _ _ h => h) ?_; refine ja_l 10 (lo_l (ly_as rfl) (hd 6 rfl)) rfl (by kernel_rfl) (by kernel_rfl) (by kernel_rfl) (fun _ _ _ _ h => h) ?_; refine ja_l 11 (lo_l (ly_as rfl) (hd 7 rfl)) rfl (by kernel_rfl) (by kernel_rfl) (by kernel_rfl) (fun _ _ _ _ h => h) ?_; refine ja_nil (by kernel_rfl) ?_; refine jc_ret ?_
        refine ⟨_, _, (.cons rfl (.cons rfl .nil)), (.t1 .s (.t1 .i .t0)), ?_⟩
        exact rfl
      · refine js_l (ly_b2s undS1104 und5 und9 rfl) (hd 68 rfl) ?_
        refine ja_1 3 ?_ rfl (by kernel_rfl)
        refine js_l (ly_b2s undS1104 und5 und9 rfl) (hd 63 rfl) ?_; refine ja_l 4 (lo_l (ly_adds rfl rfl (by have h1 := ext_size (txt (padZ (hdg b 1 (vl l).toNat) (k + 1 - (hdg b 1 (vl l).toNat).length))) 0 ((txt (padZ (hdg b 1 (vl l).toNat) (k + 1 - (hdg b 1 (vl l).toNat).length))).size - k); show ((_ + 1 : Nat) : Int) ≤ 9223372036854775807; omega)) (hd 64 rfl)) rfl (by kernel_rfl) (by kernel_rfl) (by kernel_rfl) (fun _ _ _ _ h => h) ?_; refine ja_l 9 (lo_l (ly_adds rfl rfl (by have h1 := ext_size (txt (padZ (hdg b 1 (vl l).toNat) (k + 1 - (hdg b 1 (vl l).toNat).length))) 0 ((txt (padZ (hdg b 1 (vl l).toNat) (k + 1 - (hdg b 1 (vl l).toNat).length))).size - k); have h2 := ext_size (txt (padZ (hdg b 1 (vl l).toNat) (k + 1 - (hdg b 1 (vl l).toNat).length))) ((txt (padZ (hdg b 1 (vl l).toNat) (k + 1 - (hdg b 1 (vl l).toNat).length))).size - k) (txt (padZ (hdg b 1 (vl l).toNat) (k + 1 - (hdg b 1 (vl l).toNat).length))).size; rw [ByteArray.size_append]; show (((_ + 1) + _ : Nat) : Int) ≤ 9223372036854775807; omega)) (hd 69 rfl)) rfl (by kernel_rfl) (by kernel_rfl) (by kernel_rfl) (fun _ _ _ _ h => h) ?_; refine ja_l 10 (lo_l (ly_as rfl) (hd 6 rfl)) rfl (by kernel_rfl) (by kernel_rfl) (by kernel_rfl) (fun _ _ _ _ h => h) ?_; refine ja_l 11 (lo_l (ly_as rfl) (hd 7 rfl)) rfl (by kernel_rfl) (by kernel_rfl) (by kernel_rfl) (fun _ _ _ _ h => h) ?_; refine ja_nil (by kernel_rfl) ?_; refine jc_ret ?_
        refine ⟨_, _, (.cons rfl (.cons rfl .nil)), (.t1 .s (.t1 .i .t0)), ?_⟩
        exact rfl

set_option maxHeartbeats 4000000 in
theorem Point_b (l : List Int) (b k : Int) (hb : ¬ (2 ≤ b ∧ b ≤ 36)) : Spec Try.prog 34 [.n false .u64 l, .i .i64 b, .i .i64 k] (fun o => o = .ret (.t [.s .empty, .i .i64 50])) := by
  refine spec_of' [(0, .n false .u64 l), (1, .i .i64 b), (2, .i .i64 k)] rfl Try.func34 rfl (Nat.le_of_ble_eq_true rfl) fun Γ hN hds hL hR => ?_
  have hd : ∀ d, Nat.blt d 70 = true → d < Γ.N := fun d h => by rw [hN]; exact Nat.le_of_ble_eq_true h
  refine jc_seq ?_; refine jc_region ?_; refine jo_l (ly_as rfl) (hd 6 rfl) ?_; refine jo_l (ly_as rfl) (hd 7 rfl) ?_; refine jo_nil ?_; refine jc_seq ?_; refine jc_seq ?_; refine jc_region ?_; refine jo_l (ly_mv rfl) (hd 13 rfl) ?_
  refine jo_call Try.f66 (good_n b hb) rfl Try.func66 rfl rfl (ovL_cons rfl ovL_nil) (.cons .i .nil) (hd 14 rfl) ?_ (fun ch hp => by simp at hp)
  rintro y hy; injection hy with hy; subst hy; refine jo_l (ly_not rfl) (hd 15 rfl) ?_; refine jo_nil ?_; refine jc_litt rfl ?_; refine jc_seq ?_; refine jc_region ?_; refine jo_l (ly_as rfl) (hd 6 rfl) ?_; refine jo_l (ly_as rfl) (hd 7 rfl) ?_; refine jo_nil ?_; refine jc_ret ?_
  refine ⟨_, _, (.cons rfl (.cons rfl .nil)), (.t1 .s (.t1 .i .t0)), ?_⟩
  exact rfl

set_option maxHeartbeats 4000000 in
theorem Point_r (l : List Int) (b : Nat) (k : Int) (hlb : 2 ≤ b) (hb2 : b ≤ 36) (hk : ¬ (0 ≤ k ∧ k ≤ 1048576)) : Spec Try.prog 34 [.n false .u64 l, .i .i64 (b : Int), .i .i64 k] (fun o => o = .ret (.t [.s .empty, .i .i64 1])) := by
  refine spec_of' [(0, .n false .u64 l), (1, .i .i64 (b : Int)), (2, .i .i64 k)] rfl Try.func34 rfl (Nat.le_of_ble_eq_true rfl) fun Γ hN hds hL hR => ?_
  have hd : ∀ d, Nat.blt d 70 = true → d < Γ.N := fun d h => by rw [hN]; exact Nat.le_of_ble_eq_true h
  refine jc_seq ?_; refine jc_region ?_; refine jo_l (ly_as rfl) (hd 6 rfl) ?_; refine jo_l (ly_as rfl) (hd 7 rfl) ?_; refine jo_nil ?_; refine jc_seq ?_; refine jc_seq ?_; refine jc_region ?_; refine jo_l (ly_mv rfl) (hd 13 rfl) ?_
  refine jo_call Try.f66 (good_y b hlb hb2) rfl Try.func66 rfl rfl (ovL_cons rfl ovL_nil) (.cons .i .nil) (hd 14 rfl) ?_ (fun ch hp => by simp at hp)
  rintro y hy; injection hy with hy; subst hy; refine jo_l (ly_not rfl) (hd 15 rfl) ?_; refine jo_nil ?_; refine jc_litf rfl ?_; refine jc_skip ?_; refine jc_seq ?_; refine jc_seq ?_; refine jc_region ?_; refine jo_l (ly_mv rfl) (hd 16 rfl) ?_; refine jo_l (ly_lt rfl rfl) (hd 17 rfl) ?_; refine jo_l (ly_mv rfl) (hd 18 rfl) ?_
  refine jo_ifp 18 rfl (fun h2 => ?_) (fun h2 => ?_)
  · refine jo_s 18 rfl rfl rfl (hd 19 rfl) ?_; refine jo_s 18 rfl rfl rfl (hd 20 rfl) ?_; refine jo_l (ly_pick_t rfl rfl) (hd 21 rfl) ?_; refine jo_nil ?_; refine jc_litt rfl ?_; refine jc_seq ?_; refine jc_region ?_; refine jo_l (ly_as rfl) (hd 6 rfl) ?_; refine jo_l (ly_as rfl) (hd 7 rfl) ?_; refine jo_nil ?_; refine jc_ret ?_
    refine ⟨_, _, (.cons rfl (.cons rfl .nil)), (.t1 .s (.t1 .i .t0)), ?_⟩
    exact rfl
  · refine jo_g 18 rfl rfl (ly_mv rfl) (hd 19 rfl) ?_; refine jo_g 18 rfl rfl (ly_gt rfl rfl) (hd 20 rfl) ?_; refine jo_l (ly_pick_f rfl rfl) (hd 21 rfl) ?_; refine jo_nil ?_
    refine jc_if rfl (fun h4 => ?_) (fun h4 => ?_)
    · refine jc_seq ?_; refine jc_region ?_; refine jo_l (ly_as rfl) (hd 6 rfl) ?_; refine jo_l (ly_as rfl) (hd 7 rfl) ?_; refine jo_nil ?_; refine jc_ret ?_
      refine ⟨_, _, (.cons rfl (.cons rfl .nil)), (.t1 .s (.t1 .i .t0)), ?_⟩
      exact rfl
    · exfalso
      omega

set_option maxHeartbeats 4000000 in
theorem rPoint_0 (l X : List Int) (b : Nat)  (hRl : (hdg b 1 (vl l).toNat).length ≤ 67108864) (hr36 : rng 36 (hdg b 1 (vl l).toNat)) (hD : Spec Try.prog 31 [.n false .u64 X, .i .i64 (b : Int)] (fun o => o = .ret (.t [.n false .i64 (hdg b 1 (vl l).toNat), .i .i64 0]))) : Spec Try.prog 35 [.n false .u64 X, .i .i64 (b : Int), .i .i64 0] (fun o => o = .ret (.t [.s (txt (hdg b 1 (vl l).toNat)), .i .i64 0])) := by
  refine spec_of' [(0, .n false .u64 X), (1, .i .i64 (b : Int)), (2, .i .i64 0)] rfl Try.func35 rfl (Nat.le_of_ble_eq_true rfl) fun Γ hN hds hL hR => ?_
  have hd : ∀ d, Nat.blt d 48 = true → d < Γ.N := fun d h => by rw [hN]; exact Nat.le_of_ble_eq_true h
  have hRp : 1 ≤ (hdg b 1 (vl l).toNat).length := by rw [hdg_le]; omega
  refine jc_seq ?_; refine jc_region ?_; refine jo_l (ly_as rfl) (hd 6 rfl) ?_; refine jo_l (ly_as rfl) (hd 7 rfl) ?_; refine jo_nil ?_; refine jc_seq ?_; refine jc_region ?_; refine jo_l (ly_mv rfl) (hd 11 rfl) ?_; refine jo_l (ly_mv rfl) (hd 12 rfl) ?_
  refine jo_call Try.f30 (rPrint_g X (hdg b 1 (vl l).toNat) b 0 (by omega) hr36 hD) rfl Try.func30 rfl rfl (ovL_cons rfl (ovL_cons rfl ovL_nil)) (.cons .n (.cons .i .nil)) (hd 13 rfl) ?_ (fun ch hp => by simp at hp)
  rintro y hy; injection hy with hy; subst hy; refine jo_l (ly_mv rfl) (hd 10 rfl) ?_; refine jo_l (ly_ext rfl rfl) (hd 14 rfl) ?_; refine jo_l (ly_ext rfl rfl) (hd 15 rfl) ?_; refine jo_l (ly_as rfl) (hd 8 rfl) ?_; refine jo_l (ly_as rfl) (hd 9 rfl) ?_; refine jo_nil ?_; refine jc_seq ?_; refine jc_seq ?_; refine jc_region ?_; refine jo_l (ly_mv rfl) (hd 16 rfl) ?_; refine jo_l (ly_ff (ly_ne rfl rfl) (by decide)) (hd 17 rfl) ?_; refine jo_nil ?_; refine jc_litf rfl ?_; refine jc_skip ?_; refine jc_seq ?_; refine jc_seq ?_; refine jc_region ?_; refine jo_l (ly_mv rfl) (hd 19 rfl) ?_; refine jo_l (ly_ff (ly_lt rfl rfl) (by omega)) (hd 20 rfl) ?_; refine jo_l (ly_mv rfl) (hd 21 rfl) ?_; refine jo_g 21 rfl rfl (ly_mv rfl) (hd 22 rfl) ?_; refine jo_g 21 rfl rfl (ly_ff (ly_gt rfl rfl) (by omega)) (hd 23 rfl) ?_; refine jo_l (ly_pick_f rfl rfl) (hd 24 rfl) ?_; refine jo_nil ?_; refine jc_litf rfl ?_; refine jc_skip ?_; refine jc_seq ?_; refine jc_block ?_
  refine jc_loopF (G := Nat) (fun j => j ≤ (0 + 1 - (hdg b 1 (vl l).toNat).length)) (fun j => [(8, .s (txt (padZ (hdg b 1 (vl l).toNat) j))), (25, .u), (26, .u), (27, .u), (28, .u), (29, .u), (30, .u)]) (fun _ => _) (fun j => (0 + 1 - (hdg b 1 (vl l).toNat).length) - j) 0 ?_ ?_ rfl ?_
  · exact Nat.zero_le _
  · exact (.cons rfl (.u (.u (.u (.u (.u (.u .nil)))))))
  · rintro j hj
    have hws := txt_size (padZ (hdg b 1 (vl l).toNat) j)
    rw [padZ_len] at hws
    refine jc_seq ?_; refine jc_seq ?_; refine jc_region ?_; refine jo_l (ly_mv rfl) (hd 25 rfl) ?_; refine jo_l (ly_lens und9 rfl) (hd 26 rfl) ?_; refine jo_l (ly_mv rfl) (hd 27 rfl) ?_; refine jo_l (ly_le rfl rfl) (hd 28 rfl) ?_; refine jo_nil ?_
    refine jc_if rfl (fun h3 => ?_) (fun h3 => ?_)
    · refine jc_skip ?_; refine jc_block ?_; refine jc_region ?_; refine jo_l (ly_mv rfl) (hd 29 rfl) ?_; refine jo_l (ly_adds rfl rfl (by show ((1 + _ : Nat) : Int) ≤ 9223372036854775807; omega)) (hd 30 rfl) ?_; refine jo_l (ly_as rfl) (hd 8 rfl) ?_; refine jo_nil ?_
      refine ⟨j + 1, ?_, ?_, rfl, cov_n 14 rfl rfl ?_⟩
      · omega
      · omega
      · exact (.cons (by show some (V.s _) = some (V.s _); rw [← txt_padZ]) (.u (.u (.u (.u (.u (.u .nil)))))))
    · obtain rfl : j = (0 + 1 - (hdg b 1 (vl l).toNat).length) := by omega
      refine jc_exit ?_; refine jc_seq ?_; refine jc_seq ?_; refine jc_region ?_; refine jo_l (ly_mv rfl) (hd 31 rfl) ?_; refine jo_l (ly_tt (ly_eq rfl rfl) (by omega)) (hd 32 rfl) ?_; refine jo_nil ?_; refine jc_litt rfl ?_; refine jc_seq ?_; refine jc_region ?_; refine jo_l (ly_mv rfl) (hd 33 rfl) ?_; refine jo_l (ly_as rfl) (hd 6 rfl) ?_; refine jo_l (ly_as rfl) (hd 7 rfl) ?_; refine jo_nil ?_; refine jc_ret ?_
      refine ⟨_, _, (.cons rfl (.cons rfl .nil)), (.t1 .s (.t1 .i .t0)), ?_⟩
      rw [show 0 + 1 - (hdg b 1 (vl l).toNat).length = 0 by omega]; rfl

set_option maxHeartbeats 4000000 in
theorem rPoint_k (l X : List Int) (b : Nat) (k : Nat) (hk0 : k ≠ 0) (hk : k ≤ 1048576) (hRl : (hdg b 1 (vl l).toNat).length ≤ 67108864) (hr36 : rng 36 (hdg b 1 (vl l).toNat)) (hD : Spec Try.prog 31 [.n false .u64 X, .i .i64 (b : Int)] (fun o => o = .ret (.t [.n false .i64 (hdg b 1 (vl l).toNat), .i .i64 0]))) : Spec Try.prog 35 [.n false .u64 X, .i .i64 (b : Int), .i .i64 (k : Int)] (fun o => o = .ret (.t [.s (ptx (txt (padZ (hdg b 1 (vl l).toNat) (k + 1 - (hdg b 1 (vl l).toNat).length))) k), .i .i64 0])) := by
  refine spec_of' [(0, .n false .u64 X), (1, .i .i64 (b : Int)), (2, .i .i64 (k : Int))] rfl Try.func35 rfl (Nat.le_of_ble_eq_true rfl) fun Γ hN hds hL hR => ?_
  have hd : ∀ d, Nat.blt d 48 = true → d < Γ.N := fun d h => by rw [hN]; exact Nat.le_of_ble_eq_true h
  have hRp : 1 ≤ (hdg b 1 (vl l).toNat).length := by rw [hdg_le]; omega
  refine jc_seq ?_; refine jc_region ?_; refine jo_l (ly_as rfl) (hd 6 rfl) ?_; refine jo_l (ly_as rfl) (hd 7 rfl) ?_; refine jo_nil ?_; refine jc_seq ?_; refine jc_region ?_; refine jo_l (ly_mv rfl) (hd 11 rfl) ?_; refine jo_l (ly_mv rfl) (hd 12 rfl) ?_
  refine jo_call Try.f30 (rPrint_g X (hdg b 1 (vl l).toNat) b 0 (by omega) hr36 hD) rfl Try.func30 rfl rfl (ovL_cons rfl (ovL_cons rfl ovL_nil)) (.cons .n (.cons .i .nil)) (hd 13 rfl) ?_ (fun ch hp => by simp at hp)
  rintro y hy; injection hy with hy; subst hy; refine jo_l (ly_mv rfl) (hd 10 rfl) ?_; refine jo_l (ly_ext rfl rfl) (hd 14 rfl) ?_; refine jo_l (ly_ext rfl rfl) (hd 15 rfl) ?_; refine jo_l (ly_as rfl) (hd 8 rfl) ?_; refine jo_l (ly_as rfl) (hd 9 rfl) ?_; refine jo_nil ?_; refine jc_seq ?_; refine jc_seq ?_; refine jc_region ?_; refine jo_l (ly_mv rfl) (hd 16 rfl) ?_; refine jo_l (ly_ff (ly_ne rfl rfl) (by decide)) (hd 17 rfl) ?_; refine jo_nil ?_; refine jc_litf rfl ?_; refine jc_skip ?_; refine jc_seq ?_; refine jc_seq ?_; refine jc_region ?_; refine jo_l (ly_mv rfl) (hd 19 rfl) ?_; refine jo_l (ly_ff (ly_lt rfl rfl) (by omega)) (hd 20 rfl) ?_; refine jo_l (ly_mv rfl) (hd 21 rfl) ?_; refine jo_g 21 rfl rfl (ly_mv rfl) (hd 22 rfl) ?_; refine jo_g 21 rfl rfl (ly_ff (ly_gt rfl rfl) (by omega)) (hd 23 rfl) ?_; refine jo_l (ly_pick_f rfl rfl) (hd 24 rfl) ?_; refine jo_nil ?_; refine jc_litf rfl ?_; refine jc_skip ?_; refine jc_seq ?_; refine jc_block ?_
  refine jc_loopF (G := Nat) (fun j => j ≤ (k + 1 - (hdg b 1 (vl l).toNat).length)) (fun j => [(8, .s (txt (padZ (hdg b 1 (vl l).toNat) j))), (25, .u), (26, .u), (27, .u), (28, .u), (29, .u), (30, .u)]) (fun _ => _) (fun j => (k + 1 - (hdg b 1 (vl l).toNat).length) - j) 0 ?_ ?_ rfl ?_
  · exact Nat.zero_le _
  · exact (.cons rfl (.u (.u (.u (.u (.u (.u .nil)))))))
  · rintro j hj
    have hws := txt_size (padZ (hdg b 1 (vl l).toNat) j)
    rw [padZ_len] at hws
    refine jc_seq ?_; refine jc_seq ?_; refine jc_region ?_; refine jo_l (ly_mv rfl) (hd 25 rfl) ?_; refine jo_l (ly_lens und9 rfl) (hd 26 rfl) ?_; refine jo_l (ly_mv rfl) (hd 27 rfl) ?_; refine jo_l (ly_le rfl rfl) (hd 28 rfl) ?_; refine jo_nil ?_
    refine jc_if rfl (fun h3 => ?_) (fun h3 => ?_)
    · refine jc_skip ?_; refine jc_block ?_; refine jc_region ?_; refine jo_l (ly_mv rfl) (hd 29 rfl) ?_; refine jo_l (ly_adds rfl rfl (by show ((1 + _ : Nat) : Int) ≤ 9223372036854775807; omega)) (hd 30 rfl) ?_; refine jo_l (ly_as rfl) (hd 8 rfl) ?_; refine jo_nil ?_
      refine ⟨j + 1, ?_, ?_, rfl, cov_n 14 rfl rfl ?_⟩
      · omega
      · omega
      · exact (.cons (by show some (V.s _) = some (V.s _); rw [← txt_padZ]) (.u (.u (.u (.u (.u (.u .nil)))))))
    · obtain rfl : j = (k + 1 - (hdg b 1 (vl l).toNat).length) := by omega
      refine jc_exit ?_; refine jc_seq ?_; refine jc_seq ?_; refine jc_region ?_; refine jo_l (ly_mv rfl) (hd 31 rfl) ?_; refine jo_l (ly_ff (ly_eq rfl rfl) (by omega)) (hd 32 rfl) ?_; refine jo_nil ?_; refine jc_litf rfl ?_; refine jc_skip ?_; refine jc_seq ?_; refine jc_draw (n := 16) _ rfl mixed ?_; refine ja_l2 0 [5, 6, 13, 14, 15] (lo_l (ly_mv rfl) (hd 34 rfl)) rfl (by kernel_rfl) (by kernel_rfl) (by kernel_rfl) (by kernel_rfl) (fun _ _ _ _ h => h) ?_; refine ja_l2 1 [2, 4, 5, 6, 13, 14, 15] (lo_l (ly_mv rfl) (hd 35 rfl)) rfl (by kernel_rfl) (by kernel_rfl) (by kernel_rfl) (by kernel_rfl) (fun _ _ _ _ h => h) ?_; refine ja_l2 2 [4, 5, 6, 13, 14, 15] (lo_l (ly_lens und9 rfl) (hd 36 rfl)) rfl (by kernel_rfl) (by kernel_rfl) (by kernel_rfl) (by kernel_rfl) (fun _ _ _ _ h => h) ?_; refine ja_l2 3 [4, 5, 6, 13, 14, 15] (lo_l (ly_mv rfl) (hd 37 rfl)) rfl (by kernel_rfl) (by kernel_rfl) (by kernel_rfl) (by kernel_rfl) (fun _ _ _ _ h => h) ?_; refine ja_l2 4 [5, 6, 13, 14, 15] (lo_l (ly_sub rfl rfl (r := (((txt (padZ (hdg b 1 (vl l).toNat) (k + 1 - (hdg b 1 (vl l).toNat).length))).size - k : Nat) : Int)) (by rw [wrap_i64 (by omega) (by omega)]; omega)) (hd 38 rfl)) rfl (by kernel_rfl) (by kernel_rfl) (by kernel_rfl) (by kernel_rfl) (fun _ _ _ _ h => h) ?_; refine ja_l2 5 [6, 13, 14, 15] (lo_l (ly_sls und9 rfl bnd_none (bnd_some' rfl rfl) (by omega) (by omega)) (hd 39 rfl)) rfl (by kernel_rfl) (by kernel_rfl) (by kernel_rfl) (by kernel_rfl) (fun _ _ _ _ h => h) ?_; refine ja_l 6 (lo_l (ly_adds rfl rfl (by have h1 := ext_size (txt (padZ (hdg b 1 (vl l).toNat) (k + 1 - (hdg b 1 (vl l).toNat).length))) 0 ((txt (padZ (hdg b 1 (vl l).toNat) (k + 1 - (hdg b 1 (vl l).toNat).length))).size - k); show ((_ + 1 : Nat) : Int) ≤ 9223372036854775807; omega)) (hd 40 rfl)) rfl (by kernel_rfl) (by kernel_rfl) (by kernel_rfl) (fun _ _ _ _ h => h) ?_; refine ja_l2 7 [12, 13, 14, 15] (lo_l (ly_mv rfl) (hd 41 rfl)) rfl (by kernel_rfl) (by kernel_rfl) (by kernel_rfl) (by kernel_rfl) (fun _ _ _ _ h => h) ?_; refine ja_l2 8 [9, 11, 12, 13, 14, 15] (lo_l (ly_mv rfl) (hd 42 rfl)) rfl (by kernel_rfl) (by kernel_rfl) (by kernel_rfl) (by kernel_rfl) (fun _ _ _ _ h => h) ?_; refine ja_l2 9 [11, 12, 13, 14, 15] (lo_l (ly_lens und9 rfl) (hd 43 rfl)) rfl (by kernel_rfl) (by kernel_rfl) (by kernel_rfl) (by kernel_rfl) (fun _ _ _ _ h => h) ?_; refine ja_l2 10 [11, 12, 13, 14, 15] (lo_l (ly_mv rfl) (hd 44 rfl)) rfl (by kernel_rfl) (by kernel_rfl) (by kernel_rfl) (by kernel_rfl) (fun _ _ _ _ h => h) ?_; refine ja_l2 11 [12, 13, 14, 15] (lo_l (ly_sub rfl rfl (r := (((txt (padZ (hdg b 1 (vl l).toNat) (k + 1 - (hdg b 1 (vl l).toNat).length))).size - k : Nat) : Int)) (by rw [wrap_i64 (by omega) (by omega)]; omega)) (hd 45 rfl)) rfl (by kernel_rfl) (by kernel_rfl) (by kernel_rfl) (by kernel_rfl) (fun _ _ _ _ h => h) ?_; refine ja_l 12 (lo_l (ly_sls und9 rfl (bnd_some' rfl rfl) bnd_none (by omega) (by omega)) (hd 46 rfl)) rfl (by kernel_rfl) (by kernel_rfl) (by kernel_rfl) (fun _ _ _ _ h => h) ?_; refine ja_l 13 (lo_l (ly_adds rfl rfl (by have h1 := ext_size (txt (padZ (hdg b 1 (vl l).toNat) (k + 1 - (hdg b 1 (vl l).toNat).length))) 0 ((txt (padZ (hdg b 1 (vl l).toNat) (k + 1 - (hdg b 1 (vl l).toNat).length))).size - k); have h2 := ext_size (txt (padZ (hdg b 1 (vl l).toNat) (k + 1 - (hdg b 1 (vl l).toNat).length))) ((txt (padZ (hdg b 1 (vl l).toNat) (k + 1 - (hdg b 1 (vl l).toNat).length))).size - k) (txt (padZ (hdg b 1 (vl l).toNat) (k + 1 - (hdg b 1 (vl l).toNat).length))).size; rw [ByteArray.size_append]; show (((_ + 1) + _ : Nat) : Int) ≤ 9223372036854775807; omega)) (hd 47 rfl)) rfl (by kernel_rfl) (by kernel_rfl) (by kernel_rfl) (fun _ _ _ _ h => h) ?_; refine ja_l 14 (lo_l (ly_as rfl) (hd 6 rfl)) rfl (by kernel_rfl) (by kernel_rfl) (by kernel_rfl) (fun _ _ _ _ h => h) ?_; refine ja_l 15 (lo_l (ly_as rfl) (hd 7 rfl)) rfl (by kernel_rfl) (by kernel_rfl) (by kernel_rfl) (fun _ _ _ _ h => h) ?_; refine ja_nil (by kernel_rfl) ?_; refine jc_ret ?_
      refine ⟨_, _, (.cons rfl (.cons rfl .nil)), (.t1 .s (.t1 .i .t0)), ?_⟩
      exact rfl

set_option maxHeartbeats 4000000 in
theorem rPoint_b (X : List Int) (b k : Int) (hb : ¬ (2 ≤ b ∧ b ≤ 36)) : Spec Try.prog 35 [.n false .u64 X, .i .i64 b, .i .i64 k] (fun o => o = .ret (.t [.s .empty, .i .i64 50])) := by
  refine spec_of' [(0, .n false .u64 X), (1, .i .i64 b), (2, .i .i64 k)] rfl Try.func35 rfl (Nat.le_of_ble_eq_true rfl) fun Γ hN hds hL hR => ?_
  have hd : ∀ d, Nat.blt d 48 = true → d < Γ.N := fun d h => by rw [hN]; exact Nat.le_of_ble_eq_true h
  refine jc_seq ?_; refine jc_region ?_; refine jo_l (ly_as rfl) (hd 6 rfl) ?_; refine jo_l (ly_as rfl) (hd 7 rfl) ?_; refine jo_nil ?_; refine jc_seq ?_; refine jc_region ?_; refine jo_l (ly_mv rfl) (hd 11 rfl) ?_; refine jo_l (ly_mv rfl) (hd 12 rfl) ?_
  refine jo_call Try.f30 (rPrint_g X [] b 50 (Nat.zero_le _) (fun x hx => by simp at hx) (rDigits_b X b hb)) rfl Try.func30 rfl rfl (ovL_cons rfl (ovL_cons rfl ovL_nil)) (.cons .n (.cons .i .nil)) (hd 13 rfl) ?_ (fun ch hp => by simp at hp)
  rintro y hy; injection hy with hy; subst hy; refine jo_l (ly_mv rfl) (hd 10 rfl) ?_; refine jo_l (ly_ext rfl rfl) (hd 14 rfl) ?_; refine jo_l (ly_ext rfl rfl) (hd 15 rfl) ?_; refine jo_l (ly_as rfl) (hd 8 rfl) ?_; refine jo_l (ly_as rfl) (hd 9 rfl) ?_; refine jo_nil ?_; refine jc_seq ?_; refine jc_seq ?_; refine jc_region ?_; refine jo_l (ly_mv rfl) (hd 16 rfl) ?_; refine jo_l (ly_tt (ly_ne rfl rfl) (by decide)) (hd 17 rfl) ?_; refine jo_nil ?_; refine jc_litt rfl ?_; refine jc_seq ?_; refine jc_region ?_; refine jo_l (ly_mv rfl) (hd 18 rfl) ?_; refine jo_l (ly_as rfl) (hd 6 rfl) ?_; refine jo_l (ly_as rfl) (hd 7 rfl) ?_; refine jo_nil ?_; refine jc_ret ?_
  refine ⟨_, _, (.cons rfl (.cons rfl .nil)), (.t1 .s (.t1 .i .t0)), ?_⟩
  exact rfl

set_option maxHeartbeats 4000000 in
theorem rPoint_r (l X : List Int) (b : Nat) (k : Int) (hk : ¬ (0 ≤ k ∧ k ≤ 1048576)) (hRl : (hdg b 1 (vl l).toNat).length ≤ 67108864) (hr36 : rng 36 (hdg b 1 (vl l).toNat)) (hD : Spec Try.prog 31 [.n false .u64 X, .i .i64 (b : Int)] (fun o => o = .ret (.t [.n false .i64 (hdg b 1 (vl l).toNat), .i .i64 0]))) : Spec Try.prog 35 [.n false .u64 X, .i .i64 (b : Int), .i .i64 k] (fun o => o = .ret (.t [.s .empty, .i .i64 1])) := by
  refine spec_of' [(0, .n false .u64 X), (1, .i .i64 (b : Int)), (2, .i .i64 k)] rfl Try.func35 rfl (Nat.le_of_ble_eq_true rfl) fun Γ hN hds hL hR => ?_
  have hd : ∀ d, Nat.blt d 48 = true → d < Γ.N := fun d h => by rw [hN]; exact Nat.le_of_ble_eq_true h
  refine jc_seq ?_; refine jc_region ?_; refine jo_l (ly_as rfl) (hd 6 rfl) ?_; refine jo_l (ly_as rfl) (hd 7 rfl) ?_; refine jo_nil ?_; refine jc_seq ?_; refine jc_region ?_; refine jo_l (ly_mv rfl) (hd 11 rfl) ?_; refine jo_l (ly_mv rfl) (hd 12 rfl) ?_
  refine jo_call Try.f30 (rPrint_g X (hdg b 1 (vl l).toNat) b 0 (by omega) hr36 hD) rfl Try.func30 rfl rfl (ovL_cons rfl (ovL_cons rfl ovL_nil)) (.cons .n (.cons .i .nil)) (hd 13 rfl) ?_ (fun ch hp => by simp at hp)
  rintro y hy; injection hy with hy; subst hy; refine jo_l (ly_mv rfl) (hd 10 rfl) ?_; refine jo_l (ly_ext rfl rfl) (hd 14 rfl) ?_; refine jo_l (ly_ext rfl rfl) (hd 15 rfl) ?_; refine jo_l (ly_as rfl) (hd 8 rfl) ?_; refine jo_l (ly_as rfl) (hd 9 rfl) ?_; refine jo_nil ?_; refine jc_seq ?_; refine jc_seq ?_; refine jc_region ?_; refine jo_l (ly_mv rfl) (hd 16 rfl) ?_; refine jo_l (ly_ff (ly_ne rfl rfl) (by decide)) (hd 17 rfl) ?_; refine jo_nil ?_; refine jc_litf rfl ?_; refine jc_skip ?_; refine jc_seq ?_; refine jc_seq ?_; refine jc_region ?_; refine jo_l (ly_mv rfl) (hd 19 rfl) ?_; refine jo_l (ly_lt rfl rfl) (hd 20 rfl) ?_; refine jo_l (ly_mv rfl) (hd 21 rfl) ?_
  refine jo_ifp 21 rfl (fun h2 => ?_) (fun h2 => ?_)
  · refine jo_s 21 rfl rfl rfl (hd 22 rfl) ?_; refine jo_s 21 rfl rfl rfl (hd 23 rfl) ?_; refine jo_l (ly_pick_t rfl rfl) (hd 24 rfl) ?_; refine jo_nil ?_; refine jc_litt rfl ?_; refine jc_seq ?_; refine jc_region ?_; refine jo_l (ly_as rfl) (hd 6 rfl) ?_; refine jo_l (ly_as rfl) (hd 7 rfl) ?_; refine jo_nil ?_; refine jc_ret ?_
    refine ⟨_, _, (.cons rfl (.cons rfl .nil)), (.t1 .s (.t1 .i .t0)), ?_⟩
    exact rfl
  · refine jo_g 21 rfl rfl (ly_mv rfl) (hd 22 rfl) ?_; refine jo_g 21 rfl rfl (ly_gt rfl rfl) (hd 23 rfl) ?_; refine jo_l (ly_pick_f rfl rfl) (hd 24 rfl) ?_; refine jo_nil ?_
    refine jc_if rfl (fun h4 => ?_) (fun h4 => ?_)
    · refine jc_seq ?_; refine jc_region ?_; refine jo_l (ly_as rfl) (hd 6 rfl) ?_; refine jo_l (ly_as rfl) (hd 7 rfl) ?_; refine jo_nil ?_; refine jc_ret ?_
      refine ⟨_, _, (.cons rfl (.cons rfl .nil)), (.t1 .s (.t1 .i .t0)), ?_⟩
      exact rfl
    · exfalso
      omega

set_option maxHeartbeats 4000000 in
theorem NumeralPoints_g (l : List Int) (b k : Int) (s : ByteArray) (e : Int) (hOf : Spec Try.prog 27 [.n false .u64 l] (fun o => o = .ret (.n false .u64 (digs B32 (vl l).toNat)))) (h1 : Spec Try.prog 34 [.n false .u64 l, .i .i64 b, .i .i64 k] (fun o => o = .ret (.t [.s s, .i .i64 e]))) (h2 : Spec Try.prog 35 [.n false .u64 (digs B32 (vl l).toNat), .i .i64 b, .i .i64 k] (fun o => o = .ret (.t [.s s, .i .i64 e]))) : Spec Try.prog 9 [.n false .u64 l, .i .i64 b, .i .i64 k] (fun o => o = .ret (.b true)) := by
  refine spec_of' [(0, .n false .u64 l), (1, .i .i64 b), (2, .i .i64 k)] rfl Try.func9 rfl (Nat.le_of_ble_eq_true rfl) fun Γ hN hds hL hR => ?_
  have hd : ∀ d, Nat.blt d 37 = true → d < Γ.N := fun d h => by rw [hN]; exact Nat.le_of_ble_eq_true h
  refine jc_seq ?_; refine jc_region ?_; refine jo_l (ly_as rfl) (hd 6 rfl) ?_; refine jo_nil ?_; refine jc_seq ?_; refine jc_region ?_; refine jo_l (ly_mv rfl) (hd 12 rfl) ?_; refine jo_l (ly_mv rfl) (hd 13 rfl) ?_; refine jo_l (ly_mv rfl) (hd 14 rfl) ?_
  refine jo_call Try.f34 (h1) rfl Try.func34 rfl rfl (ovL_cons rfl (ovL_cons rfl (ovL_cons rfl ovL_nil))) (.cons .n (.cons .i (.cons .i .nil))) (hd 15 rfl) ?_ (fun ch hp => by simp at hp)
  rintro y hy; injection hy with hy; subst hy; refine jo_l (ly_mv rfl) (hd 11 rfl) ?_; refine jo_l (ly_ext rfl rfl) (hd 16 rfl) ?_; refine jo_l (ly_ext rfl rfl) (hd 17 rfl) ?_; refine jo_l (ly_as rfl) (hd 7 rfl) ?_; refine jo_l (ly_as rfl) (hd 8 rfl) ?_; refine jo_nil ?_; refine jc_seq ?_; refine jc_region ?_; refine jo_l (ly_mv rfl) (hd 19 rfl) ?_
  refine jo_call Try.f27 (hOf) rfl Try.func27 rfl rfl (ovL_cons rfl ovL_nil) (.cons .n .nil) (hd 20 rfl) ?_ (fun ch hp => by simp at hp)
  rintro y hy; injection hy with hy; subst hy; refine jo_l (ly_mv rfl) (hd 21 rfl) ?_; refine jo_l (ly_mv rfl) (hd 22 rfl) ?_
  refine jo_call Try.f35 (h2) rfl Try.func35 rfl rfl (ovL_cons rfl (ovL_cons rfl (ovL_cons rfl ovL_nil))) (.cons .n (.cons .i (.cons .i .nil))) (hd 23 rfl) ?_ (fun ch hp => by simp at hp)
  rintro y hy; injection hy with hy; subst hy; refine jo_l (ly_mv rfl) (hd 18 rfl) ?_; refine jo_l (ly_ext rfl rfl) (hd 24 rfl) ?_; refine jo_l (ly_ext rfl rfl) (hd 25 rfl) ?_; refine jo_l (ly_as rfl) (hd 9 rfl) ?_; refine jo_l (ly_as rfl) (hd 10 rfl) ?_; refine jo_nil ?_; refine jc_seq ?_; refine jc_region ?_; refine jo_l (ly_mv rfl) (hd 26 rfl) ?_; refine jo_l (ly_mv rfl) (hd 27 rfl) ?_; refine jo_l (ly_tt (ly_eqS rfl rfl) rfl) (hd 28 rfl) ?_; refine jo_l (ly_mv rfl) (hd 29 rfl) ?_; refine jo_g 29 rfl rfl (ly_mv rfl) (hd 30 rfl) ?_; refine jo_g 29 rfl rfl (ly_mv rfl) (hd 31 rfl) ?_; refine jo_g 29 rfl rfl (ly_tt (ly_eq rfl rfl) rfl) (hd 32 rfl) ?_; refine jo_l (ly_pick_t rfl rfl) (hd 33 rfl) ?_; refine jo_l (ly_mv rfl) (hd 34 rfl) ?_
  refine jo_callg Try.f15 34 rfl rfl (lives5_s) rfl Try.func15 rfl rfl ovL_nil .nil (hd 35 rfl) ?_ (fun ch hp => by simp at hp)
  rintro y hy; injection hy with hy; subst hy; refine jo_l (ly_pick_t rfl rfl) (hd 36 rfl) ?_; refine jo_l (ly_as rfl) (hd 6 rfl) ?_; refine jo_nil ?_; refine jc_ret ?_
  refine ⟨_, _, (.cons rfl .nil), .b, ?_⟩
  exact rfl

theorem NumeralPoints_s (l : List Int) (v k : Int) (hl : l.length ≤ 1048575) (hu : u64s l) : Spec Try.prog 9 [.n false .u64 l, .i .i64 v, .i .i64 k] (fun o => o = .ret (.b true)) := by
  have hOf : Spec Try.prog 27 [.n false .u64 l] (fun o => o = .ret (.n false .u64 (digs B32 (vl l).toNat))) := by have h := rOf_s l (by omega) hu; rwa [rOf_v hu] at h
  by_cases h : 2 ≤ v ∧ v ≤ 36
  · obtain ⟨b, rfl⟩ : ∃ b : Nat, v = (b : Int) := ⟨v.toNat, by omega⟩
    have hlb : 2 ≤ b := by omega
    have hb2 : b ≤ 36 := by omega
    have hRl : (hdg b 1 (vl l).toNat).length ≤ 67108864 := by rw [hdg_le]; have h1 := digs_le_len hu hlb; omega
    have hdl9 : (digs b (vl l).toNat).length ≤ 67108864 := by have h1 := digs_le_len hu hlb; omega
    have hxl : (digs B32 (vl l).toNat).length < 4294967296 := by rw [digs_dg (vl_nonneg hu)]; have h1 := dg_lenN hu (v := vl l) (s := false) rfl; have h2 := lenN_le l; omega
    have hD : Spec Try.prog 31 [.n false .u64 (digs B32 (vl l).toNat), .i .i64 (b : Int)] (fun o => o = .ret (.t [.n false .i64 (hdg b 1 (vl l).toNat), .i .i64 0])) := rDigits_s (vl l).toNat b hlb hb2 hxl hdl9
    have hr36 : rng 36 (hdg b 1 (vl l).toNat) := rng36 hb2 (hdg_rng hlb _ _)
    by_cases hk : 0 ≤ k ∧ k ≤ 1048576
    · obtain ⟨n, rfl⟩ : ∃ n : Nat, k = (n : Int) := ⟨k.toNat, by omega⟩
      by_cases h0 : n = 0
      · subst h0
        exact NumeralPoints_g l b 0 _ 0 hOf (Point_0 l b (by omega) hu hlb hb2) (rPoint_0 l _ b hRl hr36 hD)
      · exact NumeralPoints_g l b n _ 0 hOf (Point_k l b n (by omega) hu hlb hb2 h0 (by omega)) (rPoint_k l _ b n h0 (by omega) hRl hr36 hD)
    · exact NumeralPoints_g l b k _ 1 hOf (Point_r l b k hlb hb2 hk) (rPoint_r l _ b k hk hRl hr36 hD)
  · exact NumeralPoints_g l v k _ 50 hOf (Point_b l v k h) (rPoint_b _ v k h)
end Go.Proofs.Ytcfdclehmpfkcaa.Vc

/- The law NumeralPoints of every input of bulk at most 1048576: it returns true, and the input reads as it did. -/
namespace Go.Proofs.Ytcfdclehmpfkcaa.numeralPoints
open Go Go.ChangeShapes Go.WideShapes Go.ChangeAt Go.RowKit
open Go.ChangeMaps (open_string shut_string)

theorem own : ownKnob Try.prog.godebug = none := by kernel_rfl
theorem laidOut : laidOutB Try.prog = true := by kernel_rfl
set_option maxRecDepth 100000 in
theorem lifted (os : Os) (started : os.Started) (H : Type) (enc : TypeId × Value → H) (F : Stop.Interp) :
    ReturnsInHanded {} Try.checked os 9 .any ((Rows.OpenSpec.upto Rows.numeralPointsSpec).pre6 enc Try.prog Try.f9 Rows.numeralPointsUptoRow.domain false) (((Rows.OpenSpec.upto Rows.numeralPointsSpec).at F).post enc Try.prog Try.f9 false true false false) := by
  refine returnsInHanded_of_cond (C := Try.checked) (s := Rows.OpenSpec.upto Rows.numeralPointsSpec) (k := Rows.uptoSmall) rfl own started (by kernel_rfl) Try.func9
    (OpenSpec.witness (enc := enc) (C := Try.checked) (s := Rows.OpenSpec.upto Rows.numeralPointsSpec) (k := Rows.uptoSmall) rfl false ⟨#[], #[.slice none 0 0, .int .i64 0, .int .i64 0], []⟩ 8 (by kernel_rfl) (by kernel_rfl) (by kernel_rfl)
      (x := ([.nil, .lit (.int .i64 0), .lit (.int .i64 0)], [], [])) (by kernel_rfl) rfl (by kernel_rfl)) ?_
  intro W base args ds gs before hval0 hW _ hk _
  have hval : ∀ (j : Nat) t v, Try.f9.params[j]? = some t → args[j]? = some v → Value.okWide Try.prog W .any base t v := hval0
  have hW' := hW
  obtain ⟨p, q, hA0, hV, rfl, hfz, hnd⟩ := hW
  have hA : DataW.TrodAll enc Try.prog W 0 (fun _ => true) true Try.f9.params.toList args.toList ds p := hA0
  rw [Try.params9] at hA hval
  obtain ⟨v0, vs0, d0, ds0, p0, q0, hargs, rfl, rfl, h0, r0⟩ := trodAll_cons hA
  obtain ⟨v1, vs1, d1, ds1, p1, q1, rfl, rfl, rfl, h1, r1⟩ := trodAll_cons r0
  obtain ⟨v2, vs2, d2, ds2, p2, q2, rfl, rfl, rfl, h2, r2⟩ := trodAll_cons r1
  obtain ⟨rfl, rfl, rfl⟩ := trodAll_nil r2
  obtain rfl : args = #[v0, v1, v2] := by cases args; simp_all
  obtain ⟨rfl, rfl⟩ := trodVars_none hV
  have hk0 := h0
  obtain ⟨l0, rel0, hb0, ul0⟩ := Vc.openN28 (hval 0 24 v0 rfl rfl) h0
  obtain ⟨a1, rfl, rfl, rfl, w1⟩ := open_int Try.underlying3 (hval 1 3 v1 rfl rfl) h1
  obtain ⟨a2, rfl, rfl, rfl, w2⟩ := open_int Try.underlying3 (hval 2 3 v2 rfl rfl) h2
  clear hA0 hval0
  simp only [List.append_nil] at hW' hk
  refine (Vc.spec_calls (vals := [v0, .int .i64 a1, .int .i64 a2]) (Vc.NumeralPoints_s l0 a1 a2 (Vc.short1n hk hb0) ul0) W (⟨_, _, rfl, rel0, ⟨_, _, rfl, rfl, ⟨_, _, rfl, rfl, rfl⟩⟩⟩)).mono fun e W' ⟨he, hb⟩ => ?_; subst he
  have hlt : ∀ x ∈ p0, x.block < W.heap.size := fun x hx => by simpa using hW'.lt x (by simpa using hx)
  exact ⟨_, rfl, Vc.post_of_below (pa := (p0 ++ ([] ++ ([] ++ [])))) (pv := []) hW' (fun _ _ _ => (trodAll_cons_mk (shut_bool Try.underlying4 _) trodAll_mk0)) (fun sp hsp => (trodAll_cons_mk (Go.WideElems.Trod_stays laidOut (by kernel_rfl) (of_decide_eq_true (by kernel_rfl)) hk0 (fun x hx => hb.same (hlt x (by simp [hx]))) (fun x hx => hsp x (by simp [hx]))) (trodAll_cons_mk (shut_int Try.underlying3 w1) (trodAll_cons_mk (shut_int Try.underlying3 w2) trodAll_mk0)))) (fun _ _ => rfl) (by simp) hb⟩

theorem proved : Rows.NumeralPointsUptoSaid :=
  OpenClaim.holds_of_cond 9 Try.f9 rfl rfl rfl rfl rfl rfl rfl ⟨rfl, rfl, rfl, rfl, rfl⟩ rfl rfl rfl rfl rfl (by kernel_rfl) Try.func9 (by kernel_rfl)
    (of_decide_eq_true (by kernel_rfl)) (by unfold Func.isWrapper; first | (rw [if_pos (by decide +kernel)]; kernel_rfl) | (rw [if_neg (by decide +kernel)]; exact ⟨rfl, rfl⟩))
    (fun os started H enc _ F => lifted os started H enc F)
end Go.Proofs.Ytcfdclehmpfkcaa.numeralPoints
