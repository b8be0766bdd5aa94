/- Reading a text as a number answers as the reference does, for every text and every base; what is handed out is the caller's own. Texts joined: Sa, Sc, Sd, RNParses. -/
import Derived.Test.YtcfdclehmpfkcaaK7
import Derived.Test.YtcfdclehmpfkcaaRows
import Derived.WalkKit
import Derived.ProofKit
import Derived.OpenShut
import Derived.JoinedCond
set_option linter.unusedVariables false
set_option linter.unusedSimpArgs false
/- Contracts of surdlaw05.same, numeral.Build, surdref05.Build. -/
namespace Go.Proofs.Ytcfdclehmpfkcaa.Vc
open Go Go.RowKit
set_option maxHeartbeats 4000000 in
theorem same_ok (v : Int) (hl : (dg v).length < 4294967296) (hv9 : lenV v ≤ 67108864) : Spec Try.prog 18 [.n false .u64 (lm v), .i .i64 0, .n false .u64 (dg v), .i .i64 0] (fun o => o = .ret (.b true)) := by
  refine spec_of' [(0, .n false .u64 (lm v)), (1, .i .i64 0), (2, .n false .u64 (dg v)), (3, .i .i64 0)] rfl Try.func18 rfl (Nat.le_of_ble_eq_true rfl) fun Γ hN hds hL hR => ?_
  have hd : ∀ d, Nat.blt d 33 = true → d < Γ.N := fun d h => by rw [hN]; exact Nat.le_of_ble_eq_true h
  have hIs : Spec Try.prog 68 [.n false .u64 (dg v), .n false .u64 (lm v)] (fun o => o = .ret (.b true)) := by have h := Is_s (dg v) (by omega); rwa [lims_dg] at h
  refine jc_seq ?_; refine jc_region ?_; refine jo_l (ly_as rfl) (hd 8 rfl) ?_; refine jo_nil ?_; refine jc_seq ?_; refine jc_seq ?_; refine jc_region ?_; refine jo_l (ly_mv rfl) (hd 9 rfl) ?_; refine jo_l (ly_tt (ly_eq rfl rfl) rfl) (hd 10 rfl) ?_; refine jo_l (ly_mv rfl) (hd 11 rfl) ?_; refine jo_g 11 rfl rfl (ly_mv rfl) (hd 12 rfl) ?_
  refine jo_callg Try.f46 11 rfl rfl (Len_s v (by omega)) rfl Try.func46 rfl rfl (ovL_cons rfl ovL_nil) (.cons .n .nil) (hd 13 rfl) ?_ (fun ch hp => by simp at hp)
  rintro y hy; injection hy with hy; subst hy; refine jo_g 11 rfl rfl (ly_ff (ly_gt rfl rfl) (by omega)) (hd 14 rfl) ?_; refine jo_l (ly_pick_t rfl rfl) (hd 15 rfl) ?_; refine jo_nil ?_; refine jc_litf rfl ?_; refine jc_skip ?_; refine jc_seq ?_; refine jc_seq ?_; refine jc_region ?_; refine jo_l (ly_mv rfl) (hd 16 rfl) ?_; refine jo_l (ly_ff (ly_ne rfl rfl) (by simp)) (hd 17 rfl) ?_; refine jo_nil ?_; refine jc_litf rfl ?_; refine jc_skip ?_; refine jc_seq ?_; refine jc_region ?_; refine jo_l (ly_mv rfl) (hd 26 rfl) ?_; refine jo_l (ly_tt (ly_eq rfl rfl) rfl) (hd 27 rfl) ?_; refine jo_l (ly_mv rfl) (hd 28 rfl) ?_; refine jo_g 28 rfl rfl (ly_mv rfl) (hd 29 rfl) ?_; refine jo_g 28 rfl rfl (ly_mv rfl) (hd 30 rfl) ?_
  refine jo_callg Try.f68 28 rfl rfl (hIs) rfl Try.func68 rfl rfl (ovL_cons rfl (ovL_cons rfl ovL_nil)) (.cons .n (.cons .n .nil)) (hd 31 rfl) ?_ (fun ch hp => by simp at hp)
  rintro y hy; injection hy with hy; subst hy; refine jo_l (ly_pick_t rfl rfl) (hd 32 rfl) ?_; refine jo_l (ly_as rfl) (hd 8 rfl) ?_; refine jo_nil ?_; refine jc_ret ?_
  refine ⟨_, _, (.cons rfl .nil), .b, ?_⟩
  exact rfl

set_option maxHeartbeats 4000000 in
theorem same_err (e : Int) (he : e ≠ 0) : Spec Try.prog 18 [.n false .u64 [], .i .i64 e, .n false .u64 [], .i .i64 e] (fun o => o = .ret (.b true)) := by
  refine spec_of' [(0, .n false .u64 []), (1, .i .i64 e), (2, .n false .u64 []), (3, .i .i64 e)] rfl Try.func18 rfl (Nat.le_of_ble_eq_true rfl) fun Γ hN hds hL hR => ?_
  have hd : ∀ d, Nat.blt d 33 = true → d < Γ.N := fun d h => by rw [hN]; exact Nat.le_of_ble_eq_true h
  refine jc_seq ?_; refine jc_region ?_; refine jo_l (ly_as rfl) (hd 8 rfl) ?_; refine jo_nil ?_; refine jc_seq ?_; refine jc_seq ?_; refine jc_region ?_; refine jo_l (ly_mv rfl) (hd 9 rfl) ?_; refine jo_l (ly_ff (ly_eq rfl rfl) he) (hd 10 rfl) ?_; refine jo_l (ly_mv rfl) (hd 11 rfl) ?_; refine jo_s 11 rfl rfl rfl (hd 12 rfl) ?_; refine jo_s 11 rfl rfl rfl (hd 13 rfl) ?_; refine jo_s 11 rfl rfl rfl (hd 14 rfl) ?_; refine jo_l (ly_pick_f rfl rfl) (hd 15 rfl) ?_; refine jo_nil ?_; refine jc_litf rfl ?_; refine jc_skip ?_; refine jc_seq ?_; refine jc_seq ?_; refine jc_region ?_; refine jo_l (ly_mv rfl) (hd 16 rfl) ?_; refine jo_l (ly_tt (ly_ne rfl rfl) he) (hd 17 rfl) ?_; refine jo_nil ?_; refine jc_litt rfl ?_; refine jc_seq ?_; refine jc_region ?_; refine jo_l (ly_mv rfl) (hd 18 rfl) ?_; refine jo_l (ly_mv rfl) (hd 19 rfl) ?_; refine jo_l (ly_tt (ly_eq rfl rfl) rfl) (hd 20 rfl) ?_; refine jo_l (ly_mv rfl) (hd 21 rfl) ?_; refine jo_g 21 rfl rfl (ly_mv rfl) (hd 22 rfl) ?_; refine jo_g 21 rfl rfl (ly_lenn sl28 rfl) (hd 23 rfl) ?_; refine jo_g 21 rfl rfl (ly_tt (ly_eq rfl rfl) rfl) (hd 24 rfl) ?_; refine jo_l (ly_pick_t rfl rfl) (hd 25 rfl) ?_; refine jo_l (ly_as rfl) (hd 8 rfl) ?_; refine jo_nil ?_; refine jc_ret ?_
  refine ⟨_, _, (.cons rfl .nil), .b, ?_⟩
  exact rfl

set_option maxHeartbeats 4000000 in
theorem rBuild_d (l : List Int) (b k : Nat) (hlb : 2 ≤ b) (hb2 : b ≤ 36) (hk : k < l.length) (hl : l.length ≤ 1099511627776) (hbad : ¬ (0 ≤ l.getD k 0 ∧ l.getD k 0 < b)) : Spec Try.prog 24 [.i .i64 (b : Int), .n false .i64 l] (fun o => o = .ret (.t [.n false .u64 [], .i .i64 51])) := by
  refine spec_of' [(0, .i .i64 (b : Int)), (1, .n false .i64 l)] rfl Try.func24 rfl (Nat.le_of_ble_eq_true rfl) fun Γ hN hds hL hR => ?_
  have hd : ∀ d, Nat.blt d 48 = true → d < Γ.N := fun d h => by rw [hN]; exact Nat.le_of_ble_eq_true h
  refine jc_seq ?_; refine jc_region ?_; refine jo_l (ly_as rfl) (hd 4 rfl) ?_; refine jo_l (ly_as rfl) (hd 5 rfl) ?_; refine jo_nil ?_; refine jc_seq ?_; refine jc_seq ?_; refine jc_region ?_; refine jo_l (ly_mv rfl) (hd 12 rfl) ?_; refine jo_l (ly_ff (ly_lt rfl rfl) (by omega)) (hd 13 rfl) ?_; refine jo_l (ly_mv rfl) (hd 14 rfl) ?_; refine jo_g 14 rfl rfl (ly_mv rfl) (hd 15 rfl) ?_; refine jo_g 14 rfl rfl (ly_ff (ly_gt rfl rfl) (by omega)) (hd 16 rfl) ?_; refine jo_l (ly_pick_f rfl rfl) (hd 17 rfl) ?_; refine jo_nil ?_; refine jc_litf rfl ?_; refine jc_skip ?_; refine jc_seq ?_; refine jc_seq ?_; refine jc_region ?_; refine jo_l (ly_mv rfl) (hd 18 rfl) ?_; refine jo_l (ly_lenn sl1039 rfl) (hd 19 rfl) ?_; refine jo_l (ly_mv rfl) (hd 20 rfl) ?_; refine jo_nil ?_; refine jc_block ?_
  refine jc_loopF (G := Nat) (fun i => i ≤ k) (fun i => [(20, .i .i64 (i : Int)), (4, .u), (5, .u), (7, .u), (21, .u), (22, .u), (23, .u), (24, .u), (25, .u), (26, .u), (27, .u), (28, .u), (29, .u), (30, .u), (31, .u)]) (fun _ => _) (fun i => l.length - i) 0 ?_ ?_ rfl ?_
  · exact Nat.zero_le _
  · exact (.cons rfl (.u (.u (.u (.u (.u (.u (.u (.u (.u (.u (.u (.u (.u (.u .nil)))))))))))))))
  · rintro i hi; refine jc_seq ?_; refine jc_region ?_; refine jo_l (ly_lt rfl rfl) (hd 21 rfl) ?_; refine jo_nil ?_; refine jc_seq ?_
    refine jc_if rfl (fun h2 => ?_) (fun h2 => ?_)
    · refine jc_skip ?_; refine jc_seq ?_; refine jc_block ?_; refine jc_seq ?_; refine jc_region ?_; refine jo_l (ly_ian (i := i) sl1039 rfl rfl (by first | rfl | omega) (by omega)) (hd 22 rfl) ?_; refine jo_l (ly_ldq one3 rfl rfl) (hd 23 rfl) ?_; refine jo_l (ly_as rfl) (hd 7 rfl) ?_; refine jo_nil ?_; refine jc_seq ?_; refine jc_region ?_; refine jo_l (ly_mv rfl) (hd 24 rfl) ?_; refine jo_l (ly_lt rfl rfl) (hd 25 rfl) ?_; refine jo_l (ly_mv rfl) (hd 26 rfl) ?_
      refine jo_ifp 26 rfl (fun h3 => ?_) (fun h3 => ?_)
      · refine jo_s 26 rfl rfl rfl (hd 27 rfl) ?_; refine jo_s 26 rfl rfl rfl (hd 28 rfl) ?_; refine jo_s 26 rfl rfl rfl (hd 29 rfl) ?_; refine jo_l (ly_pick_t rfl rfl) (hd 30 rfl) ?_; refine jo_nil ?_; refine jc_litt rfl ?_; refine jc_seq ?_; refine jc_region ?_; refine jo_l (ly_as rfl) (hd 4 rfl) ?_; refine jo_l (ly_as rfl) (hd 5 rfl) ?_; refine jo_nil ?_; refine jc_ret ?_
        refine ⟨_, _, (.cons rfl (.cons rfl .nil)), (.t1 (.nil (fr := false) (k := .u64)) (.t1 .i .t0)), ?_⟩
        exact rfl
      · refine jo_g 26 rfl rfl (ly_mv rfl) (hd 27 rfl) ?_; refine jo_g 26 rfl rfl (ly_mv rfl) (hd 28 rfl) ?_; refine jo_g 26 rfl rfl (ly_ge rfl rfl) (hd 29 rfl) ?_; refine jo_l (ly_pick_f rfl rfl) (hd 30 rfl) ?_; refine jo_nil ?_
        refine jc_if rfl (fun h5 => ?_) (fun h5 => ?_)
        · refine jc_seq ?_; refine jc_region ?_; refine jo_l (ly_as rfl) (hd 4 rfl) ?_; refine jo_l (ly_as rfl) (hd 5 rfl) ?_; refine jo_nil ?_; refine jc_ret ?_
          refine ⟨_, _, (.cons rfl (.cons rfl .nil)), (.t1 (.nil (fr := false) (k := .u64)) (.t1 .i .t0)), ?_⟩
          exact rfl
        · have hik : i ≠ k := fun e => hbad (by rw [← e]; omega)
          refine jc_skip ?_; refine jc_region ?_; refine jo_l (ly_add rfl rfl (r := ((i + 1 : Nat) : Int)) (by rw [wrap_i64 (by omega) (by omega)]; omega)) (hd 31 rfl) ?_; refine jo_l (ly_mv rfl) (hd 20 rfl) ?_; refine jo_nil ?_
          refine ⟨i + 1, ?_, ?_, rfl, cov_n 29 rfl rfl ?_⟩
          · omega
          · omega
          · exact (.cons rfl (.u (.u (.u (.u (.u (.u (.u (.u (.u (.u (.u (.u (.u (.u .nil)))))))))))))))
    · exfalso
      omega

set_option maxHeartbeats 4000000 in
theorem rBuild_s (l : List Int) (b : Nat) (hlb : 2 ≤ b) (hb2 : b ≤ 36) (hr : rng b l) (hl : l.length ≤ 2097152) : Spec Try.prog 24 [.i .i64 (b : Int), .n false .i64 l] (fun o => o = .ret (.t [.n false .u64 (dg (hv b l)), .i .i64 0])) := by
  refine spec_of' [(0, .i .i64 (b : Int)), (1, .n false .i64 l)] rfl Try.func24 rfl (Nat.le_of_ble_eq_true rfl) fun Γ hN hds hL hR => ?_
  have hd : ∀ d, Nat.blt d 48 = true → d < Γ.N := fun d h => by rw [hN]; exact Nat.le_of_ble_eq_true h
  have hI : ∀ d : Int, 0 ≤ d → d ≤ 36 → Spec Try.prog 72 [.i .i64 d] (fun o => o = .ret (.n false .u64 (digs B32 d.toNat))) := fun d h1 h2 => by have h := rInt_s d (by omega) (by omega); rwa [show d = ((d.toNat : Nat) : Int) from (Int.toNat_of_nonneg h1).symm, rInt_v (by omega), ← show d = ((d.toNat : Nat) : Int) from (Int.toNat_of_nonneg h1).symm] at h
  have hdl : ∀ i, (digs B32 (hv b (l.take i)).toNat).length ≤ 16777216 := fun i => Nat.le_trans (digs_lenV (hv_nonneg (rng_take hr i))) (hv_fit hb2 hlb (rng_take hr i) (by rw [List.length_take]; omega))
  refine jc_seq ?_; refine jc_region ?_; refine jo_l (ly_as rfl) (hd 4 rfl) ?_; refine jo_l (ly_as rfl) (hd 5 rfl) ?_; refine jo_nil ?_; refine jc_seq ?_; refine jc_seq ?_; refine jc_region ?_; refine jo_l (ly_mv rfl) (hd 12 rfl) ?_; refine jo_l (ly_ff (ly_lt rfl rfl) (by omega)) (hd 13 rfl) ?_; refine jo_l (ly_mv rfl) (hd 14 rfl) ?_; refine jo_g 14 rfl rfl (ly_mv rfl) (hd 15 rfl) ?_; refine jo_g 14 rfl rfl (ly_ff (ly_gt rfl rfl) (by omega)) (hd 16 rfl) ?_; refine jo_l (ly_pick_f rfl rfl) (hd 17 rfl) ?_; refine jo_nil ?_; refine jc_litf rfl ?_; refine jc_skip ?_; refine jc_seq ?_; refine jc_seq ?_; refine jc_region ?_; refine jo_l (ly_mv rfl) (hd 18 rfl) ?_; refine jo_l (ly_lenn sl1039 rfl) (hd 19 rfl) ?_; refine jo_l (ly_mv rfl) (hd 20 rfl) ?_; refine jo_nil ?_; refine jc_block ?_
  refine jc_loopF (G := Nat) (fun i => i ≤ l.length) (fun i => [(20, .i .i64 (i : Int)), (4, .u), (5, .u), (7, .u), (21, .u), (22, .u), (23, .u), (24, .u), (25, .u), (26, .u), (27, .u), (28, .u), (29, .u), (30, .u), (31, .u)]) (fun _ => _) (fun i => l.length - i) 0 ?_ ?_ rfl ?_
  · exact Nat.zero_le _
  · exact (.cons rfl (.u (.u (.u (.u (.u (.u (.u (.u (.u (.u (.u (.u (.u (.u .nil)))))))))))))))
  · rintro i hi
    have hx := rng_getD (by omega) hr i
    refine jc_seq ?_; refine jc_region ?_; refine jo_l (ly_lt rfl rfl) (hd 21 rfl) ?_; refine jo_nil ?_; refine jc_seq ?_
    refine jc_if rfl (fun h2 => ?_) (fun h2 => ?_)
    · refine jc_skip ?_; refine jc_seq ?_; refine jc_block ?_; refine jc_seq ?_; refine jc_region ?_; refine jo_l (ly_ian (i := i) sl1039 rfl rfl (by first | rfl | omega) (by omega)) (hd 22 rfl) ?_; refine jo_l (ly_ldq one3 rfl rfl) (hd 23 rfl) ?_; refine jo_l (ly_as rfl) (hd 7 rfl) ?_; refine jo_nil ?_; refine jc_seq ?_; refine jc_region ?_; refine jo_l (ly_mv rfl) (hd 24 rfl) ?_; refine jo_l (ly_ff (ly_lt rfl rfl) (by omega)) (hd 25 rfl) ?_; refine jo_l (ly_mv rfl) (hd 26 rfl) ?_; refine jo_g 26 rfl rfl (ly_mv rfl) (hd 27 rfl) ?_; refine jo_g 26 rfl rfl (ly_mv rfl) (hd 28 rfl) ?_; refine jo_g 26 rfl rfl (ly_ff (ly_ge rfl rfl) (by omega)) (hd 29 rfl) ?_; refine jo_l (ly_pick_f rfl rfl) (hd 30 rfl) ?_; refine jo_nil ?_; refine jc_litf rfl ?_; refine jc_skip ?_; refine jc_region ?_; refine jo_l (ly_add rfl rfl (r := ((i + 1 : Nat) : Int)) (by rw [wrap_i64 (by omega) (by omega)]; omega)) (hd 31 rfl) ?_; refine jo_l (ly_mv rfl) (hd 20 rfl) ?_; refine jo_nil ?_
      refine ⟨i + 1, ?_, ?_, rfl, cov_n 28 rfl rfl ?_⟩
      · omega
      · omega
      · exact (.cons rfl (.u (.u (.u (.u (.u (.u (.u (.u (.u (.u (.u (.u (.u (.u .nil)))))))))))))))
    · refine jc_exit ?_; refine jc_seq ?_; refine jc_region ?_; refine jo_l (ly_as rfl) (hd 8 rfl) ?_; refine jo_nil ?_; refine jc_seq ?_; refine jc_region ?_; refine jo_l (ly_mv rfl) (hd 32 rfl) ?_
      refine jo_call Try.f72 (hI (b : Int) (by omega) (by omega)) rfl Try.func72 rfl rfl (ovL_cons rfl ovL_nil) (.cons .i .nil) (hd 33 rfl) ?_ (fun ch hp => by simp at hp)
      rintro y hy; injection hy with hy; subst hy; refine jo_l (ly_as rfl) (hd 9 rfl) ?_; refine jo_nil ?_; refine jc_seq ?_; refine jc_seq ?_; refine jc_region ?_; refine jo_l (ly_mv rfl) (hd 34 rfl) ?_; refine jo_l (ly_lenn sl1039 rfl) (hd 35 rfl) ?_; refine jo_l (ly_mv rfl) (hd 36 rfl) ?_; refine jo_nil ?_; refine jc_block ?_; refine jc_nilN 8 (k := .u64) rfl ?_
      refine jc_loopF (G := Nat) (fun i => i ≤ l.length) (fun i => [(8, .n false .u64 (digs B32 (hv b (l.take i)).toNat)), (36, .i .i64 (i : Int)), (11, .u), (37, .u), (38, .u), (39, .u), (40, .u), (41, .u), (42, .u), (43, .u), (44, .u), (45, .u), (46, .u)]) (fun _ => _) (fun i => l.length - i) 0 ?_ ?_ rfl ?_
      · exact Nat.zero_le _
      · exact (.cons (by show some (V.n _ _ _) = some (V.n _ _ _); rw [List.take_zero, hv_nil, show (0 : Int).toNat = 0 from rfl, digs_0]) (.cons rfl (.u (.u (.u (.u (.u (.u (.u (.u (.u (.u (.u .nil)))))))))))))
      · rintro i hi
        have hx := rng_getD (by omega) hr i
        have hdi := hdl i
        have hdj := hdl (i + 1)
        have hbl1 : (digs B32 b).length ≤ 1 := digs_len (by decide) 1 b (by show b < 4294967296 ^ 1; omega)
        refine jc_seq ?_; refine jc_region ?_; refine jo_l (ly_lt rfl rfl) (hd 37 rfl) ?_; refine jo_nil ?_; refine jc_seq ?_
        refine jc_if rfl (fun h4 => ?_) (fun h4 => ?_)
        · have hst := hv_nat (b := b) hr (i := i) (by omega)
          have hmu : (digs B32 ((hv b (l.take i)).toNat * b)).length ≤ 16777216 := Nat.le_trans (digs_mono (by decide) _ _ (by rw [hst]; omega)) hdj
          have hdd : (digs B32 (l.getD i 0).toNat).length ≤ 1 := digs_len (by decide) 1 _ (by show _ < 4294967296 ^ 1; omega)
          refine jc_skip ?_; refine jc_seq ?_; refine jc_block ?_; refine jc_seq ?_; refine jc_region ?_; refine jo_l (ly_ian (i := i) sl1039 rfl rfl (by first | rfl | omega) (by omega)) (hd 38 rfl) ?_; refine jo_l (ly_ldq one3 rfl rfl) (hd 39 rfl) ?_; refine jo_l (ly_as rfl) (hd 11 rfl) ?_; refine jo_nil ?_; refine jc_region ?_; refine jo_l (ly_mv rfl) (hd 40 rfl) ?_; refine jo_l (ly_mv rfl) (hd 41 rfl) ?_
          refine jo_call Try.f74 (rMul_s (hv b (l.take i)).toNat b (by omega) (by omega)) rfl Try.func74 rfl rfl (ovL_cons rfl (ovL_cons rfl ovL_nil)) (.cons .n (.cons .n .nil)) (hd 42 rfl) ?_ (fun ch hp => by simp at hp)
          rintro y hy; injection hy with hy; subst hy; refine jo_l (ly_mv rfl) (hd 43 rfl) ?_
          refine jo_call Try.f72 (hI (l.getD i 0) hx.1 (by omega)) rfl Try.func72 rfl rfl (ovL_cons rfl ovL_nil) (.cons .i .nil) (hd 44 rfl) ?_ (fun ch hp => by simp at hp)
          rintro y hy; injection hy with hy; subst hy
          refine jo_call Try.f73 (rAdd_s ((hv b (l.take i)).toNat * b) (l.getD i 0).toNat (by omega) (by omega)) rfl Try.func73 rfl rfl (ovL_cons rfl (ovL_cons rfl ovL_nil)) (.cons .n (.cons .n .nil)) (hd 45 rfl) ?_ (fun ch hp => by simp at hp)
          rintro y hy; injection hy with hy; subst hy; refine jo_l (ly_as rfl) (hd 8 rfl) ?_; refine jo_nil ?_; refine jc_region ?_; refine jo_l (ly_add rfl rfl (r := ((i + 1 : Nat) : Int)) (by rw [wrap_i64 (by omega) (by omega)]; omega)) (hd 46 rfl) ?_; refine jo_l (ly_mv rfl) (hd 36 rfl) ?_; refine jo_nil ?_
          refine ⟨i + 1, ?_, ?_, rfl, cov_n 26 rfl rfl ?_⟩
          · omega
          · omega
          · exact (.cons (by show some (V.n _ _ _) = some (V.n _ _ _); rw [hst]) (.cons rfl (.u (.u (.u (.u (.u (.u (.u (.u (.u (.u (.u .nil)))))))))))))
        · refine jc_exit ?_; refine jc_seq ?_; refine jc_region ?_; refine jo_l (ly_mv rfl) (hd 47 rfl) ?_; refine jo_l (ly_as rfl) (hd 4 rfl) ?_; refine jo_l (ly_as rfl) (hd 5 rfl) ?_; refine jo_nil ?_; refine jc_ret ?_
          refine ⟨_, _, (.cons rfl (.cons rfl .nil)), (.t1 .nn (.t1 .i .t0)), ?_⟩
          rw [List.take_of_length_le (by omega), digs_dg (hv_nonneg hr)]
end Go.Proofs.Ytcfdclehmpfkcaa.Vc

/- Contracts of numeral.Parse with an own row, surdref05.Parse. -/
namespace Go.Proofs.Ytcfdclehmpfkcaa.Vc
open Go Go.RowKit
set_option maxHeartbeats 4000000 in
theorem Parse_n (s : ByteArray) (b : Nat) (hlb : 2 ≤ b) (hb2 : b ≤ 36) (hs0 : s.size ≠ 0) (hs : s.size < 1099511627776) (hval : ∀ i, i < s.size → dgv (byteAt s i) < b) (hr : rng b (dgs s)) (hv9 : lenV (hv b (dgs s)) ≤ 67108864) : SpecM Try.prog 16 [.s s, .i .i64 (b : Int)] [] (fun o G => o = .ret (.t [.o 0 0 0 (lm (hv b (dgs s))).length, .i .i64 0]) ∧ G = [⟨90, 1, 0, true, ints .u64 (lm (hv b (dgs s)))⟩]) := by
  refine specS_of [(0, .s s), (1, .i .i64 (b : Int))] rfl Try.func16 rfl (Nat.le_of_ble_eq_true rfl) fun Γ hN hds hL hR => ?_
  have hd : ∀ d, Nat.blt d 60 = true → d < Γ.N := fun d h => by rw [hN]; exact Nat.le_of_ble_eq_true h
  refine jc_seq ?_; refine jc_region ?_; refine jo_l (ly_as rfl) (hd 4 rfl) ?_; refine jo_l (ly_as rfl) (hd 5 rfl) ?_; refine jo_nil ?_; refine jc_seq ?_; refine jc_seq ?_; refine jc_region ?_; refine jo_l (ly_mv rfl) (hd 10 rfl) ?_
  refine jo_call Try.f66 (good_y b hlb hb2) rfl Try.func66 rfl rfl (ovL_cons rfl ovL_nil) (.cons .i .nil) (hd 11 rfl) ?_ (fun ch hp => by simp at hp)
  rintro y hy; injection hy with hy; subst hy; refine jo_l (ly_not rfl) (hd 12 rfl) ?_; refine jo_nil ?_; refine jc_litf rfl ?_; refine jc_skip ?_; refine jc_seq ?_; refine jc_seq ?_; refine jc_region ?_; refine jo_l (ly_mv rfl) (hd 13 rfl) ?_; refine jo_l (ly_ff (ly_eqS rfl rfl) (fun h => hs0 (by rw [h]; rfl))) (hd 14 rfl) ?_; refine jo_nil ?_; refine jc_litf rfl ?_; refine jc_skip ?_; refine jc_seq ?_; refine jc_region ?_; refine jo_l (ly_mv rfl) (hd 15 rfl) ?_; refine jo_l (ly_lens und9 rfl) (hd 16 rfl) ?_; refine jo_h (hy_mk (m := s.size) el1039 rfl rfl rfl (by show 8 * s.size ≤ _; omega) (by unfold maxLen; omega) rfl) (hd 17 rfl) ?_; refine jo_l (ly_as rfl) (hd 6 rfl) ?_; refine jo_nil ?_; refine jc_seq ?_; refine jc_seq ?_; refine jc_H (H' := [⟨3, 1, 0, true, ints .i64 (cpI (dgs s) 0)⟩]) (by rw [← cpI_0, dgs_len]; rfl) ?_; refine jc_region ?_; refine jo_l (ly_mv rfl) (hd 18 rfl) ?_; refine jo_l (ly_lens und9 rfl) (hd 19 rfl) ?_; refine jo_l (ly_mv rfl) (hd 20 rfl) ?_; refine jo_nil ?_; refine jc_block ?_
  refine jc_loopF (G := Nat) (fun i => i ≤ s.size) (fun i => [(20, .i .i64 (i : Int)), (4, .u), (5, .u), (7, .u), (8, .u), (9, .u), (21, .u), (22, .u), (23, .u), (24, .u), (25, .u), (26, .u), (27, .u), (28, .u), (29, .u), (30, .u), (31, .u), (32, .u), (33, .u), (34, .u), (35, .u), (36, .u), (37, .u), (38, .u), (39, .u), (40, .u), (41, .u), (42, .u), (43, .u), (44, .u), (45, .u), (46, .u), (47, .u), (48, .u), (49, .u), (50, .u), (51, .u), (52, .u), (53, .u), (54, .u)]) (fun i => [⟨3, 1, 0, true, ints .i64 (cpI (dgs s) i)⟩]) (fun i => s.size - i) 0 ?_ ?_ rfl ?_
  · exact Nat.zero_le _
  · exact (.cons rfl (.u (.u (.u (.u (.u (.u (.u (.u (.u (.u (.u (.u (.u (.u (.u (.u (.u (.u (.u (.u (.u (.u (.u (.u (.u (.u (.u (.u (.u (.u (.u (.u (.u (.u (.u (.u (.u (.u (.u .nil))))))))))))))))))))))))))))))))))))))))
  · rintro i hi
    have hcl := cpI_len (l := dgs s) (i := i) (by rw [dgs_len]; omega)
    rw [dgs_len] at hcl
    have hbr := byteAt_range s i
    have hdr := dgv_rng hbr.1 hbr.2
    refine jc_seq ?_; refine jc_region ?_; refine jo_l (ly_lt rfl rfl) (hd 21 rfl) ?_; refine jo_nil ?_; refine jc_seq ?_
    refine jc_if rfl (fun h3 => ?_) (fun h3 => ?_)
    · refine jc_skip ?_; refine jc_seq ?_; refine jc_block ?_; refine jc_seq ?_; refine jc_region ?_; refine jo_l (ly_mv rfl) (hd 22 rfl) ?_; refine jo_l (ly_as rfl) (hd 7 rfl) ?_; refine jo_nil ?_; refine jc_seq ?_; refine jc_region ?_; refine jo_l (ly_as rfl) (hd 8 rfl) ?_; refine jo_nil ?_
      refine jc_meetH (G := Unit) (fun _ => True) (fun _ => [(7, .i .i64 (i : Int)), (8, .i .i64 (dgv (byteAt s i))), (9, .u), (23, .u), (24, .u), (25, .u), (26, .u), (27, .u), (28, .u), (29, .u), (30, .u), (31, .u), (32, .u), (33, .u), (34, .u), (35, .u), (36, .u), (37, .u), (38, .u), (39, .u), (40, .u), (41, .u), (42, .u), (43, .u), (44, .u), (45, .u), (46, .u)]) ?_ ?_
      · refine jc_seq ?_; refine jc_region ?_; refine jo_l (ly_mv rfl) (hd 23 rfl) ?_; refine jo_l (ly_mv rfl) (hd 24 rfl) ?_; refine jo_l (ly_ixs (i := i) und9 rfl rfl (by first | rfl | omega) (by omega)) (hd 25 rfl) ?_; refine jo_l (ly_as rfl) (hd 9 rfl) ?_; refine jo_nil ?_; refine jc_block ?_; refine jc_seq ?_; refine jc_region ?_; refine jo_l (ly_mv rfl) (hd 27 rfl) ?_; refine jo_l (ly_ge rfl rfl) (hd 28 rfl) ?_; refine jo_l (ly_mv rfl) (hd 29 rfl) ?_
        refine jo_ifp 29 rfl (fun h4 => ?_) (fun h4 => ?_)
        · refine jo_g 29 rfl rfl (ly_mv rfl) (hd 30 rfl) ?_; refine jo_g 29 rfl rfl (ly_le rfl rfl) (hd 31 rfl) ?_; refine jo_l (ly_pick_t rfl rfl) (hd 32 rfl) ?_; refine jo_l (ly_as rfl) (hd 26 rfl) ?_; refine jo_nil ?_
          refine jc_if rfl (fun h5 => ?_) (fun h5 => ?_)
          · refine jc_region ?_; refine jo_l (ly_mv rfl) (hd 33 rfl) ?_; refine jo_l (ly_sub rfl rfl (wrap_u8 (by omega) (by omega))) (hd 34 rfl) ?_; refine jo_l (ly_conv und5 und3 rfl (wrap_i64 (by omega) (by omega))) (hd 35 rfl) ?_; refine jo_l (ly_as rfl) (hd 8 rfl) ?_; refine jo_nil ?_
            refine ⟨(), ?_, rfl, cov_n 16 rfl rfl ?_⟩
            · trivial
            · exact (.cons rfl (.cons (by show some (V.i .i64 _) = some (V.i .i64 _); congr 1; congr 1; first | (exfalso; omega) | skip; unfold dgv; first | rw [if_pos (by omega)] | rw [if_neg (by omega), if_pos (by omega)] | rw [if_neg (by omega), if_neg (by omega)]) (.u (.u (.u (.u (.u (.u (.u (.u (.u (.u (.u (.u (.u (.u (.u (.u (.u (.u (.u (.u (.u (.u (.u (.u (.u .nil)))))))))))))))))))))))))))
          · refine jc_seq ?_; refine jc_region ?_; refine jo_l (ly_mv rfl) (hd 37 rfl) ?_; refine jo_l (ly_ge rfl rfl) (hd 38 rfl) ?_; refine jo_l (ly_mv rfl) (hd 39 rfl) ?_
            refine jo_ifp 39 rfl (fun h6 => ?_) (fun h6 => ?_)
            · refine jo_g 39 rfl rfl (ly_mv rfl) (hd 40 rfl) ?_; refine jo_g 39 rfl rfl (ly_le rfl rfl) (hd 41 rfl) ?_; refine jo_l (ly_pick_t rfl rfl) (hd 42 rfl) ?_; refine jo_l (ly_as rfl) (hd 36 rfl) ?_; refine jo_nil ?_
              refine jc_if rfl (fun h7 => ?_) (fun h7 => ?_)
              · refine jc_region ?_; refine jo_l (ly_mv rfl) (hd 43 rfl) ?_; refine jo_l (ly_sub rfl rfl (wrap_u8 (by omega) (by omega))) (hd 44 rfl) ?_; refine jo_l (ly_conv und5 und3 rfl (wrap_i64 (by omega) (by omega))) (hd 45 rfl) ?_; refine jo_l (ly_add rfl rfl (wrap_i64 (by omega) (by omega))) (hd 46 rfl) ?_; refine jo_l (ly_as rfl) (hd 8 rfl) ?_; refine jo_nil ?_
                refine ⟨(), ?_, rfl, cov_n 25 rfl rfl ?_⟩
                · trivial
                · exact (.cons rfl (.cons (by show some (V.i .i64 _) = some (V.i .i64 _); congr 1; congr 1; first | (exfalso; omega) | skip; unfold dgv; first | rw [if_pos (by omega)] | rw [if_neg (by omega), if_pos (by omega)] | rw [if_neg (by omega), if_neg (by omega)]) (.u (.u (.u (.u (.u (.u (.u (.u (.u (.u (.u (.u (.u (.u (.u (.u (.u (.u (.u (.u (.u (.u (.u (.u (.u .nil)))))))))))))))))))))))))))
              · refine jc_skip ?_
                refine ⟨(), ?_, rfl, cov_n 20 rfl rfl ?_⟩
                · trivial
                · exact (.cons rfl (.cons (by show some (V.i .i64 _) = some (V.i .i64 _); congr 1; congr 1; first | (exfalso; omega) | skip; unfold dgv; first | rw [if_pos (by omega)] | rw [if_neg (by omega), if_pos (by omega)] | rw [if_neg (by omega), if_neg (by omega)]) (.u (.u (.u (.u (.u (.u (.u (.u (.u (.u (.u (.u (.u (.u (.u (.u (.u (.u (.u (.u (.u (.u (.u (.u (.u .nil)))))))))))))))))))))))))))
            · refine jo_s 39 rfl rfl rfl (hd 40 rfl) ?_; refine jo_s 39 rfl rfl rfl (hd 41 rfl) ?_; refine jo_l (ly_pick_f rfl rfl) (hd 42 rfl) ?_; refine jo_l (ly_as rfl) (hd 36 rfl) ?_; refine jo_nil ?_; refine jc_litf rfl ?_; refine jc_skip ?_
              refine ⟨(), ?_, rfl, cov_n 20 rfl rfl ?_⟩
              · trivial
              · exact (.cons rfl (.cons (by show some (V.i .i64 _) = some (V.i .i64 _); congr 1; congr 1; first | (exfalso; omega) | skip; unfold dgv; first | rw [if_pos (by omega)] | rw [if_neg (by omega), if_pos (by omega)] | rw [if_neg (by omega), if_neg (by omega)]) (.u (.u (.u (.u (.u (.u (.u (.u (.u (.u (.u (.u (.u (.u (.u (.u (.u (.u (.u (.u (.u (.u (.u (.u (.u .nil)))))))))))))))))))))))))))
        · refine jo_s 29 rfl rfl rfl (hd 30 rfl) ?_; refine jo_s 29 rfl rfl rfl (hd 31 rfl) ?_; refine jo_l (ly_pick_f rfl rfl) (hd 32 rfl) ?_; refine jo_l (ly_as rfl) (hd 26 rfl) ?_; refine jo_nil ?_; refine jc_litf rfl ?_; refine jc_seq ?_; refine jc_region ?_; refine jo_l (ly_mv rfl) (hd 37 rfl) ?_; refine jo_l (ly_ge rfl rfl) (hd 38 rfl) ?_; refine jo_l (ly_mv rfl) (hd 39 rfl) ?_
          refine jo_ifp 39 rfl (fun h10 => ?_) (fun h10 => ?_)
          · refine jo_g 39 rfl rfl (ly_mv rfl) (hd 40 rfl) ?_; refine jo_g 39 rfl rfl (ly_le rfl rfl) (hd 41 rfl) ?_; refine jo_l (ly_pick_t rfl rfl) (hd 42 rfl) ?_; refine jo_l (ly_as rfl) (hd 36 rfl) ?_; refine jo_nil ?_
            refine jc_if rfl (fun h11 => ?_) (fun h11 => ?_)
            · refine jc_region ?_; refine jo_l (ly_mv rfl) (hd 43 rfl) ?_; refine jo_l (ly_sub rfl rfl (wrap_u8 (by omega) (by omega))) (hd 44 rfl) ?_; refine jo_l (ly_conv und5 und3 rfl (wrap_i64 (by omega) (by omega))) (hd 45 rfl) ?_; refine jo_l (ly_add rfl rfl (wrap_i64 (by omega) (by omega))) (hd 46 rfl) ?_; refine jo_l (ly_as rfl) (hd 8 rfl) ?_; refine jo_nil ?_
              refine ⟨(), ?_, rfl, cov_n 25 rfl rfl ?_⟩
              · trivial
              · exact (.cons rfl (.cons (by show some (V.i .i64 _) = some (V.i .i64 _); congr 1; congr 1; first | (exfalso; omega) | skip; unfold dgv; first | rw [if_pos (by omega)] | rw [if_neg (by omega), if_pos (by omega)] | rw [if_neg (by omega), if_neg (by omega)]) (.u (.u (.u (.u (.u (.u (.u (.u (.u (.u (.u (.u (.u (.u (.u (.u (.u (.u (.u (.u (.u (.u (.u (.u (.u .nil)))))))))))))))))))))))))))
            · refine jc_skip ?_
              refine ⟨(), ?_, rfl, cov_n 20 rfl rfl ?_⟩
              · trivial
              · exact (.cons rfl (.cons (by show some (V.i .i64 _) = some (V.i .i64 _); congr 1; congr 1; first | (exfalso; omega) | skip; unfold dgv; first | rw [if_pos (by omega)] | rw [if_neg (by omega), if_pos (by omega)] | rw [if_neg (by omega), if_neg (by omega)]) (.u (.u (.u (.u (.u (.u (.u (.u (.u (.u (.u (.u (.u (.u (.u (.u (.u (.u (.u (.u (.u (.u (.u (.u (.u .nil)))))))))))))))))))))))))))
          · refine jo_s 39 rfl rfl rfl (hd 40 rfl) ?_; refine jo_s 39 rfl rfl rfl (hd 41 rfl) ?_; refine jo_l (ly_pick_f rfl rfl) (hd 42 rfl) ?_; refine jo_l (ly_as rfl) (hd 36 rfl) ?_; refine jo_nil ?_; refine jc_litf rfl ?_; refine jc_skip ?_
            refine ⟨(), ?_, rfl, cov_n 20 rfl rfl ?_⟩
            · trivial
            · exact (.cons rfl (.cons (by show some (V.i .i64 _) = some (V.i .i64 _); congr 1; congr 1; first | (exfalso; omega) | skip; unfold dgv; first | rw [if_pos (by omega)] | rw [if_neg (by omega), if_pos (by omega)] | rw [if_neg (by omega), if_neg (by omega)]) (.u (.u (.u (.u (.u (.u (.u (.u (.u (.u (.u (.u (.u (.u (.u (.u (.u (.u (.u (.u (.u (.u (.u (.u (.u .nil)))))))))))))))))))))))))))
      · rintro _ _; refine jc_seq ?_; refine jc_seq ?_; refine jc_region ?_; refine jo_l (ly_mv rfl) (hd 47 rfl) ?_; refine jo_l (ly_mv rfl) (hd 48 rfl) ?_; refine jo_l (ly_ff (ly_ge rfl rfl) (by have := hval i (by omega); omega)) (hd 49 rfl) ?_; refine jo_nil ?_; refine jc_litf rfl ?_; refine jc_skip ?_; refine jc_region ?_; refine jo_l (ly_mv rfl) (hd 50 rfl) ?_; refine jo_l (ly_mv rfl) (hd 51 rfl) ?_; refine jo_l (ly_mv rfl) (hd 52 rfl) ?_; refine jo_l (ly_ia (i := i) sl1039 rfl rfl rfl (by first | rfl | omega) (by omega) rfl) (hd 53 rfl) ?_; refine jo_st (sy_storei rfl rfl rfl one3 (by first | omega | (dsimp only; omega))) ?_; refine jo_nil ?_; refine jc_region ?_; refine jo_l (ly_add rfl rfl (r := ((i + 1 : Nat) : Int)) (by rw [wrap_i64 (by omega) (by omega)]; omega)) (hd 54 rfl) ?_; refine jo_l (ly_mv rfl) (hd 20 rfl) ?_; refine jo_nil ?_
        refine ⟨i + 1, ?_, ?_, (by show [(⟨3, 1, 0, true, ints .i64 _⟩ : Ob)] = [⟨3, 1, 0, true, ints .i64 _⟩]; rw [← cpI_set (by rw [dgs_len]; omega), dgs_getD (by omega)]), cov_n 80 rfl rfl ?_⟩
        · omega
        · omega
        · exact (.cons rfl (.u (.u (.u (.u (.u (.u (.u (.u (.u (.u (.u (.u (.u (.u (.u (.u (.u (.u (.u (.u (.u (.u (.u (.u (.u (.u (.u (.u (.u (.u (.u (.u (.u (.u (.u (.u (.u (.u (.u .nil))))))))))))))))))))))))))))))))))))))))
    · refine jc_exit ?_; refine jc_seq ?_
      obtain rfl : i = s.size := by omega
      refine jc_frz (k := .i64) (l := cpI (dgs s) s.size) (l' := dgs s) 6 rfl rfl (by rw [hcl]; exact Nat.le_of_eq (Nat.zero_add _)) (by rw [List.drop_zero, List.take_of_length_le (by omega)]; have h := cpI_all (dgs s); rwa [dgs_len] at h) hL ?_; refine jc_region ?_; refine jo_l (ly_mv rfl) (hd 55 rfl) ?_; refine jo_l (ly_mv rfl) (hd 56 rfl) ?_
      refine jo_callN Try.f67 (build_n (dgs s) b hlb hb2 hr (by rw [dgs_len]; omega) hv9) (fun o G ⟨_, h⟩ => h ▸ idless_cons ints_id idless_nil) rfl Try.func67 rfl rfl (ovL_cons rfl (ovL_cons rfl ovL_nil)) (.cons .n (.cons .i .nil)) (hd 57 rfl) ?_ (fun ch G hp => by simp at hp)
      rintro y G ⟨hy, rfl⟩; injection hy with hy; subst hy
      show JO _ _ _ _ ((57, .t [.o 1 0 0 (lm (hv b (dgs s))).length, .i .i64 0]) :: _) _ _
      refine jo_l (ly_ext rfl rfl) (hd 58 rfl) ?_; refine jo_l (ly_ext rfl rfl) (hd 59 rfl) ?_; refine jo_l (ly_as rfl) (hd 4 rfl) ?_; refine jo_l (ly_as rfl) (hd 5 rfl) ?_; refine jo_nil ?_; refine jc_ret ?_
      refine ⟨[1], _, (.t [.o 0 0 0 (lm (hv b (dgs s))).length, .i .i64 0]), (.cons rfl (.cons rfl .nil)), rfl, rfl, (by decide), (by first | exact idless_cons ints_id idless_nil | exact idless_cons rfl idless_nil), ?_⟩
      exact ⟨rfl, rfl⟩

set_option maxHeartbeats 4000000 in
theorem Parse_badc (s : ByteArray) (b : Nat) (hlb : 2 ≤ b) (hb2 : b ≤ 36) (k : Nat) (hs0 : s.size ≠ 0) (hs : s.size < 1099511627776) (hk : k < s.size) (hbad : ¬ dgv (byteAt s k) < b) : Spec Try.prog 16 [.s s, .i .i64 (b : Int)] (fun o => o = .ret (.t [.c (.slice none 0 0), .i .i64 51])) := by
  refine spec_of' [(0, .s s), (1, .i .i64 (b : Int))] rfl Try.func16 rfl (Nat.le_of_ble_eq_true rfl) fun Γ hN hds hL hR => ?_
  have hd : ∀ d, Nat.blt d 60 = true → d < Γ.N := fun d h => by rw [hN]; exact Nat.le_of_ble_eq_true h
  refine jc_seq ?_; refine jc_region ?_; refine jo_l (ly_as rfl) (hd 4 rfl) ?_; refine jo_l (ly_as rfl) (hd 5 rfl) ?_; refine jo_nil ?_; refine jc_seq ?_; refine jc_seq ?_; refine jc_region ?_; refine jo_l (ly_mv rfl) (hd 10 rfl) ?_
  refine jo_call Try.f66 (good_y b hlb hb2) rfl Try.func66 rfl rfl (ovL_cons rfl ovL_nil) (.cons .i .nil) (hd 11 rfl) ?_ (fun ch hp => by simp at hp)
  rintro y hy; injection hy with hy; subst hy; refine jo_l (ly_not rfl) (hd 12 rfl) ?_; refine jo_nil ?_; refine jc_litf rfl ?_; refine jc_skip ?_; refine jc_seq ?_; refine jc_seq ?_; refine jc_region ?_; refine jo_l (ly_mv rfl) (hd 13 rfl) ?_; refine jo_l (ly_ff (ly_eqS rfl rfl) (fun h => hs0 (by rw [h]; rfl))) (hd 14 rfl) ?_; refine jo_nil ?_; refine jc_litf rfl ?_; refine jc_skip ?_; refine jc_seq ?_; refine jc_region ?_; refine jo_l (ly_mv rfl) (hd 15 rfl) ?_; refine jo_l (ly_lens und9 rfl) (hd 16 rfl) ?_; refine jo_h (hy_mk (m := s.size) el1039 rfl rfl rfl (by show 8 * s.size ≤ _; omega) (by unfold maxLen; omega) rfl) (hd 17 rfl) ?_; refine jo_l (ly_as rfl) (hd 6 rfl) ?_; refine jo_nil ?_; refine jc_seq ?_; refine jc_seq ?_; refine jc_H (H' := [⟨3, 1, 0, true, ints .i64 (cpI (dgs s) 0)⟩]) (by rw [← cpI_0, dgs_len]; rfl) ?_; refine jc_region ?_; refine jo_l (ly_mv rfl) (hd 18 rfl) ?_; refine jo_l (ly_lens und9 rfl) (hd 19 rfl) ?_; refine jo_l (ly_mv rfl) (hd 20 rfl) ?_; refine jo_nil ?_; refine jc_block ?_
  refine jc_loopF (G := Nat) (fun i => i ≤ k) (fun i => [(20, .i .i64 (i : Int)), (4, .u), (5, .u), (7, .u), (8, .u), (9, .u), (21, .u), (22, .u), (23, .u), (24, .u), (25, .u), (26, .u), (27, .u), (28, .u), (29, .u), (30, .u), (31, .u), (32, .u), (33, .u), (34, .u), (35, .u), (36, .u), (37, .u), (38, .u), (39, .u), (40, .u), (41, .u), (42, .u), (43, .u), (44, .u), (45, .u), (46, .u), (47, .u), (48, .u), (49, .u), (50, .u), (51, .u), (52, .u), (53, .u), (54, .u)]) (fun i => [⟨3, 1, 0, true, ints .i64 (cpI (dgs s) i)⟩]) (fun i => s.size - i) 0 ?_ ?_ rfl ?_
  · exact Nat.zero_le _
  · exact (.cons rfl (.u (.u (.u (.u (.u (.u (.u (.u (.u (.u (.u (.u (.u (.u (.u (.u (.u (.u (.u (.u (.u (.u (.u (.u (.u (.u (.u (.u (.u (.u (.u (.u (.u (.u (.u (.u (.u (.u (.u .nil))))))))))))))))))))))))))))))))))))))))
  · rintro i hi
    have hcl := cpI_len (l := dgs s) (i := i) (by rw [dgs_len]; omega)
    rw [dgs_len] at hcl
    have hbr := byteAt_range s i
    have hdr := dgv_rng hbr.1 hbr.2
    refine jc_seq ?_; refine jc_region ?_; refine jo_l (ly_lt rfl rfl) (hd 21 rfl) ?_; refine jo_nil ?_; refine jc_seq ?_
    refine jc_if rfl (fun h3 => ?_) (fun h3 => ?_)
    · refine jc_skip ?_; refine jc_seq ?_; refine jc_block ?_; refine jc_seq ?_; refine jc_region ?_; refine jo_l (ly_mv rfl) (hd 22 rfl) ?_; refine jo_l (ly_as rfl) (hd 7 rfl) ?_; refine jo_nil ?_; refine jc_seq ?_; refine jc_region ?_; refine jo_l (ly_as rfl) (hd 8 rfl) ?_; refine jo_nil ?_
      refine jc_meetH (G := Unit) (fun _ => True) (fun _ => [(7, .i .i64 (i : Int)), (8, .i .i64 (dgv (byteAt s i))), (9, .u), (23, .u), (24, .u), (25, .u), (26, .u), (27, .u), (28, .u), (29, .u), (30, .u), (31, .u), (32, .u), (33, .u), (34, .u), (35, .u), (36, .u), (37, .u), (38, .u), (39, .u), (40, .u), (41, .u), (42, .u), (43, .u), (44, .u), (45, .u), (46, .u)]) ?_ ?_
      · refine jc_seq ?_; refine jc_region ?_; refine jo_l (ly_mv rfl) (hd 23 rfl) ?_; refine jo_l (ly_mv rfl) (hd 24 rfl) ?_; refine jo_l (ly_ixs (i := i) und9 rfl rfl (by first | rfl | omega) (by omega)) (hd 25 rfl) ?_; refine jo_l (ly_as rfl) (hd 9 rfl) ?_; refine jo_nil ?_; refine jc_block ?_; refine jc_seq ?_; refine jc_region ?_; refine jo_l (ly_mv rfl) (hd 27 rfl) ?_; refine jo_l (ly_ge rfl rfl) (hd 28 rfl) ?_; refine jo_l (ly_mv rfl) (hd 29 rfl) ?_
        refine jo_ifp 29 rfl (fun h4 => ?_) (fun h4 => ?_)
        · refine jo_g 29 rfl rfl (ly_mv rfl) (hd 30 rfl) ?_; refine jo_g 29 rfl rfl (ly_le rfl rfl) (hd 31 rfl) ?_; refine jo_l (ly_pick_t rfl rfl) (hd 32 rfl) ?_; refine jo_l (ly_as rfl) (hd 26 rfl) ?_; refine jo_nil ?_
          refine jc_if rfl (fun h5 => ?_) (fun h5 => ?_)
          · refine jc_region ?_; refine jo_l (ly_mv rfl) (hd 33 rfl) ?_; refine jo_l (ly_sub rfl rfl (wrap_u8 (by omega) (by omega))) (hd 34 rfl) ?_; refine jo_l (ly_conv und5 und3 rfl (wrap_i64 (by omega) (by omega))) (hd 35 rfl) ?_; refine jo_l (ly_as rfl) (hd 8 rfl) ?_; refine jo_nil ?_
            refine ⟨(), ?_, rfl, cov_n 16 rfl rfl ?_⟩
            · trivial
            · exact (.cons rfl (.cons (by show some (V.i .i64 _) = some (V.i .i64 _); congr 1; congr 1; first | (exfalso; omega) | skip; unfold dgv; first | rw [if_pos (by omega)] | rw [if_neg (by omega), if_pos (by omega)] | rw [if_neg (by omega), if_neg (by omega)]) (.u (.u (.u (.u (.u (.u (.u (.u (.u (.u (.u (.u (.u (.u (.u (.u (.u (.u (.u (.u (.u (.u (.u (.u (.u .nil)))))))))))))))))))))))))))
          · refine jc_seq ?_; refine jc_region ?_; refine jo_l (ly_mv rfl) (hd 37 rfl) ?_; refine jo_l (ly_ge rfl rfl) (hd 38 rfl) ?_; refine jo_l (ly_mv rfl) (hd 39 rfl) ?_
            refine jo_ifp 39 rfl (fun h6 => ?_) (fun h6 => ?_)
            · refine jo_g 39 rfl rfl (ly_mv rfl) (hd 40 rfl) ?_; refine jo_g 39 rfl rfl (ly_le rfl rfl) (hd 41 rfl) ?_; refine jo_l (ly_pick_t rfl rfl) (hd 42 rfl) ?_; refine jo_l (ly_as rfl) (hd 36 rfl) ?_; refine jo_nil ?_
              refine jc_if rfl (fun h7 => ?_) (fun h7 => ?_)
              · refine jc_region ?_; refine jo_l (ly_mv rfl) (hd 43 rfl) ?_; refine jo_l (ly_sub rfl rfl (wrap_u8 (by omega) (by omega))) (hd 44 rfl) ?_; refine jo_l (ly_conv und5 und3 rfl (wrap_i64 (by omega) (by omega))) (hd 45 rfl) ?_; refine jo_l (ly_add rfl rfl (wrap_i64 (by omega) (by omega))) (hd 46 rfl) ?_; refine jo_l (ly_as rfl) (hd 8 rfl) ?_; refine jo_nil ?_
                refine ⟨(), ?_, rfl, cov_n 25 rfl rfl ?_⟩
                · trivial
                · exact (.cons rfl (.cons (by show some (V.i .i64 _) = some (V.i .i64 _); congr 1; congr 1; first | (exfalso; omega) | skip; unfold dgv; first | rw [if_pos (by omega)] | rw [if_neg (by omega), if_pos (by omega)] | rw [if_neg (by omega), if_neg (by omega)]) (.u (.u (.u (.u (.u (.u (.u (.u (.u (.u (.u (.u (.u (.u (.u (.u (.u (.u (.u (.u (.u (.u (.u (.u (.u .nil)))))))))))))))))))))))))))
              · refine jc_skip ?_
                refine ⟨(), ?_, rfl, cov_n 20 rfl rfl ?_⟩
                · trivial
                · exact (.cons rfl (.cons (by show some (V.i .i64 _) = some (V.i .i64 _); congr 1; congr 1; first | (exfalso; omega) | skip; unfold dgv; first | rw [if_pos (by omega)] | rw [if_neg (by omega), if_pos (by omega)] | rw [if_neg (by omega), if_neg (by omega)]) (.u (.u (.u (.u (.u (.u (.u (.u (.u (.u (.u (.u (.u (.u (.u (.u (.u (.u (.u (.u (.u (.u (.u (.u (.u .nil)))))))))))))))))))))))))))
            · refine jo_s 39 rfl rfl rfl (hd 40 rfl) ?_; refine jo_s 39 rfl rfl rfl (hd 41 rfl) ?_; refine jo_l (ly_pick_f rfl rfl) (hd 42 rfl) ?_; refine jo_l (ly_as rfl) (hd 36 rfl) ?_; refine jo_nil ?_; refine jc_litf rfl ?_; refine jc_skip ?_
              refine ⟨(), ?_, rfl, cov_n 20 rfl rfl ?_⟩
              · trivial
              · exact (.cons rfl (.cons (by show some (V.i .i64 _) = some (V.i .i64 _); congr 1; congr 1; first | (exfalso; omega) | skip; unfold dgv; first | rw [if_pos (by omega)] | rw [if_neg (by omega), if_pos (by omega)] | rw [if_neg (by omega), if_neg (by omega)]) (.u (.u (.u (.u (.u (.u (.u (.u (.u (.u (.u (.u (.u (.u (.u (.u (.u (.u (.u (.u (.u (.u (.u (.u (.u .nil)))))))))))))))))))))))))))
        · refine jo_s 29 rfl rfl rfl (hd 30 rfl) ?_; refine jo_s 29 rfl rfl rfl (hd 31 rfl) ?_; refine jo_l (ly_pick_f rfl rfl) (hd 32 rfl) ?_; refine jo_l (ly_as rfl) (hd 26 rfl) ?_; refine jo_nil ?_; refine jc_litf rfl ?_; refine jc_seq ?_; refine jc_region ?_; refine jo_l (ly_mv rfl) (hd 37 rfl) ?_; refine jo_l (ly_ge rfl rfl) (hd 38 rfl) ?_; refine jo_l (ly_mv rfl) (hd 39 rfl) ?_
          refine jo_ifp 39 rfl (fun h10 => ?_) (fun h10 => ?_)
          · refine jo_g 39 rfl rfl (ly_mv rfl) (hd 40 rfl) ?_; refine jo_g 39 rfl rfl (ly_le rfl rfl) (hd 41 rfl) ?_; refine jo_l (ly_pick_t rfl rfl) (hd 42 rfl) ?_; refine jo_l (ly_as rfl) (hd 36 rfl) ?_; refine jo_nil ?_
            refine jc_if rfl (fun h11 => ?_) (fun h11 => ?_)
            · refine jc_region ?_; refine jo_l (ly_mv rfl) (hd 43 rfl) ?_; refine jo_l (ly_sub rfl rfl (wrap_u8 (by omega) (by omega))) (hd 44 rfl) ?_; refine jo_l (ly_conv und5 und3 rfl (wrap_i64 (by omega) (by omega))) (hd 45 rfl) ?_; refine jo_l (ly_add rfl rfl (wrap_i64 (by omega) (by omega))) (hd 46 rfl) ?_; refine jo_l (ly_as rfl) (hd 8 rfl) ?_; refine jo_nil ?_
              refine ⟨(), ?_, rfl, cov_n 25 rfl rfl ?_⟩
              · trivial
              · exact (.cons rfl (.cons (by show some (V.i .i64 _) = some (V.i .i64 _); congr 1; congr 1; first | (exfalso; omega) | skip; unfold dgv; first | rw [if_pos (by omega)] | rw [if_neg (by omega), if_pos (by omega)] | rw [if_neg (by omega), if_neg (by omega)]) (.u (.u (.u (.u (.u (.u (.u (.u (.u (.u (.u (.u (.u (.u (.u (.u (.u (.u (.u (.u (.u (.u (.u (.u (.u .nil)))))))))))))))))))))))))))
            · refine jc_skip ?_
              refine ⟨(), ?_, rfl, cov_n 20 rfl rfl ?_⟩
              · trivial
              · exact (.cons rfl (.cons (by show some (V.i .i64 _) = some (V.i .i64 _); congr 1; congr 1; first | (exfalso; omega) | skip; unfold dgv; first | rw [if_pos (by omega)] | rw [if_neg (by omega), if_pos (by omega)] | rw [if_neg (by omega), if_neg (by omega)]) (.u (.u (.u (.u (.u (.u (.u (.u (.u (.u (.u (.u (.u (.u (.u (.u (.u (.u (.u (.u (.u (.u (.u (.u (.u .nil)))))))))))))))))))))))))))
          · refine jo_s 39 rfl rfl rfl (hd 40 rfl) ?_; refine jo_s 39 rfl rfl rfl (hd 41 rfl) ?_; refine jo_l (ly_pick_f rfl rfl) (hd 42 rfl) ?_; refine jo_l (ly_as rfl) (hd 36 rfl) ?_; refine jo_nil ?_; refine jc_litf rfl ?_; refine jc_skip ?_
            refine ⟨(), ?_, rfl, cov_n 20 rfl rfl ?_⟩
            · trivial
            · exact (.cons rfl (.cons (by show some (V.i .i64 _) = some (V.i .i64 _); congr 1; congr 1; first | (exfalso; omega) | skip; unfold dgv; first | rw [if_pos (by omega)] | rw [if_neg (by omega), if_pos (by omega)] | rw [if_neg (by omega), if_neg (by omega)]) (.u (.u (.u (.u (.u (.u (.u (.u (.u (.u (.u (.u (.u (.u (.u (.u (.u (.u (.u (.u (.u (.u (.u (.u (.u .nil)))))))))))))))))))))))))))
      · rintro _ _; refine jc_seq ?_; refine jc_seq ?_; refine jc_region ?_; refine jo_l (ly_mv rfl) (hd 47 rfl) ?_; refine jo_l (ly_mv rfl) (hd 48 rfl) ?_; refine jo_l (ly_ge rfl rfl) (hd 49 rfl) ?_; refine jo_nil ?_
        refine jc_if rfl (fun h13 => ?_) (fun h13 => ?_)
        · refine jc_seq ?_; refine jc_region ?_; refine jo_l (ly_as rfl) (hd 4 rfl) ?_; refine jo_l (ly_as rfl) (hd 5 rfl) ?_; refine jo_nil ?_; refine jc_ret ?_
          refine ⟨_, _, (.cons rfl (.cons rfl .nil)), (.t1 .c (.t1 .i .t0)), ?_⟩
          exact rfl
        · have hik : i ≠ k := fun e => hbad (by rw [← e]; omega)
          refine jc_skip ?_; refine jc_region ?_; refine jo_l (ly_mv rfl) (hd 50 rfl) ?_; refine jo_l (ly_mv rfl) (hd 51 rfl) ?_; refine jo_l (ly_mv rfl) (hd 52 rfl) ?_; refine jo_l (ly_ia (i := i) sl1039 rfl rfl rfl (by first | rfl | omega) (by omega) rfl) (hd 53 rfl) ?_; refine jo_st (sy_storei rfl rfl rfl one3 (by first | omega | (dsimp only; omega))) ?_; refine jo_nil ?_; refine jc_region ?_; refine jo_l (ly_add rfl rfl (r := ((i + 1 : Nat) : Int)) (by rw [wrap_i64 (by omega) (by omega)]; omega)) (hd 54 rfl) ?_; refine jo_l (ly_mv rfl) (hd 20 rfl) ?_; refine jo_nil ?_
          refine ⟨i + 1, ?_, ?_, (by show [(⟨3, 1, 0, true, ints .i64 _⟩ : Ob)] = [⟨3, 1, 0, true, ints .i64 _⟩]; rw [← cpI_set (by rw [dgs_len]; omega), dgs_getD (by omega)]), cov_n 80 rfl rfl ?_⟩
          · omega
          · omega
          · exact (.cons rfl (.u (.u (.u (.u (.u (.u (.u (.u (.u (.u (.u (.u (.u (.u (.u (.u (.u (.u (.u (.u (.u (.u (.u (.u (.u (.u (.u (.u (.u (.u (.u (.u (.u (.u (.u (.u (.u (.u (.u .nil))))))))))))))))))))))))))))))))))))))))
    · exfalso
      omega

set_option maxHeartbeats 4000000 in
theorem Parse_emptyc (b : Nat) (hlb : 2 ≤ b) (hb2 : b ≤ 36) : Spec Try.prog 16 [.s .empty, .i .i64 (b : Int)] (fun o => o = .ret (.t [.c (.slice none 0 0), .i .i64 51])) := by
  refine spec_of' [(0, .s .empty), (1, .i .i64 (b : Int))] rfl Try.func16 rfl (Nat.le_of_ble_eq_true rfl) fun Γ hN hds hL hR => ?_
  have hd : ∀ d, Nat.blt d 60 = true → d < Γ.N := fun d h => by rw [hN]; exact Nat.le_of_ble_eq_true h
  refine jc_seq ?_; refine jc_region ?_; refine jo_l (ly_as rfl) (hd 4 rfl) ?_; refine jo_l (ly_as rfl) (hd 5 rfl) ?_; refine jo_nil ?_; refine jc_seq ?_; refine jc_seq ?_; refine jc_region ?_; refine jo_l (ly_mv rfl) (hd 10 rfl) ?_
  refine jo_call Try.f66 (good_y b hlb hb2) rfl Try.func66 rfl rfl (ovL_cons rfl ovL_nil) (.cons .i .nil) (hd 11 rfl) ?_ (fun ch hp => by simp at hp)
  rintro y hy; injection hy with hy; subst hy; refine jo_l (ly_not rfl) (hd 12 rfl) ?_; refine jo_nil ?_; refine jc_litf rfl ?_; refine jc_skip ?_; refine jc_seq ?_; refine jc_seq ?_; refine jc_region ?_; refine jo_l (ly_mv rfl) (hd 13 rfl) ?_; refine jo_l (ly_tt (ly_eqS rfl rfl) rfl) (hd 14 rfl) ?_; refine jo_nil ?_; refine jc_litt rfl ?_; refine jc_seq ?_; refine jc_region ?_; refine jo_l (ly_as rfl) (hd 4 rfl) ?_; refine jo_l (ly_as rfl) (hd 5 rfl) ?_; refine jo_nil ?_; refine jc_ret ?_
  refine ⟨_, _, (.cons rfl (.cons rfl .nil)), (.t1 .c (.t1 .i .t0)), ?_⟩
  exact rfl

set_option maxHeartbeats 4000000 in
theorem Parse_basec (s : ByteArray) (b : Int) (hb : ¬ (2 ≤ b ∧ b ≤ 36)) : Spec Try.prog 16 [.s s, .i .i64 b] (fun o => o = .ret (.t [.c (.slice none 0 0), .i .i64 50])) := by
  refine spec_of' [(0, .s s), (1, .i .i64 b)] rfl Try.func16 rfl (Nat.le_of_ble_eq_true rfl) fun Γ hN hds hL hR => ?_
  have hd : ∀ d, Nat.blt d 60 = true → d < Γ.N := fun d h => by rw [hN]; exact Nat.le_of_ble_eq_true h
  refine jc_seq ?_; refine jc_region ?_; refine jo_l (ly_as rfl) (hd 4 rfl) ?_; refine jo_l (ly_as rfl) (hd 5 rfl) ?_; refine jo_nil ?_; refine jc_seq ?_; refine jc_seq ?_; refine jc_region ?_; refine jo_l (ly_mv rfl) (hd 10 rfl) ?_
  refine jo_call Try.f66 (good_n b hb) rfl Try.func66 rfl rfl (ovL_cons rfl ovL_nil) (.cons .i .nil) (hd 11 rfl) ?_ (fun ch hp => by simp at hp)
  rintro y hy; injection hy with hy; subst hy; refine jo_l (ly_not rfl) (hd 12 rfl) ?_; refine jo_nil ?_; refine jc_litt rfl ?_; refine jc_seq ?_; refine jc_region ?_; refine jo_l (ly_as rfl) (hd 4 rfl) ?_; refine jo_l (ly_as rfl) (hd 5 rfl) ?_; refine jo_nil ?_; refine jc_ret ?_
  refine ⟨_, _, (.cons rfl (.cons rfl .nil)), (.t1 .c (.t1 .i .t0)), ?_⟩
  exact rfl

set_option maxHeartbeats 4000000 in
theorem rParse_b (s : ByteArray) (b : Int) (hb : ¬ (2 ≤ b ∧ b ≤ 36)) : Spec Try.prog 17 [.s s, .i .i64 b] (fun o => o = .ret (.t [.n false .u64 [], .i .i64 50])) := by
  refine spec_of' [(0, .s s), (1, .i .i64 b)] rfl Try.func17 rfl (Nat.le_of_ble_eq_true rfl) fun Γ hN hds hL hR => ?_
  have hd : ∀ d, Nat.blt d 46 = true → d < Γ.N := fun d h => by rw [hN]; exact Nat.le_of_ble_eq_true h
  refine jc_seq ?_; refine jc_region ?_; refine jo_l (ly_as rfl) (hd 4 rfl) ?_; refine jo_l (ly_as rfl) (hd 5 rfl) ?_; refine jo_nil ?_; refine jc_seq ?_; refine jc_seq ?_; refine jc_region ?_; refine jo_l (ly_mv rfl) (hd 10 rfl) ?_; refine jo_l (ly_lt rfl rfl) (hd 11 rfl) ?_; refine jo_l (ly_mv rfl) (hd 12 rfl) ?_
  refine jo_ifp 12 rfl (fun h1 => ?_) (fun h1 => ?_)
  · refine jo_s 12 rfl rfl rfl (hd 13 rfl) ?_; refine jo_s 12 rfl rfl rfl (hd 14 rfl) ?_; refine jo_l (ly_pick_t rfl rfl) (hd 15 rfl) ?_; refine jo_nil ?_; refine jc_litt rfl ?_; refine jc_seq ?_; refine jc_region ?_; refine jo_l (ly_as rfl) (hd 4 rfl) ?_; refine jo_l (ly_as rfl) (hd 5 rfl) ?_; refine jo_nil ?_; refine jc_ret ?_
    refine ⟨_, _, (.cons rfl (.cons rfl .nil)), (.t1 (.nil (fr := false) (k := .u64)) (.t1 .i .t0)), ?_⟩
    exact rfl
  · refine jo_g 12 rfl rfl (ly_mv rfl) (hd 13 rfl) ?_; refine jo_g 12 rfl rfl (ly_gt rfl rfl) (hd 14 rfl) ?_; refine jo_l (ly_pick_f rfl rfl) (hd 15 rfl) ?_; refine jo_nil ?_
    refine jc_if rfl (fun h3 => ?_) (fun h3 => ?_)
    · refine jc_seq ?_; refine jc_region ?_; refine jo_l (ly_as rfl) (hd 4 rfl) ?_; refine jo_l (ly_as rfl) (hd 5 rfl) ?_; refine jo_nil ?_; refine jc_ret ?_
      refine ⟨_, _, (.cons rfl (.cons rfl .nil)), (.t1 (.nil (fr := false) (k := .u64)) (.t1 .i .t0)), ?_⟩
      exact rfl
    · exfalso
      omega

set_option maxHeartbeats 4000000 in
theorem rParse_e (s : ByteArray) (b : Nat) (hlb : 2 ≤ b) (hb2 : b ≤ 36) (hs0 : s.size = 0) : Spec Try.prog 17 [.s s, .i .i64 (b : Int)] (fun o => o = .ret (.t [.n false .u64 [], .i .i64 51])) := by
  refine spec_of' [(0, .s s), (1, .i .i64 (b : Int))] rfl Try.func17 rfl (Nat.le_of_ble_eq_true rfl) fun Γ hN hds hL hR => ?_
  have hd : ∀ d, Nat.blt d 46 = true → d < Γ.N := fun d h => by rw [hN]; exact Nat.le_of_ble_eq_true h
  refine jc_seq ?_; refine jc_region ?_; refine jo_l (ly_as rfl) (hd 4 rfl) ?_; refine jo_l (ly_as rfl) (hd 5 rfl) ?_; refine jo_nil ?_; refine jc_seq ?_; refine jc_seq ?_; refine jc_region ?_; refine jo_l (ly_mv rfl) (hd 10 rfl) ?_; refine jo_l (ly_ff (ly_lt rfl rfl) (by omega)) (hd 11 rfl) ?_; refine jo_l (ly_mv rfl) (hd 12 rfl) ?_; refine jo_g 12 rfl rfl (ly_mv rfl) (hd 13 rfl) ?_; refine jo_g 12 rfl rfl (ly_ff (ly_gt rfl rfl) (by omega)) (hd 14 rfl) ?_; refine jo_l (ly_pick_f rfl rfl) (hd 15 rfl) ?_; refine jo_nil ?_; refine jc_litf rfl ?_; refine jc_skip ?_; refine jc_seq ?_; refine jc_region ?_; refine jo_l (ly_as rfl) (hd 6 rfl) ?_; refine jo_nil ?_; refine jc_seq ?_; refine jc_seq ?_; refine jc_region ?_; refine jo_l (ly_as rfl) (hd 7 rfl) ?_; refine jo_nil ?_; refine jc_block ?_; refine jc_own0 (id := 0) 6 3 1 rfl rfl ?_
  refine jc_loopD (G := Nat × Nat × List Int) 1 (fun g => g.1 ≤ s.size ∧ g.1 ≤ g.2.2.length ∧ g.2.2.take g.1 = (dgm b s).take g.1) (fun g => [(6, .o 0 g.2.1 0 g.1), (7, .i .i64 (g.1 : Int)), (8, .u), (9, .u), (16, .u), (17, .u), (18, .u), (19, .u), (20, .u), (21, .u), (22, .u), (23, .u), (24, .u), (25, .u), (26, .u), (27, .u), (28, .u), (29, .u), (30, .u), (31, .u), (32, .u), (33, .u), (34, .u), (35, .u), (36, .u), (37, .u)]) (fun g => [⟨3, 1, g.2.1, true, ints .i64 g.2.2⟩]) (fun g => s.size - g.1) (0, 0, []) ?_ ?_ rfl hR rfl (fun _ _ => rfl) (fun g _ => .cons ints_id .nil) ?_
  · exact ⟨Nat.zero_le _, Nat.le_refl _, rfl⟩
  · exact (.cons rfl (.cons rfl (.u (.u (.u (.u (.u (.u (.u (.u (.u (.u (.u (.u (.u (.u (.u (.u (.u (.u (.u (.u (.u (.u (.u (.u .nil))))))))))))))))))))))))))
  · rintro ⟨i, ver, C⟩ ⟨hi, hC1, hC2⟩
    dsimp only at hi hC1 hC2
    have hbr := byteAt_range s i
    have hdr := dgv_rng hbr.1 hbr.2
    refine jc_seq ?_; refine jc_seq ?_; refine jc_region ?_; refine jo_l (ly_mv rfl) (hd 16 rfl) ?_; refine jo_l (ly_mv rfl) (hd 17 rfl) ?_; refine jo_l (ly_lens und9 rfl) (hd 18 rfl) ?_; refine jo_l (ly_lt rfl rfl) (hd 19 rfl) ?_; refine jo_nil ?_
    refine jc_if rfl (fun h2 => ?_) (fun h2 => ?_)
    · exfalso
      omega
    · refine jc_exit ?_; refine jc_seq ?_; refine jc_seq ?_; refine jc_region ?_; refine jo_l (ly_mv rfl) (hd 38 rfl) ?_; refine jo_l (ly_leno sl1039 rfl rfl) (hd 39 rfl) ?_; refine jo_l (ly_eq rfl rfl) (hd 40 rfl) ?_; refine jo_nil ?_
      refine jc_if rfl (fun h3 => ?_) (fun h3 => ?_)
      · refine jc_seq ?_; refine jc_region ?_; refine jo_l (ly_as rfl) (hd 4 rfl) ?_; refine jo_l (ly_as rfl) (hd 5 rfl) ?_; refine jo_nil ?_; refine jc_ret ?_
        refine ⟨_, _, (.cons rfl (.cons rfl .nil)), (.t1 (.nil (fr := false) (k := .u64)) (.t1 .i .t0)), ?_⟩
        exact rfl
      · exfalso
        omega

set_option maxHeartbeats 4000000 in
theorem rParse_g (s : ByteArray) (b : Nat) (r : List Int) (e : Int) (hlb : 2 ≤ b) (hb2 : b ≤ 36) (hs0 : s.size ≠ 0) (hs : s.size < 4294967296) (hB : Spec Try.prog 24 [.i .i64 (b : Int), .n false .i64 (dgm b s)] (fun o => o = .ret (.t [.n false .u64 r, .i .i64 e]))) : Spec Try.prog 17 [.s s, .i .i64 (b : Int)] (fun o => o = .ret (.t [.n false .u64 r, .i .i64 e])) := by
  refine spec_of' [(0, .s s), (1, .i .i64 (b : Int))] rfl Try.func17 rfl (Nat.le_of_ble_eq_true rfl) fun Γ hN hds hL hR => ?_
  have hd : ∀ d, Nat.blt d 46 = true → d < Γ.N := fun d h => by rw [hN]; exact Nat.le_of_ble_eq_true h
  refine jc_seq ?_; refine jc_region ?_; refine jo_l (ly_as rfl) (hd 4 rfl) ?_; refine jo_l (ly_as rfl) (hd 5 rfl) ?_; refine jo_nil ?_; refine jc_seq ?_; refine jc_seq ?_; refine jc_region ?_; refine jo_l (ly_mv rfl) (hd 10 rfl) ?_; refine jo_l (ly_ff (ly_lt rfl rfl) (by omega)) (hd 11 rfl) ?_; refine jo_l (ly_mv rfl) (hd 12 rfl) ?_; refine jo_g 12 rfl rfl (ly_mv rfl) (hd 13 rfl) ?_; refine jo_g 12 rfl rfl (ly_ff (ly_gt rfl rfl) (by omega)) (hd 14 rfl) ?_; refine jo_l (ly_pick_f rfl rfl) (hd 15 rfl) ?_; refine jo_nil ?_; refine jc_litf rfl ?_; refine jc_skip ?_; refine jc_seq ?_; refine jc_region ?_; refine jo_l (ly_as rfl) (hd 6 rfl) ?_; refine jo_nil ?_; refine jc_seq ?_; refine jc_seq ?_; refine jc_region ?_; refine jo_l (ly_as rfl) (hd 7 rfl) ?_; refine jo_nil ?_; refine jc_block ?_; refine jc_own0 (id := 0) 6 3 1 rfl rfl ?_
  refine jc_loopD (G := Nat × Nat × List Int) 1 (fun g => g.1 ≤ s.size ∧ g.1 ≤ g.2.2.length ∧ g.2.2.take g.1 = (dgm b s).take g.1) (fun g => [(6, .o 0 g.2.1 0 g.1), (7, .i .i64 (g.1 : Int)), (8, .u), (9, .u), (16, .u), (17, .u), (18, .u), (19, .u), (20, .u), (21, .u), (22, .u), (23, .u), (24, .u), (25, .u), (26, .u), (27, .u), (28, .u), (29, .u), (30, .u), (31, .u), (32, .u), (33, .u), (34, .u), (35, .u), (36, .u), (37, .u)]) (fun g => [⟨3, 1, g.2.1, true, ints .i64 g.2.2⟩]) (fun g => s.size - g.1) (0, 0, []) ?_ ?_ rfl hR rfl (fun _ _ => rfl) (fun g _ => .cons ints_id .nil) ?_
  · exact ⟨Nat.zero_le _, Nat.le_refl _, rfl⟩
  · exact (.cons rfl (.cons rfl (.u (.u (.u (.u (.u (.u (.u (.u (.u (.u (.u (.u (.u (.u (.u (.u (.u (.u (.u (.u (.u (.u (.u (.u .nil))))))))))))))))))))))))))
  · rintro ⟨i, ver, C⟩ ⟨hi, hC1, hC2⟩
    dsimp only at hi hC1 hC2
    have hbr := byteAt_range s i
    have hdr := dgv_rng hbr.1 hbr.2
    refine jc_seq ?_; refine jc_seq ?_; refine jc_region ?_; refine jo_l (ly_mv rfl) (hd 16 rfl) ?_; refine jo_l (ly_mv rfl) (hd 17 rfl) ?_; refine jo_l (ly_lens und9 rfl) (hd 18 rfl) ?_; refine jo_l (ly_lt rfl rfl) (hd 19 rfl) ?_; refine jo_nil ?_
    refine jc_if rfl (fun h2 => ?_) (fun h2 => ?_)
    · refine jc_skip ?_; refine jc_seq ?_; refine jc_block ?_; refine jc_seq ?_; refine jc_region ?_; refine jo_l (ly_as rfl) (hd 8 rfl) ?_; refine jo_nil ?_; refine jc_seq ?_; refine jc_seq ?_; refine jc_region ?_; refine jo_l (ly_as rfl) (hd 9 rfl) ?_; refine jo_nil ?_; refine jc_block ?_
      refine jc_loopF (G := Nat) (fun j => j ≤ b) (fun j => [(8, .i .i64 (if dgv (byteAt s i) < ((j : Nat) : Int) then dgv (byteAt s i) else -1)), (9, .i .i64 (j : Int)), (22, .u), (23, .u), (24, .u), (25, .u), (26, .u), (27, .u), (28, .u), (29, .u), (30, .u), (31, .u), (32, .u), (33, .u)]) (fun j => [⟨3, 1, ver, true, ints .i64 C⟩]) (fun j => b - j) 0 ?_ ?_ rfl ?_
      · exact Nat.zero_le _
      · exact (.cons (by show some (V.i .i64 _) = some (V.i .i64 _); exact congrArg (fun z => some (V.i .i64 z)) (tab_0 hbr.1 hbr.2)) (.cons rfl (.u (.u (.u (.u (.u (.u (.u (.u (.u (.u (.u (.u .nil))))))))))))))
      · rintro j hj; refine jc_seq ?_; refine jc_seq ?_; refine jc_region ?_; refine jo_l (ly_mv rfl) (hd 22 rfl) ?_; refine jo_l (ly_mv rfl) (hd 23 rfl) ?_; refine jo_l (ly_lt rfl rfl) (hd 24 rfl) ?_; refine jo_nil ?_
        refine jc_if rfl (fun h3 => ?_) (fun h3 => ?_)
        · refine jc_skip ?_; refine jc_seq ?_; refine jc_block ?_; refine jc_seq ?_; refine jc_draw (n := 6) _ rfl mixed ?_; refine ja_l2 0 [1, 5] (lo_l (ly_mv rfl) (hd 27 rfl)) rfl (by kernel_rfl) (by kernel_rfl) (by kernel_rfl) (by kernel_rfl) (fun _ _ _ _ h => h) ?_; refine ja_l 1 (lo_l (ly_ixs (i := j) und9 rfl rfl (by first | rfl | omega) (by show _ < 36; omega)) (hd 28 rfl)) rfl (by kernel_rfl) (by kernel_rfl) (by kernel_rfl) (fun _ _ _ _ h => h) ?_; refine ja_l2 2 [4, 5] (lo_l (ly_mv rfl) (hd 29 rfl)) rfl (by kernel_rfl) (by kernel_rfl) (by kernel_rfl) (by kernel_rfl) (fun _ _ _ _ h => h) ?_; refine ja_l2 3 [4, 5] (lo_l (ly_mv rfl) (hd 30 rfl)) rfl (by kernel_rfl) (by kernel_rfl) (by kernel_rfl) (by kernel_rfl) (fun _ _ _ _ h => h) ?_; refine ja_l 4 (lo_l (ly_ixs (i := i) und9 rfl rfl (by first | rfl | omega) (by omega)) (hd 31 rfl)) rfl (by kernel_rfl) (by kernel_rfl) (by kernel_rfl) (fun _ _ _ _ h => h) ?_; refine ja_l 5 (lo_l (ly_eq rfl rfl) (hd 32 rfl)) rfl (by kernel_rfl) (by kernel_rfl) (by kernel_rfl) (fun _ _ _ _ h => h) ?_; refine ja_nil (by kernel_rfl) ?_
          refine jc_if rfl (fun h4 => ?_) (fun h4 => ?_)
          · have hq : byteAt ltrTab j = (byteAt s i) := h4
            refine jc_region ?_; refine jo_l (ly_mv rfl) (hd 33 rfl) ?_; refine jo_l (ly_as rfl) (hd 8 rfl) ?_; refine jo_nil ?_; refine jc_region ?_; refine jo_l (ly_mv rfl) (hd 25 rfl) ?_; refine jo_l (ly_add rfl rfl (r := ((j + 1 : Nat) : Int)) (by rw [wrap_i64 (by omega) (by omega)]; omega)) (hd 26 rfl) ?_; refine jo_l (ly_as rfl) (hd 9 rfl) ?_; refine jo_nil ?_
            refine ⟨j + 1, ?_, ?_, rfl, cov_n 28 rfl rfl ?_⟩
            · omega
            · omega
            · exact (.cons (by show some (V.i .i64 _) = some (V.i .i64 _); first | exact congrArg (fun z => some (V.i .i64 z)) (tab_t (by omega) hbr.1 hbr.2 hq) | exact congrArg (fun z => some (V.i .i64 z)) (tab_f (by omega) hbr.1 hbr.2 hq)) (.cons rfl (.u (.u (.u (.u (.u (.u (.u (.u (.u (.u (.u (.u .nil))))))))))))))
          · have hq : ¬ byteAt ltrTab j = (byteAt s i) := h4
            refine jc_skip ?_; refine jc_region ?_; refine jo_l (ly_mv rfl) (hd 25 rfl) ?_; refine jo_l (ly_add rfl rfl (r := ((j + 1 : Nat) : Int)) (by rw [wrap_i64 (by omega) (by omega)]; omega)) (hd 26 rfl) ?_; refine jo_l (ly_as rfl) (hd 9 rfl) ?_; refine jo_nil ?_
            refine ⟨j + 1, ?_, ?_, rfl, cov_n 26 rfl rfl ?_⟩
            · omega
            · omega
            · exact (.cons (by show some (V.i .i64 _) = some (V.i .i64 _); first | exact congrArg (fun z => some (V.i .i64 z)) (tab_t (by omega) hbr.1 hbr.2 hq) | exact congrArg (fun z => some (V.i .i64 z)) (tab_f (by omega) hbr.1 hbr.2 hq)) (.cons rfl (.u (.u (.u (.u (.u (.u (.u (.u (.u (.u (.u (.u .nil))))))))))))))
        · have hjb : j = b := by omega
          refine jc_exit ?_; refine jc_region ?_; refine jo_l (ly_mv rfl) (hd 34 rfl) ?_; refine jo_l (ly_mv rfl) (hd 35 rfl) ?_; refine jo_h (hy_lit (id := 1) (xs := [.tmp 35]) el1039 rfl (ovL_cons rfl ovL_nil) rfl (all2_of rfl) (by decide) rfl) (hd 36 rfl) ?_
          refine jo_appI (C := C) (v := (if dgv (byteAt s i) < ((j : Nat) : Int) then dgv (byteAt s i) else -1)) el1039 rfl rfl hC1 rfl (src_o (cs := ints .i64 [(if dgv (byteAt s i) < ((j : Nat) : Int) then dgv (byteAt s i) else -1)]) rfl rfl rfl) (by show (_ + 1) * 8 ≤ _; first | omega | (dsimp only; omega)) (by show _ + 1 ≤ 9223372036854775807; first | omega | (dsimp only; omega)) (hd 37 rfl) (fun ver' C' hE1 hE2 => ?_)
          refine jo_l (ly_as rfl) (hd 6 rfl) ?_; refine jo_nil ?_; refine jc_region ?_; refine jo_l (ly_mv rfl) (hd 20 rfl) ?_; refine jo_l (ly_add rfl rfl (r := ((i + 1 : Nat) : Int)) (by rw [wrap_i64 (by omega) (by omega)]; omega)) (hd 21 rfl) ?_; refine jo_l (ly_as rfl) (hd 7 rfl) ?_; refine jo_nil ?_
          refine ⟨(i + 1, ver', C'), ?_, ?_, rfl, cov_n 57 rfl rfl ?_⟩
          · exact ⟨by dsimp only; omega, hE1, by dsimp only; rw [hE2, hC2, hjb, dgm_take (by omega)]⟩
          · show s.size - (i + 1) < s.size - i
            omega
          · exact (.cons rfl (.cons rfl (.u (.u (.u (.u (.u (.u (.u (.u (.u (.u (.u (.u (.u (.u (.u (.u (.u (.u (.u (.u (.u (.u (.u (.u .nil))))))))))))))))))))))))))
    · obtain rfl : i = s.size := by omega
      refine jc_exit ?_; refine jc_seq ?_; refine jc_seq ?_; refine jc_region ?_; refine jo_l (ly_mv rfl) (hd 38 rfl) ?_; refine jo_l (ly_leno sl1039 rfl rfl) (hd 39 rfl) ?_; refine jo_l (ly_eq rfl rfl) (hd 40 rfl) ?_; refine jo_nil ?_
      refine jc_if rfl (fun h5 => ?_) (fun h5 => ?_)
      · exfalso
        omega
      · refine jc_skip ?_; refine jc_seq ?_; refine jc_frz (k := .i64) (l := C) (l' := (dgm b s)) 6 rfl rfl (by omega) (by rw [List.drop_zero, hC2, List.take_of_length_le (by rw [dgm_len]; exact Nat.le_refl _)]) hL ?_; refine jc_region ?_; refine jo_l (ly_mv rfl) (hd 41 rfl) ?_; refine jo_l (ly_mv rfl) (hd 42 rfl) ?_
        refine jo_call Try.f24 (hB) rfl Try.func24 rfl rfl (ovL_cons rfl (ovL_cons rfl ovL_nil)) (.cons .i (.cons .n .nil)) (hd 43 rfl) ?_ (fun ch hp => by simp at hp)
        rintro y hy; injection hy with hy; subst hy; refine jo_l (ly_ext rfl rfl) (hd 44 rfl) ?_; refine jo_l (ly_ext rfl rfl) (hd 45 rfl) ?_; refine jo_l (ly_as rfl) (hd 4 rfl) ?_; refine jo_l (ly_as rfl) (hd 5 rfl) ?_; refine jo_nil ?_; refine jc_ret ?_
        refine ⟨_, _, (.cons rfl (.cons rfl .nil)), (.t1 .nn (.t1 .i .t0)), ?_⟩
        exact rfl
end Go.Proofs.Ytcfdclehmpfkcaa.Vc

/- The contract of surdlaw05.NumeralParses. -/
namespace Go.Proofs.Ytcfdclehmpfkcaa.Vc
open Go Go.RowKit
set_option maxHeartbeats 4000000 in
theorem NumeralParses_y (s : ByteArray) (b : Nat) (hs : s.size ≤ 1048576) (hlb : 2 ≤ b) (hb2 : b ≤ 36) (hs0 : s.size ≠ 0) (hval : ∀ i, i < s.size → dgv (byteAt s i) < b) (hr : rng b (dgs s)) : Spec Try.prog 4 [.s s, .i .i64 (b : Int)] (fun o => o = .ret (.b true)) := by
  refine spec_of' [(0, .s s), (1, .i .i64 (b : Int))] rfl Try.func4 rfl (Nat.le_of_ble_eq_true rfl) fun Γ hN hds hL hR => ?_
  have hd : ∀ d, Nat.blt d 43 = true → d < Γ.N := fun d h => by rw [hN]; exact Nat.le_of_ble_eq_true h
  have hdl9 := dgs_len s
  have hv9 : lenV (hv b (dgs s)) ≤ 67108864 := Nat.le_trans (hv_fit hb2 hlb hr (by omega)) (by decide)
  have hlm9 := lenV_lm hv9
  have h3 := same_ok (hv b (dgs s)) (by rw [← digs_dg (hv_nonneg hr)]; have := digs_lenV (hv_nonneg hr); omega) hv9
  have h2 := rParse_g s b _ 0 hlb hb2 hs0 (by omega) (by rw [dgm_ok hr]; exact rBuild_s (dgs s) b hlb hb2 hr (by omega))
  refine jc_seq ?_; refine jc_region ?_; refine jo_l (ly_as rfl) (hd 4 rfl) ?_; refine jo_nil ?_; refine jc_seq ?_; refine jc_region ?_; refine jo_l (ly_mv rfl) (hd 12 rfl) ?_; refine jo_l (ly_mv rfl) (hd 13 rfl) ?_
  refine jo_callN Try.f16 (Parse_n s b hlb hb2 hs0 (by omega) hval hr hv9) (fun o G ⟨_, h⟩ => h ▸ idless_cons ints_id idless_nil) rfl Try.func16 rfl rfl (ovL_cons rfl (ovL_cons rfl ovL_nil)) (.cons .s (.cons .i .nil)) (hd 14 rfl) ?_ (fun ch G hp => by simp at hp)
  rintro y G ⟨hy, rfl⟩; injection hy with hy; subst hy
  show JO _ _ _ _ ((14, .t [.o 0 0 0 (lm (hv b (dgs s))).length, .i .i64 0]) :: _) _ _
  refine jo_l (ly_mv rfl) (hd 11 rfl) ?_; refine jo_l (ly_ext rfl rfl) (hd 15 rfl) ?_; refine jo_l (ly_ext rfl rfl) (hd 16 rfl) ?_; refine jo_l (ly_as rfl) (hd 5 rfl) ?_; refine jo_l (ly_as rfl) (hd 6 rfl) ?_; refine jo_nil ?_; refine jc_seq ?_; refine jc_region ?_; refine jo_l (ly_mv rfl) (hd 18 rfl) ?_; refine jo_l (ly_mv rfl) (hd 19 rfl) ?_
  refine jo_callN Try.f16 (Parse_n s b hlb hb2 hs0 (by omega) hval hr hv9) (fun o G ⟨_, h⟩ => h ▸ idless_cons ints_id idless_nil) rfl Try.func16 rfl rfl (ovL_cons rfl (ovL_cons rfl ovL_nil)) (.cons .s (.cons .i .nil)) (hd 20 rfl) ?_ (fun ch G hp => by simp at hp)
  rintro y G ⟨hy, rfl⟩; injection hy with hy; subst hy
  show JO _ _ _ _ ((20, .t [.o 1 0 0 (lm (hv b (dgs s))).length, .i .i64 0]) :: _) _ _
  refine jo_l (ly_mv rfl) (hd 17 rfl) ?_; refine jo_l (ly_ext rfl rfl) (hd 21 rfl) ?_; refine jo_l (ly_ext rfl rfl) (hd 22 rfl) ?_; refine jo_l (ly_as rfl) (hd 7 rfl) ?_; refine jo_l (ly_as rfl) (hd 8 rfl) ?_; refine jo_nil ?_; refine jc_seq ?_; refine jc_region ?_; refine jo_l (ly_mv rfl) (hd 24 rfl) ?_; refine jo_l (ly_mv rfl) (hd 25 rfl) ?_
  refine jo_call Try.f17 (h2) rfl Try.func17 rfl rfl (ovL_cons rfl (ovL_cons rfl ovL_nil)) (.cons .s (.cons .i .nil)) (hd 26 rfl) ?_ (fun ch hp => by simp at hp)
  rintro y hy; injection hy with hy; subst hy; refine jo_l (ly_mv rfl) (hd 23 rfl) ?_; refine jo_l (ly_ext rfl rfl) (hd 27 rfl) ?_; refine jo_l (ly_ext rfl rfl) (hd 28 rfl) ?_; refine jo_l (ly_as rfl) (hd 9 rfl) ?_; refine jo_l (ly_as rfl) (hd 10 rfl) ?_; refine jo_nil ?_; refine jc_seq ?_; refine jc_region ?_; refine jo_l (ly_mv rfl) (hd 29 rfl) ?_; refine jo_l (ly_mv rfl) (hd 30 rfl) ?_; refine jo_l (ly_mv rfl) (hd 31 rfl) ?_; refine jo_l (ly_mv rfl) (hd 32 rfl) ?_
  refine jo_callL Try.f18 (h3) rfl Try.func18 rfl rfl (ovL_cons rfl (ovL_cons rfl (ovL_cons rfl (ovL_cons rfl ovL_nil)))) (.a1 (.o (l := (lm (hv b (dgs s)))) (l' := (lm (hv b (dgs s)))) rfl (by omega) (by rw [List.drop_zero]; exact List.take_of_length_le (by omega))) (.a1 .i (.a1 .n (.a1 .i .a0)))) (.cons .n (.cons .i (.cons .n (.cons .i .nil)))) hL (fun y hy => by injection hy with hy; subst hy; rfl) (hd 33 rfl) ?_ (fun ch hp => by simp at hp)
  rintro y hy; injection hy with hy; subst hy; refine jo_l (ly_mv rfl) (hd 34 rfl) ?_; refine jo_g 34 rfl rfl (ly_mv rfl) (hd 35 rfl) ?_; refine jo_g 34 rfl rfl (ly_mv rfl) (hd 36 rfl) ?_; refine jo_hg 34 rfl rfl (hy_lit (id := 2) (xs := [.tmp 35, .tmp 36]) el81 rfl (ovL_cons rfl (ovL_cons rfl ovL_nil)) rfl (all2_of rfl) (by decide) rfl) (hd 37 rfl) ?_
  refine jo_callGg Try.f19 34 rfl rfl (sel := [2, 0, 1]) (Own_s 2 (by decide) (rsOf [(lm (hv b (dgs s))), (lm (hv b (dgs s)))]) (fun j _ => rsOf_len (by simp <;> omega) (by decide) j)) rfl Try.func19 rfl rfl (ovL_cons rfl ovL_nil) rfl rfl (.cons rfl rfl (.cons rfl (renL_ints _ _ _) (.cons rfl (renL_ints _ _ _) .nil))) (by decide) ow_ids ow_fresh (fun y G h => by cases h; rfl) (hd 38 rfl) ?_ (fun ch G hp => by cases hp)
  rintro y G hy; injection hy with hy; subst hy; refine jo_l (ly_pick_t rfl rfl) (hd 39 rfl) ?_; refine jo_l (ly_mv rfl) (hd 40 rfl) ?_
  refine jo_callg Try.f15 40 rfl rfl (lives5_s) rfl Try.func15 rfl rfl ovL_nil .nil (hd 41 rfl) ?_ (fun ch hp => by simp at hp)
  rintro y hy; injection hy with hy; subst hy; refine jo_l (ly_pick_t rfl rfl) (hd 42 rfl) ?_; refine jo_l (ly_as rfl) (hd 4 rfl) ?_; refine jo_nil ?_; refine jc_ret ?_
  refine ⟨_, _, (.cons rfl .nil), .b, ?_⟩
  exact rfl

set_option maxHeartbeats 4000000 in
theorem NumeralParses_n (s : ByteArray) (b e : Int) (he : e ≠ 0) (h1 : Spec Try.prog 16 [.s s, .i .i64 b] (fun o => o = .ret (.t [.c (.slice none 0 0), .i .i64 e]))) (h2 : Spec Try.prog 17 [.s s, .i .i64 b] (fun o => o = .ret (.t [.n false .u64 [], .i .i64 e]))) : Spec Try.prog 4 [.s s, .i .i64 b] (fun o => o = .ret (.b true)) := by
  refine spec_of' [(0, .s s), (1, .i .i64 b)] rfl Try.func4 rfl (Nat.le_of_ble_eq_true rfl) fun Γ hN hds hL hR => ?_
  have hd : ∀ d, Nat.blt d 43 = true → d < Γ.N := fun d h => by rw [hN]; exact Nat.le_of_ble_eq_true h
  have h3 := same_err e he
  refine jc_seq ?_; refine jc_region ?_; refine jo_l (ly_as rfl) (hd 4 rfl) ?_; refine jo_nil ?_; refine jc_seq ?_; refine jc_region ?_; refine jo_l (ly_mv rfl) (hd 12 rfl) ?_; refine jo_l (ly_mv rfl) (hd 13 rfl) ?_
  refine jo_call Try.f16 (h1) rfl Try.func16 rfl rfl (ovL_cons rfl (ovL_cons rfl ovL_nil)) (.cons .s (.cons .i .nil)) (hd 14 rfl) ?_ (fun ch hp => by simp at hp)
  rintro y hy; injection hy with hy; subst hy; refine jo_l (ly_mv rfl) (hd 11 rfl) ?_; refine jo_l (ly_ext rfl rfl) (hd 15 rfl) ?_; refine jo_l (ly_ext rfl rfl) (hd 16 rfl) ?_; refine jo_l (ly_as rfl) (hd 5 rfl) ?_; refine jo_l (ly_as rfl) (hd 6 rfl) ?_; refine jo_nil ?_; refine jc_seq ?_; refine jc_region ?_; refine jo_l (ly_mv rfl) (hd 18 rfl) ?_; refine jo_l (ly_mv rfl) (hd 19 rfl) ?_
  refine jo_call Try.f16 (h1) rfl Try.func16 rfl rfl (ovL_cons rfl (ovL_cons rfl ovL_nil)) (.cons .s (.cons .i .nil)) (hd 20 rfl) ?_ (fun ch hp => by simp at hp)
  rintro y hy; injection hy with hy; subst hy; refine jo_l (ly_mv rfl) (hd 17 rfl) ?_; refine jo_l (ly_ext rfl rfl) (hd 21 rfl) ?_; refine jo_l (ly_ext rfl rfl) (hd 22 rfl) ?_; refine jo_l (ly_as rfl) (hd 7 rfl) ?_; refine jo_l (ly_as rfl) (hd 8 rfl) ?_; refine jo_nil ?_; refine jc_seq ?_; refine jc_region ?_; refine jo_l (ly_mv rfl) (hd 24 rfl) ?_; refine jo_l (ly_mv rfl) (hd 25 rfl) ?_
  refine jo_call Try.f17 (h2) rfl Try.func17 rfl rfl (ovL_cons rfl (ovL_cons rfl ovL_nil)) (.cons .s (.cons .i .nil)) (hd 26 rfl) ?_ (fun ch hp => by simp at hp)
  rintro y hy; injection hy with hy; subst hy; refine jo_l (ly_mv rfl) (hd 23 rfl) ?_; refine jo_l (ly_ext rfl rfl) (hd 27 rfl) ?_; refine jo_l (ly_ext rfl rfl) (hd 28 rfl) ?_; refine jo_l (ly_as rfl) (hd 9 rfl) ?_; refine jo_l (ly_as rfl) (hd 10 rfl) ?_; refine jo_nil ?_; refine jc_seq ?_; refine jc_own0 (id := 0) 5 90 1 rfl rfl ?_; refine jc_own0 (id := 1) 7 90 1 rfl rfl ?_; refine jc_H (H' := [⟨90, 1, 0, true, ints .u64 []⟩, ⟨90, 1, 0, true, ints .u64 []⟩]) rfl ?_; refine jc_region ?_; refine jo_l (ly_mv rfl) (hd 29 rfl) ?_; refine jo_l (ly_mv rfl) (hd 30 rfl) ?_; refine jo_l (ly_mv rfl) (hd 31 rfl) ?_; refine jo_l (ly_mv rfl) (hd 32 rfl) ?_
  refine jo_callL Try.f18 (h3) rfl Try.func18 rfl rfl (ovL_cons rfl (ovL_cons rfl (ovL_cons rfl (ovL_cons rfl ovL_nil)))) (.a1 (.o (l := []) (l' := []) rfl (Nat.le_refl _) rfl) (.a1 .i (.a1 .n (.a1 .i .a0)))) (.cons .n (.cons .i (.cons .n (.cons .i .nil)))) hL (fun y hy => by injection hy with hy; subst hy; rfl) (hd 33 rfl) ?_ (fun ch hp => by simp at hp)
  rintro y hy; injection hy with hy; subst hy; refine jo_l (ly_mv rfl) (hd 34 rfl) ?_; refine jo_g 34 rfl rfl (ly_mv rfl) (hd 35 rfl) ?_; refine jo_g 34 rfl rfl (ly_mv rfl) (hd 36 rfl) ?_; refine jo_hg 34 rfl rfl (hy_lit (id := 2) (xs := [.tmp 35, .tmp 36]) el81 rfl (ovL_cons rfl (ovL_cons rfl ovL_nil)) rfl (all2_of rfl) (by decide) rfl) (hd 37 rfl) ?_
  refine jo_callGg Try.f19 34 rfl rfl (sel := [2, 0, 1]) (Own_s 2 (by decide) (rsOf [[], []]) (fun j _ => rsOf_len (by simp <;> omega) (by decide) j)) rfl Try.func19 rfl rfl (ovL_cons rfl ovL_nil) rfl rfl (.cons rfl rfl (.cons rfl (renL_ints _ _ _) (.cons rfl (renL_ints _ _ _) .nil))) (by decide) ow_ids ow_fresh (fun y G h => by cases h; rfl) (hd 38 rfl) ?_ (fun ch G hp => by cases hp)
  rintro y G hy; injection hy with hy; subst hy; refine jo_l (ly_pick_t rfl rfl) (hd 39 rfl) ?_; refine jo_l (ly_mv rfl) (hd 40 rfl) ?_
  refine jo_callg Try.f15 40 rfl rfl (lives5_s) rfl Try.func15 rfl rfl ovL_nil .nil (hd 41 rfl) ?_ (fun ch hp => by simp at hp)
  rintro y hy; injection hy with hy; subst hy; refine jo_l (ly_pick_t rfl rfl) (hd 42 rfl) ?_; refine jo_l (ly_as rfl) (hd 4 rfl) ?_; refine jo_nil ?_; refine jc_ret ?_
  refine ⟨_, _, (.cons rfl .nil), .b, ?_⟩
  exact rfl

theorem NumeralParses_s (s : ByteArray) (v : Int) (hs : s.size ≤ 1048576) : Spec Try.prog 4 [.s s, .i .i64 v] (fun o => o = .ret (.b true)) := by
  by_cases h : 2 ≤ v ∧ v ≤ 36
  · obtain ⟨b, rfl⟩ : ∃ b : Nat, v = (b : Int) := ⟨v.toNat, by omega⟩
    by_cases h0 : s.size = 0
    · have e : s = .empty := by
        obtain ⟨⟨l⟩⟩ := s
        have h1 : l.length = 0 := h0
        have h2 := List.eq_nil_of_length_eq_zero h1
        subst h2
        rfl
      subst e
      exact NumeralParses_n _ b 51 (by decide) (Parse_emptyc b (by omega) (by omega)) (rParse_e _ b (by omega) (by omega) rfl)
    · rcases digits_orb b s with hr | ⟨k, h1, h2, h3⟩
      · refine NumeralParses_y s b hs (by omega) (by omega) h0 (fun i hi => ?_) hr
        have h := dgs_getD hi
        rw [← h]
        exact (rng_getD (by omega) hr i).2
      · refine NumeralParses_n s b 51 (by decide) (Parse_badc s b (by omega) (by omega) k h0 (by omega) h1 h3) (rParse_g s b [] 51 (by omega) (by omega) h0 (by omega) (rBuild_d (dgm b s) b k (by omega) (by omega) (by rw [dgm_len]; exact h1) (by rw [dgm_len]; omega) ?_))
        rw [dgm_getD h1, if_neg h3]
        omega
  · exact NumeralParses_n s v 50 (by decide) (Parse_basec s v h) (rParse_b s v h)
end Go.Proofs.Ytcfdclehmpfkcaa.Vc

/- The law NumeralParses of every input of bulk at most 1048576: it returns true, and the input reads as it did. -/
namespace Go.Proofs.Ytcfdclehmpfkcaa.numeralParses
open Go Go.ChangeShapes Go.WideShapes Go.ChangeAt Go.RowKit
open Go.ChangeMaps (open_string shut_string)

theorem own : ownKnob Try.prog.godebug = none := by kernel_rfl
set_option maxRecDepth 100000 in
theorem lifted (os : Os) (started : os.Started) (H : Type) (enc : TypeId × Value → H) (F : Stop.Interp) :
    ReturnsInHanded {} Try.checked os 4 .any ((Rows.OpenSpec.upto Rows.numeralParsesSpec).pre6 enc Try.prog Try.f4 Rows.numeralParsesUptoRow.domain false) (((Rows.OpenSpec.upto Rows.numeralParsesSpec).at F).post enc Try.prog Try.f4 false true false false) := by
  refine returnsInHanded_of_cond (C := Try.checked) (s := Rows.OpenSpec.upto Rows.numeralParsesSpec) (k := Rows.uptoSmall) rfl own started (by kernel_rfl) Try.func4
    (OpenSpec.witness (enc := enc) (C := Try.checked) (s := Rows.OpenSpec.upto Rows.numeralParsesSpec) (k := Rows.uptoSmall) rfl false ⟨#[], #[.string .empty, .int .i64 0], []⟩ 8 (by kernel_rfl) (by kernel_rfl) (by kernel_rfl)
      (x := ([.lit (.string []), .lit (.int .i64 0)], [], [])) (by kernel_rfl) rfl (by kernel_rfl)) ?_
  intro W base args ds gs before hval0 hW _ hk _
  have hval : ∀ (j : Nat) t v, Try.f4.params[j]? = some t → args[j]? = some v → Value.okWide Try.prog W .any base t v := hval0
  have hW' := hW
  obtain ⟨p, q, hA0, hV, rfl, hfz, hnd⟩ := hW
  have hA : DataW.TrodAll enc Try.prog W 0 (fun _ => true) true Try.f4.params.toList args.toList ds p := hA0
  rw [Try.params4] at hA hval
  obtain ⟨v0, vs0, d0, ds0, p0, q0, hargs, rfl, rfl, h0, r0⟩ := trodAll_cons hA
  obtain ⟨v1, vs1, d1, ds1, p1, q1, rfl, rfl, rfl, h1, r1⟩ := trodAll_cons r0
  obtain ⟨rfl, rfl, rfl⟩ := trodAll_nil r1
  obtain rfl : args = #[v0, v1] := by cases args; simp_all
  obtain ⟨rfl, rfl⟩ := trodVars_none hV
  obtain ⟨a0, rfl, rfl, rfl, m0⟩ := open_string Try.underlying9 (hval 0 9 v0 rfl rfl) h0
  obtain ⟨a1, rfl, rfl, rfl, w1⟩ := open_int Try.underlying3 (hval 1 3 v1 rfl rfl) h1
  clear hA0 hval0
  simp only [List.append_nil] at hW' hk
  refine (Vc.spec_calls (vals := [.string a0, .int .i64 a1]) (Vc.NumeralParses_s a0 a1 (Vc.short1 hk)) W (⟨_, _, rfl, rfl, ⟨_, _, rfl, rfl, rfl⟩⟩)).mono fun e W' ⟨he, hb⟩ => ?_; subst he
  exact ⟨_, rfl, Vc.post_of_below (pa := []) (pv := []) hW' (fun _ _ _ => (trodAll_cons_mk (shut_bool Try.underlying4 _) trodAll_mk0)) (fun sp _ => (trodAll_cons_mk (shut_string Try.underlying9 m0) (trodAll_cons_mk (shut_int Try.underlying3 w1) trodAll_mk0))) (fun _ _ => rfl) rfl hb⟩

theorem proved : Rows.NumeralParsesUptoSaid :=
  OpenClaim.holds_of_cond 4 Try.f4 rfl rfl rfl rfl rfl rfl rfl ⟨rfl, rfl, rfl, rfl, rfl⟩ rfl rfl rfl rfl rfl (by kernel_rfl) Try.func4 (by kernel_rfl)
    (of_decide_eq_true (by kernel_rfl)) (by unfold Func.isWrapper; first | (rw [if_pos (by decide +kernel)]; kernel_rfl) | (rw [if_neg (by decide +kernel)]; exact ⟨rfl, rfl⟩))
    (fun os started H enc _ F => lifted os started H enc F)
end Go.Proofs.Ytcfdclehmpfkcaa.numeralParses
