/- A number built from digits answers as the reference does, for every base and every digits; what is handed out is the caller's own. Texts joined: Qw, Qx, Sa, Sb, RNBuilds. -/
import Derived.Test.YtcfdclehmpfkcaaK7
import Derived.Test.YtcfdclehmpfkcaaRows
import Derived.WalkKit
import Derived.ProofKit
import Derived.OpenShut
import Derived.Carry
import Derived.JoinedCond
set_option linter.unusedVariables false
set_option linter.unusedSimpArgs false
/- nat.Add with an own row. -/
namespace Go.Proofs.Ytcfdclehmpfkcaa.Vc
open Go Go.RowKit
theorem trm_k {l : List Int} {k : Nat} (h2 : tN l k = tN l l.length) (h3 : tN l k = k) : (trm l).length = k := by rw [trm_length]; omega
theorem ints_take {k : IntKind} {l : List Int} {n : Nat} : (ints k l).take n = ints k (l.take n) := by simp [ints]

set_option maxHeartbeats 4000000 in
theorem trim_m (L : List Int) (n : Nat) (hn : n ≤ L.length) (hL9 : L.length < 1099511627776) : SpecM Try.prog 71 [.o 0 0 0 n] ([⟨90, 1, 0, true, ints .u64 L⟩]) (fun o G => o = .ret (.o 0 0 0 (trm (L.take n)).length) ∧ G = [⟨90, 1, 0, true, ints .u64 L⟩]) := by
  refine specM_of [(0, .o 0 0 0 n)] rfl (1) rfl Try.func71 rfl (Nat.le_of_ble_eq_true rfl) fun Γ hN hds => ?_
  have hd : ∀ d, Nat.blt d 21 = true → d < Γ.N := fun d h => by rw [hN]; exact Nat.le_of_ble_eq_true h
  have hln : (L.take n).length = n := by rw [List.length_take]; omega
  refine jc_seq ?_; refine jc_region ?_; refine jo_l (ly_as rfl) (hd 2 rfl) ?_; refine jo_nil ?_; refine jc_seq ?_; refine jc_block ?_
  refine jc_loopF (G := Nat) (fun k => k ≤ n ∧ tN (L.take n) k = tN (L.take n) (L.take n).length) (fun k => [(0, .o 0 0 0 k), (3, .u), (4, .u), (5, .u), (6, .u), (7, .u), (8, .u), (9, .u), (10, .u), (11, .u), (12, .u), (13, .u), (14, .u), (15, .u), (16, .u), (17, .u), (18, .u), (19, .u)]) (fun k => [⟨90, 1, 0, true, ints .u64 L⟩]) (fun k => k) n ?_ ?_ rfl ?_
  · exact ⟨Nat.le_refl _, by rw [hln]⟩
  · exact (.cons rfl (.u (.u (.u (.u (.u (.u (.u (.u (.u (.u (.u (.u (.u (.u (.u (.u (.u .nil))))))))))))))))))
  · rintro k ⟨hc1, hc2⟩; refine jc_seq ?_; refine jc_seq ?_; refine jc_region ?_; refine jo_l (ly_mv rfl) (hd 3 rfl) ?_; refine jo_l (ly_leno sl28 rfl rfl) (hd 4 rfl) ?_; refine jo_l (ly_gt rfl rfl) (hd 5 rfl) ?_; refine jo_l (ly_mv rfl) (hd 6 rfl) ?_
    refine jo_ifp 6 rfl (fun h1 => ?_) (fun h1 => ?_)
    · refine jo_g 6 rfl rfl (ly_mv rfl) (hd 7 rfl) ?_; refine jo_g 6 rfl rfl (ly_mv rfl) (hd 8 rfl) ?_; refine jo_g 6 rfl rfl (ly_leno sl28 rfl rfl) (hd 9 rfl) ?_; refine jo_g 6 rfl rfl (ly_sub rfl rfl (wrap_i64 (by omega) (by omega))) (hd 10 rfl) ?_; refine jo_g 6 rfl rfl (ly_ia (i := k - 1) sl28 rfl rfl rfl (by omega) (by omega) rfl) (hd 11 rfl) ?_; refine jo_g 6 rfl rfl (ly_is (ly_ldi one82 rfl rfl (by omega)) (show V.i .u64 _ = V.i .u64 (L.getD (k - 1) 0) by rw [Nat.zero_add, Nat.mul_one])) (hd 12 rfl) ?_; refine jo_g 6 rfl rfl (ly_eq rfl rfl) (hd 13 rfl) ?_; refine jo_l (ly_pick_t rfl rfl) (hd 14 rfl) ?_; refine jo_nil ?_
      refine jc_if rfl (fun h2 => ?_) (fun h2 => ?_)
      · refine jc_skip ?_; refine jc_block ?_; refine jc_region ?_; refine jo_l (ly_mv rfl) (hd 15 rfl) ?_; refine jo_l (ly_mv rfl) (hd 16 rfl) ?_; refine jo_l (ly_leno sl28 rfl rfl) (hd 17 rfl) ?_; refine jo_l (ly_sub rfl rfl (wrap_i64 (by omega) (by omega))) (hd 18 rfl) ?_; refine jo_l (ly_slo (l := 0) (h := k - 1) (r := 0) (n := k - 1) sl28 rfl rfl bnd_none (bnd_some' rfl (by omega)) (by omega) (by omega) rfl (by omega)) (hd 19 rfl) ?_; refine jo_l (ly_as rfl) (hd 0 rfl) ?_; refine jo_nil ?_
        refine ⟨k - 1, ?_, ?_, rfl, cov_n 37 rfl rfl ?_⟩
        · exact ⟨by omega, by rw [← hc2, tN_down (by omega) (by rw [getD_take (show k - 1 < n by omega)]; assumption)]⟩
        · omega
        · exact (.cons rfl (.u (.u (.u (.u (.u (.u (.u (.u (.u (.u (.u (.u (.u (.u (.u (.u (.u .nil))))))))))))))))))
      · refine jc_exit ?_; refine jc_seq ?_; refine jc_region ?_; refine jo_l (ly_mv rfl) (hd 20 rfl) ?_; refine jo_l (ly_as rfl) (hd 2 rfl) ?_; refine jo_nil ?_; refine jc_ret ?_
        refine ⟨_, (.cons rfl .nil), rfl, (.cons ints_id .nil), ?_⟩
        exact ⟨by rw [trm_k hc2 (tN_stop (by omega) (by rw [getD_take (show k - 1 < n by omega)]; assumption))]; rfl, rfl⟩
    · refine jo_s 6 rfl rfl rfl (hd 7 rfl) ?_; refine jo_s 6 rfl rfl rfl (hd 8 rfl) ?_; refine jo_s 6 rfl rfl rfl (hd 9 rfl) ?_; refine jo_s 6 rfl rfl rfl (hd 10 rfl) ?_; refine jo_s 6 rfl rfl rfl (hd 11 rfl) ?_; refine jo_s 6 rfl rfl rfl (hd 12 rfl) ?_; refine jo_s 6 rfl rfl rfl (hd 13 rfl) ?_; refine jo_l (ly_pick_f rfl rfl) (hd 14 rfl) ?_; refine jo_nil ?_; refine jc_litf rfl ?_; refine jc_exit ?_; refine jc_seq ?_; refine jc_region ?_; refine jo_l (ly_mv rfl) (hd 20 rfl) ?_; refine jo_l (ly_as rfl) (hd 2 rfl) ?_; refine jo_nil ?_; refine jc_ret ?_
      refine ⟨_, (.cons rfl .nil), rfl, (.cons ints_id .nil), ?_⟩
      exact ⟨by rw [trm_k hc2 (tN_0 (by omega))]; rfl, rfl⟩

theorem trm_at {L : List Int} {n i : Nat} (hi : i < (trm (L.take n)).length) : (trm (L.take n)).getD i 0 = L.getD i 0 := by
  have h1 := trm_length (L.take n)
  have h2 := tN_le (L.take n) (L.take n).length
  have h3 : (L.take n).length ≤ n := by rw [List.length_take]; omega
  have e : trm (L.take n) = (L.take n).take (tN (L.take n) (L.take n).length) := rfl
  rw [e, getD_take (by omega), getD_take (by omega)]

set_option maxHeartbeats 4000000 in
theorem Length_m (L : List Int) (n : Nat) (hn : n ≤ L.length) (hL9 : L.length < 1099511627776) (hu : u64s L) : SpecM Try.prog 33 [.o 0 0 0 n] ([⟨90, 1, 0, true, ints .u64 L⟩]) (fun o G => o = .ret (.i .i64 (lenN (L.take n) : Int)) ∧ G = [⟨90, 1, 0, true, ints .u64 L⟩]) := by
  refine specM_of [(0, .o 0 0 0 n)] rfl (1) rfl Try.func33 rfl (Nat.le_of_ble_eq_true rfl) fun Γ hN hds => ?_
  have hd : ∀ d, Nat.blt d 20 = true → d < Γ.N := fun d h => by rw [hN]; exact Nat.le_of_ble_eq_true h
  have hln : (L.take n).length = n := by rw [List.length_take]; omega
  have hm := trm_len (L.take n)
  have huT : u64s (L.take n) := fun x hx => hu x (List.mem_of_mem_take hx)
  refine jc_seq ?_; refine jc_region ?_; refine jo_l (ly_as rfl) (hd 2 rfl) ?_; refine jo_nil ?_; refine jc_seq ?_; refine jc_region ?_; refine jo_l (ly_mv rfl) (hd 3 rfl) ?_
  refine jo_callM Try.f71 (trim_m L n hn hL9) rfl Try.func71 rfl rfl (ovL_cons rfl ovL_nil) (.cons (.same rfl) .nil) (freshless_cons ints_noFr freshless_nil) (hd 4 rfl) ?_ (fun ch H2 hp => by simp at hp)
  rintro y H2 ⟨hy, rfl⟩; injection hy with hy; subst hy; refine jo_l (ly_as rfl) (hd 0 rfl) ?_; refine jo_nil ?_; refine jc_seq ?_; refine jc_seq ?_; refine jc_region ?_; refine jo_l (ly_mv rfl) (hd 5 rfl) ?_; refine jo_l (ly_leno sl28 rfl rfl) (hd 6 rfl) ?_; refine jo_l (ly_eq rfl rfl) (hd 7 rfl) ?_; refine jo_nil ?_
  refine jc_if rfl (fun h1 => ?_) (fun h1 => ?_)
  · refine jc_seq ?_; refine jc_region ?_; refine jo_l (ly_as rfl) (hd 2 rfl) ?_; refine jo_nil ?_; refine jc_ret ?_
    refine ⟨_, (.cons rfl .nil), rfl, (.cons ints_id .nil), ?_⟩
    refine ⟨?_, rfl⟩
    unfold lenN
    rw [if_pos (by omega)]
    rfl
  · have htop := u64s_at (u64s_trm huT) (i := (trm (L.take n)).length - 1) (by omega)
    have hbl := bl_le 64 ((trm (L.take n)).getD ((trm (L.take n)).length - 1) 0).toNat
    refine jc_skip ?_; refine jc_seq ?_; refine jc_region ?_; refine jo_l (ly_mv rfl) (hd 8 rfl) ?_; refine jo_l (ly_leno sl28 rfl rfl) (hd 9 rfl) ?_; refine jo_l (ly_sub rfl rfl (wrap_i64 (by omega) (by omega))) (hd 10 rfl) ?_; refine jo_l (ly_mul rfl rfl (wrap_i64 (by omega) (by omega))) (hd 11 rfl) ?_; refine jo_l (ly_mv rfl) (hd 12 rfl) ?_; refine jo_l (ly_mv rfl) (hd 13 rfl) ?_; refine jo_l (ly_leno sl28 rfl rfl) (hd 14 rfl) ?_; refine jo_l (ly_sub rfl rfl (wrap_i64 (by omega) (by omega))) (hd 15 rfl) ?_; refine jo_l (ly_ia (i := (trm (L.take n)).length - 1) sl28 rfl rfl rfl (by omega) (by omega) rfl) (hd 16 rfl) ?_; refine jo_l (ly_is (ly_ldi one82 rfl rfl (by omega)) (show V.i .u64 _ = V.i .u64 (((trm (L.take n)).getD ((trm (L.take n)).length - 1) 0).toNat : Int) by rw [Int.toNat_of_nonneg htop.1, Nat.zero_add, Nat.mul_one]; exact congrArg (V.i .u64) (trm_at (by omega)).symm)) (hd 17 rfl) ?_
    refine jo_call Try.f78 (Len64_s ((trm (L.take n)).getD ((trm (L.take n)).length - 1) 0).toNat (by omega)) rfl Try.func78 rfl rfl (ovL_cons rfl ovL_nil) (.cons .i .nil) (hd 18 rfl) ?_ (fun ch hp => by simp at hp)
    rintro y hy; injection hy with hy; subst hy; refine jo_l (ly_add rfl rfl (wrap_i64 (by omega) (by omega))) (hd 19 rfl) ?_; refine jo_l (ly_as rfl) (hd 2 rfl) ?_; refine jo_nil ?_; refine jc_ret ?_
    refine ⟨_, (.cons rfl .nil), rfl, (.cons ints_id .nil), ?_⟩
    refine ⟨?_, rfl⟩
    unfold lenN
    rw [if_neg (by omega)]
    show Out.ret (V.i .i64 _) = Out.ret (V.i .i64 _)
    congr 2
    omega

theorem trm_pre {L : List Int} {n : Nat} (hn : n ≤ L.length) : trm (L.take n) = L.take (trm (L.take n)).length := by
  have h1 := trm_length (L.take n)
  have h2 := tN_le (L.take n) (L.take n).length
  have h3 : (L.take n).length = n := by rw [List.length_take]; omega
  have e : trm (L.take n) = (L.take n).take (tN (L.take n) (L.take n).length) := rfl
  conv => lhs; rw [e, List.take_take, Nat.min_eq_left (by omega)]
  rw [h1]

set_option maxHeartbeats 4000000 in
theorem told_m (L : List Int) (n : Nat) (hn : n ≤ L.length) (hL9 : L.length < 1099511627776) (hu : u64s L) (h : lenN (trm (L.take n)) ≤ 67108864) : SpecM Try.prog 127 [.o 0 0 0 n] ([⟨90, 1, 0, true, ints .u64 L⟩]) (fun o G => o = .ret (.t [.o 0 0 0 (trm (L.take n)).length, .i .i64 0]) ∧ G = [⟨90, 1, 0, true, ints .u64 L⟩]) := by
  refine specM_of [(0, .o 0 0 0 n)] rfl (1) rfl Try.func127 rfl (Nat.le_of_ble_eq_true rfl) fun Γ hN hds => ?_
  have hd : ∀ d, Nat.blt d 10 = true → d < Γ.N := fun d h => by rw [hN]; exact Nat.le_of_ble_eq_true h
  have hln : (L.take n).length = n := by rw [List.length_take]; omega
  have hm := trm_len (L.take n)
  have hk9 : (trm (L.take n)).length ≤ L.length := by omega
  have hLen : SpecM Try.prog 33 [.o 0 0 0 (trm (L.take n)).length] [⟨90, 1, 0, true, ints .u64 L⟩] (fun o G => o = .ret (.i .i64 (lenN (trm (L.take n)) : Int)) ∧ G = [⟨90, 1, 0, true, ints .u64 L⟩]) := by have h := Length_m L (trm (L.take n)).length hk9 hL9 hu; rwa [show L.take (trm (L.take n)).length = (trm (L.take n)) from (trm_pre hn).symm] at h
  refine jc_seq ?_; refine jc_region ?_; refine jo_l (ly_as rfl) (hd 2 rfl) ?_; refine jo_l (ly_as rfl) (hd 3 rfl) ?_; refine jo_nil ?_; refine jc_seq ?_; refine jc_region ?_; refine jo_l (ly_mv rfl) (hd 4 rfl) ?_
  refine jo_callM Try.f71 (trim_m L n hn hL9) rfl Try.func71 rfl rfl (ovL_cons rfl ovL_nil) (.cons (.same rfl) .nil) (freshless_cons ints_noFr freshless_nil) (hd 5 rfl) ?_ (fun ch H2 hp => by simp at hp)
  rintro y H2 ⟨hy, rfl⟩; injection hy with hy; subst hy; refine jo_l (ly_as rfl) (hd 0 rfl) ?_; refine jo_nil ?_; refine jc_seq ?_; refine jc_seq ?_; refine jc_region ?_; refine jo_l (ly_mv rfl) (hd 6 rfl) ?_
  refine jo_callM Try.f33 (hLen) rfl Try.func33 rfl rfl (ovL_cons rfl ovL_nil) (.cons (.same rfl) .nil) (freshless_cons ints_noFr freshless_nil) (hd 7 rfl) ?_ (fun ch H2 hp => by simp at hp)
  rintro y H2 ⟨hy, rfl⟩; injection hy with hy; subst hy; refine jo_l (ly_ff (ly_gt rfl rfl) (by omega)) (hd 8 rfl) ?_; refine jo_nil ?_; refine jc_litf rfl ?_; refine jc_skip ?_; refine jc_seq ?_; refine jc_region ?_; refine jo_l (ly_mv rfl) (hd 9 rfl) ?_; refine jo_l (ly_as rfl) (hd 2 rfl) ?_; refine jo_l (ly_as rfl) (hd 3 rfl) ?_; refine jo_nil ?_; refine jc_ret ?_
  refine ⟨_, (.cons rfl (.cons rfl .nil)), rfl, (.cons ints_id .nil), ?_⟩
  exact ⟨rfl, rfl⟩

set_option maxHeartbeats 4000000 in
theorem Add_n (a b : List Int) (ha : a.length < 4294967296) (hb : b.length < 4294967296) (ua : u64s a) (ub : u64s b) (h : lenN (trm (sumL a b)) ≤ 67108864) : SpecM Try.prog 97 [.n false .u64 a, .n false .u64 b] [] (fun o G => o = .ret (.t [.o 0 0 0 (trm (sumL a b)).length, .i .i64 0]) ∧ G = [⟨90, 1, 0, true, ints .u64 (sumL a b)⟩]) := by
  refine specS_of [(0, .n false .u64 a), (1, .n false .u64 b)] rfl Try.func97 rfl (Nat.le_of_ble_eq_true rfl) fun Γ hN hds hL hR => ?_
  have hd : ∀ d, Nat.blt d 61 = true → d < Γ.N := fun d h => by rw [hN]; exact Nat.le_of_ble_eq_true h
  have hma := trm_len a
  have hmb := trm_len b
  refine jc_seq ?_; refine jc_region ?_; refine jo_l (ly_as rfl) (hd 4 rfl) ?_; refine jo_l (ly_as rfl) (hd 5 rfl) ?_; refine jo_nil ?_; refine jc_seq ?_; refine jc_region ?_; refine jo_l (ly_mv rfl) (hd 10 rfl) ?_
  refine jo_call Try.f71 (trim_s a (by omega)) rfl Try.func71 rfl rfl (ovL_cons rfl ovL_nil) (.cons .n .nil) (hd 11 rfl) ?_ (fun ch hp => by simp at hp)
  rintro y hy; injection hy with hy; subst hy; refine jo_l (ly_mv rfl) (hd 12 rfl) ?_
  refine jo_call Try.f71 (trim_s b (by omega)) rfl Try.func71 rfl rfl (ovL_cons rfl ovL_nil) (.cons .n .nil) (hd 13 rfl) ?_ (fun ch hp => by simp at hp)
  rintro y hy; injection hy with hy; subst hy; refine jo_l (ly_as rfl) (hd 0 rfl) ?_; refine jo_l (ly_as rfl) (hd 1 rfl) ?_; refine jo_nil ?_
  refine jc_meetH (G := List Int × List Int) (fun g => swL (trm a) (trm b) = g ∧ g.1.length < 4294967296 ∧ u64s g.1 ∧ u64s g.2) (fun g => [(0, .n false .u64 g.1), (1, .n false .u64 g.2), (14, .u), (15, .u), (16, .u), (17, .u), (18, .u), (19, .u), (20, .u)]) ?_ ?_
  · refine jc_seq ?_; refine jc_region ?_; refine jo_l (ly_mv rfl) (hd 14 rfl) ?_; refine jo_l (ly_lenn sl28 rfl) (hd 15 rfl) ?_; refine jo_l (ly_mv rfl) (hd 16 rfl) ?_; refine jo_l (ly_lenn sl28 rfl) (hd 17 rfl) ?_; refine jo_l (ly_lt rfl rfl) (hd 18 rfl) ?_; refine jo_nil ?_
    refine jc_if rfl (fun h1 => ?_) (fun h1 => ?_)
    · refine jc_region ?_; refine jo_l (ly_mv rfl) (hd 19 rfl) ?_; refine jo_l (ly_mv rfl) (hd 20 rfl) ?_; refine jo_l (ly_as rfl) (hd 0 rfl) ?_; refine jo_l (ly_as rfl) (hd 1 rfl) ?_; refine jo_nil ?_
      refine ⟨(trm b, trm a), ?_, rfl, cov_n 9 rfl rfl ?_⟩
      · exact ⟨by unfold swL; rw [if_pos (by omega)], by show (trm b).length < _; omega, u64s_trm ub, u64s_trm ua⟩
      · exact (.cons rfl (.cons rfl (.u (.u (.u (.u (.u (.u (.u .nil)))))))))
    · refine jc_skip ?_
      refine ⟨(trm a, trm b), ?_, rfl, cov_n 5 rfl rfl ?_⟩
      · exact ⟨by unfold swL; rw [if_neg (by omega)], by show (trm a).length < _; omega, u64s_trm ua, u64s_trm ub⟩
      · exact (.cons rfl (.cons rfl (.u (.u (.u (.u (.u (.u (.u .nil)))))))))
  · rintro ⟨X, Y⟩ ⟨hg, hX, uX, uY⟩
    dsimp only at hg hX uX uY ⊢
    have hS : sumL a b = (adN X Y X.length).1 ++ [(adN X Y X.length).2] := by unfold sumL; rw [hg]
    refine jc_seq ?_; refine jc_region ?_; refine jo_l (ly_mv rfl) (hd 21 rfl) ?_; refine jo_l (ly_lenn sl28 rfl) (hd 22 rfl) ?_; refine jo_l (ly_add rfl rfl (r := ((X.length + 1 : Nat) : Int)) (by rw [wrap_i64 (by omega) (by omega)]; omega)) (hd 23 rfl) ?_; refine jo_h (hy_mk (m := X.length + 1) el28 rfl rfl rfl (by show 8 * (X.length + 1) ≤ _; omega) (by unfold maxLen; omega) rfl) (hd 24 rfl) ?_; refine jo_l (ly_as rfl) (hd 6 rfl) ?_; refine jo_nil ?_; refine jc_seq ?_; refine jc_region ?_; refine jo_l (ly_as rfl) (hd 7 rfl) ?_; refine jo_nil ?_; refine jc_seq ?_; refine jc_seq ?_; refine jc_region ?_; refine jo_l (ly_mv rfl) (hd 25 rfl) ?_; refine jo_l (ly_lenn sl28 rfl) (hd 26 rfl) ?_; refine jo_l (ly_mv rfl) (hd 27 rfl) ?_; refine jo_nil ?_; refine jc_block ?_
    refine jc_loopF (G := Nat) (fun i => i ≤ X.length) (fun i => [(7, .i .u64 (adN X Y i).2), (27, .i .i64 (i : Int)), (8, .u), (9, .u), (28, .u), (29, .u), (30, .u), (31, .u), (32, .u), (33, .u), (34, .u), (35, .u), (36, .u), (37, .u), (38, .u), (39, .u), (40, .u), (41, .u), (42, .u), (43, .u), (44, .u), (45, .u), (46, .u), (47, .u), (48, .u), (49, .u), (50, .u), (51, .u)]) (fun i => [⟨90, 1, 0, true, ints .u64 (fillI (adN X Y i).1 (X.length + 1))⟩]) (fun i => X.length - i) 0 ?_ ?_ rfl ?_
    · exact Nat.zero_le _
    · exact (.cons rfl (.cons rfl (.u (.u (.u (.u (.u (.u (.u (.u (.u (.u (.u (.u (.u (.u (.u (.u (.u (.u (.u (.u (.u (.u (.u (.u (.u (.u .nil))))))))))))))))))))))))))))
    · rintro i hc1
      have hf := fillI_len (l := (adN X Y i).1) (n := X.length + 1) (by rw [adN_len]; omega)
      have hc := adN_c uX uY i
      have hx := u64s_getD uX i
      have hy := u64s_getD uY i
      refine jc_seq ?_; refine jc_region ?_; refine jo_l (ly_lt rfl rfl) (hd 28 rfl) ?_; refine jo_nil ?_; refine jc_seq ?_
      refine jc_if rfl (fun h2 => ?_) (fun h2 => ?_)
      · refine jc_skip ?_; refine jc_seq ?_; refine jc_block ?_; refine jc_seq ?_; refine jc_region ?_; refine jo_l (ly_mv rfl) (hd 29 rfl) ?_; refine jo_l (ly_as rfl) (hd 8 rfl) ?_; refine jo_nil ?_; refine jc_seq ?_; refine jc_region ?_; refine jo_l (ly_as rfl) (hd 9 rfl) ?_; refine jo_nil ?_
        refine jc_meetH (G := Unit) (fun _ => True) (fun _ => [(9, .i .u64 (Y.getD i 0)), (30, .u), (31, .u), (32, .u), (33, .u), (34, .u), (35, .u), (36, .u), (37, .u)]) ?_ ?_
        · refine jc_seq ?_; refine jc_region ?_; refine jo_l (ly_mv rfl) (hd 30 rfl) ?_; refine jo_l (ly_mv rfl) (hd 31 rfl) ?_; refine jo_l (ly_lenn sl28 rfl) (hd 32 rfl) ?_; refine jo_l (ly_lt rfl rfl) (hd 33 rfl) ?_; refine jo_nil ?_
          refine jc_if rfl (fun h3 => ?_) (fun h3 => ?_)
          · refine jc_region ?_; refine jo_l (ly_mv rfl) (hd 34 rfl) ?_; refine jo_l (ly_mv rfl) (hd 35 rfl) ?_; refine jo_l (ly_ian (i := i) sl28 rfl rfl (by first | rfl | omega) (by omega)) (hd 36 rfl) ?_; refine jo_l (ly_ldq one82 rfl rfl) (hd 37 rfl) ?_; refine jo_l (ly_as rfl) (hd 9 rfl) ?_; refine jo_nil ?_
            refine ⟨(), ?_, rfl, cov_n 9 rfl rfl ?_⟩
            · trivial
            · exact (.cons (by first | rfl | (show some (V.i .u64 _) = some (V.i .u64 _); rw [getD_ge (by omega)])) (.u (.u (.u (.u (.u (.u (.u (.u .nil)))))))))
          · refine jc_skip ?_
            refine ⟨(), ?_, rfl, cov_n 4 rfl rfl ?_⟩
            · trivial
            · exact (.cons (by first | rfl | (show some (V.i .u64 _) = some (V.i .u64 _); rw [getD_ge (by omega)])) (.u (.u (.u (.u (.u (.u (.u (.u .nil)))))))))
        · rintro _ _; refine jc_region ?_; refine jo_l (ly_mv rfl) (hd 39 rfl) ?_; refine jo_l (ly_mv rfl) (hd 40 rfl) ?_; refine jo_l (ly_mv rfl) (hd 41 rfl) ?_; refine jo_l (ly_mv rfl) (hd 42 rfl) ?_; refine jo_l (ly_ian (i := i) sl28 rfl rfl (by first | rfl | omega) (by omega)) (hd 43 rfl) ?_; refine jo_l (ly_ldq one82 rfl rfl) (hd 44 rfl) ?_; refine jo_l (ly_mv rfl) (hd 45 rfl) ?_; refine jo_l (ly_mv rfl) (hd 46 rfl) ?_; refine jo_h (hy_ext3 (e := add64Entry) Try.func126 rfl rfl (by kernel_rfl) (by kernel_rfl) rfl rfl rfl (fun w => run_add64 _ _ _ hx.1 hy.1 hc.1 hc.2 w) rel_pair) (hd 47 rfl) ?_; refine jo_l (ly_mv rfl) (hd 38 rfl) ?_; refine jo_l (ly_ext rfl rfl) (hd 48 rfl) ?_; refine jo_l (ly_ext rfl rfl) (hd 49 rfl) ?_; refine jo_l (ly_ia (i := i) sl28 rfl rfl rfl (by first | rfl | omega) (by omega) rfl) (hd 50 rfl) ?_; refine jo_st (sy_storei rfl rfl rfl one82 (by omega)) ?_; refine jo_l (ly_as rfl) (hd 7 rfl) ?_; refine jo_nil ?_; refine jc_region ?_; refine jo_l (ly_add rfl rfl (wrap_i64 (by omega) (by omega))) (hd 51 rfl) ?_; refine jo_l (ly_mv rfl) (hd 27 rfl) ?_; refine jo_nil ?_
          refine ⟨i + 1, ?_, ?_, (by show [(⟨90, 1, 0, true, ints .u64 _⟩ : Ob)] = [⟨90, 1, 0, true, ints .u64 _⟩]; rw [fill_ad (by omega)]), cov_n 57 rfl rfl ?_⟩
          · omega
          · omega
          · exact (.cons rfl (.cons rfl (.u (.u (.u (.u (.u (.u (.u (.u (.u (.u (.u (.u (.u (.u (.u (.u (.u (.u (.u (.u (.u (.u (.u (.u (.u (.u .nil))))))))))))))))))))))))))))
      · refine jc_exit ?_; refine jc_seq ?_
        obtain rfl : i = X.length := by omega
        refine jc_region ?_; refine jo_l (ly_mv rfl) (hd 52 rfl) ?_; refine jo_l (ly_mv rfl) (hd 53 rfl) ?_; refine jo_l (ly_lenn sl28 rfl) (hd 54 rfl) ?_; refine jo_l (ly_mv rfl) (hd 55 rfl) ?_; refine jo_l (ly_ia (i := X.length) sl28 rfl rfl rfl (by first | rfl | omega) (by omega) rfl) (hd 56 rfl) ?_; refine jo_st (sy_storei rfl rfl rfl one82 (by omega)) ?_; refine jo_nil ?_; refine jc_seq ?_; refine jc_H (H' := [⟨90, 1, 0, true, ints .u64 (sumL a b)⟩]) (by show [(⟨90, 1, 0, true, ints .u64 _⟩ : Ob)] = [⟨90, 1, 0, true, ints .u64 (sumL a b)⟩]; rw [fill_last (adN_len _ _ _), hS]) ?_
        have hSl : (sumL a b).length = X.length + 1 := by rw [hS]; simp [adN_len]
        have hSu : u64s (sumL a b) := by rw [hS]; exact u64s_app1 (adN_u _) hc.1 (by omega)
        have hTold : SpecM Try.prog 127 [.o 0 0 0 (X.length + 1)] [⟨90, 1, 0, true, ints .u64 (sumL a b)⟩] (fun o G => o = .ret (.t [.o 0 0 0 (trm (sumL a b)).length, .i .i64 0]) ∧ G = [⟨90, 1, 0, true, ints .u64 (sumL a b)⟩]) := by have h9 := told_m (sumL a b) (X.length + 1) (by omega) (by omega) hSu (by rw [List.take_of_length_le (by omega)]; exact h); rwa [List.take_of_length_le (by omega)] at h9
        refine jc_region ?_; refine jo_l (ly_mv rfl) (hd 57 rfl) ?_
        refine jo_callM Try.f127 (hTold) rfl Try.func127 rfl rfl (ovL_cons rfl ovL_nil) (.cons (.same rfl) .nil) (freshless_cons ints_noFr freshless_nil) (hd 58 rfl) ?_ (fun ch H2 hp => by simp at hp)
        rintro y H2 ⟨hy, rfl⟩; injection hy with hy; subst hy; refine jo_l (ly_ext rfl rfl) (hd 59 rfl) ?_; refine jo_l (ly_ext rfl rfl) (hd 60 rfl) ?_; refine jo_l (ly_as rfl) (hd 4 rfl) ?_; refine jo_l (ly_as rfl) (hd 5 rfl) ?_; refine jo_nil ?_; refine jc_ret ?_
        refine ⟨[0], _, (.t [.o 0 0 0 (trm (sumL a b)).length, .i .i64 0]), (.cons rfl (.cons rfl .nil)), rfl, rfl, (by decide), (by first | exact idless_cons ints_id idless_nil | exact idless_cons rfl idless_nil), ?_⟩
        exact ⟨rfl, rfl⟩

theorem Addf_n (x y : Int) (hx : 0 ≤ x) (hy : 0 ≤ y) (fx : lenV x ≤ 67108864) (fy : lenV y ≤ 67108864) (f : lenV (x + y) ≤ 67108864) : SpecM Try.prog 97 [.n false .u64 (lm x), .n false .u64 (lm y)] [] (fun o G => o = .ret (.t [.o 0 0 0 (lm (x + y)).length, .i .i64 0]) ∧ G = [⟨90, 1, 0, true, ints .u64 (lm (x + y))⟩]) := by
  have h1 := lenV_lm fx
  have h2 := lenV_lm fy
  have ev : vl (sumL (lm x) (lm y)) = x + y := by rw [vl_sumL, vl_lm hx, vl_lm hy]
  have hc := adN_c (a := (swL (trm (lm x)) (trm (lm y))).1) (b := (swL (trm (lm x)) (trm (lm y))).2) (by unfold swL; split; exact u64s_trm (lm_u y); exact u64s_trm (lm_u x)) (by unfold swL; split; exact u64s_trm (lm_u x); exact u64s_trm (lm_u y)) (swL (trm (lm x)) (trm (lm y))).1.length
  have hu : u64s (sumL (lm x) (lm y)) := u64s_app1 (adN_u _) hc.1 (by omega)
  have e := trm_lm hu ev
  have h := (Add_n (lm x) (lm y) (by omega) (by omega) (lm_u x) (lm_u y) (by rw [e, lenN_lm]; exact f)).shrink (trm (sumL (lm x) (lm y))).length
  rw [ints_take, show (sumL (lm x) (lm y)).take (trm (sumL (lm x) (lm y))).length = trm (sumL (lm x) (lm y)) by rw [trm_length]; rfl, e] at h
  exact h
end Go.Proofs.Ytcfdclehmpfkcaa.Vc

/- numeral.build with an own row. -/
namespace Go.Proofs.Ytcfdclehmpfkcaa.Vc
open Go Go.RowKit
set_option maxHeartbeats 4000000 in
theorem part_12n (l : List Int) (b : Nat) (ys zs : List V) (hlb : 2 ≤ b) (hb2 : b ≤ 36) (hr : rng b l) (hl : l.length ≤ 12) : SpecM Try.prog 114 [.n false .i64 l, .q [.i .i64 (b : Int)], .q ys, .q zs] [] (fun o G => o = .ret (.t [.o 0 0 0 (lm (hv b l)).length, .i .i64 0]) ∧ G = [⟨90, 1, 0, true, ints .u64 (lm (hv b l))⟩]) := by
  refine specS_of [(0, .n false .i64 l), (1, .q [.i .i64 (b : Int)]), (2, .q ys), (3, .q zs)] rfl Try.func114 rfl (Nat.le_of_ble_eq_true rfl) fun Γ hN hds hL hR => ?_
  have hd : ∀ d, Nat.blt d 89 = true → d < Γ.N := fun d h => by rw [hN]; exact Nat.le_of_ble_eq_true h
  refine jc_seq ?_; refine jc_region ?_; refine jo_l (ly_as rfl) (hd 5 rfl) ?_; refine jo_l (ly_as rfl) (hd 6 rfl) ?_; refine jo_nil ?_; refine jc_seq ?_; refine jc_seq ?_; refine jc_region ?_; refine jo_l (ly_mv rfl) (hd 16 rfl) ?_; refine jo_l (ly_lenn sl1039 rfl) (hd 17 rfl) ?_; refine jo_l (ly_tt (ly_le rfl rfl) (by omega)) (hd 18 rfl) ?_; refine jo_nil ?_; refine jc_litt rfl ?_; refine jc_seq ?_; refine jc_region ?_; refine jo_l (ly_as rfl) (hd 7 rfl) ?_; refine jo_nil ?_; refine jc_seq ?_; refine jc_seq ?_; refine jc_region ?_; refine jo_l (ly_mv rfl) (hd 19 rfl) ?_; refine jo_l (ly_lenn sl1039 rfl) (hd 20 rfl) ?_; refine jo_l (ly_mv rfl) (hd 21 rfl) ?_; refine jo_nil ?_; refine jc_block ?_
  refine jc_loopF (G := Nat) (fun i => i ≤ l.length) (fun i => [(7, .i .u64 (hv b (l.take i))), (21, .i .i64 (i : Int)), (9, .u), (22, .u), (23, .u), (24, .u), (25, .u), (26, .u), (27, .u), (28, .u), (29, .u), (30, .u), (31, .u), (32, .u)]) (fun _ => _) (fun i => l.length - i) 0 ?_ ?_ rfl ?_
  · exact Nat.zero_le _
  · exact (.cons rfl (.cons rfl (.u (.u (.u (.u (.u (.u (.u (.u (.u (.u (.u (.u .nil))))))))))))))
  · rintro i hi
    have hrt := rng_take hr i
    have hn0 := hv_nonneg hrt
    have hn1 := hv_12 hb2 hlb hrt (by rw [List.length_take]; omega)
    have hx := rng_getD (by omega) hr i
    refine jc_seq ?_; refine jc_region ?_; refine jo_l (ly_lt rfl rfl) (hd 22 rfl) ?_; refine jo_nil ?_; refine jc_seq ?_
    refine jc_if rfl (fun h2 => ?_) (fun h2 => ?_)
    · have hrm := rng_take hr (i + 1)
      have hm0 := hv_nonneg hrm
      have hm1 := hv_12 hb2 hlb hrm (by rw [List.length_take]; omega)
      have hst := hv_step (b := b) (l := l) (i := i) (by omega)
      refine jc_skip ?_; refine jc_seq ?_; refine jc_block ?_; refine jc_seq ?_; refine jc_region ?_; refine jo_l (ly_ian (i := i) sl1039 rfl rfl (by first | rfl | omega) (by omega)) (hd 23 rfl) ?_; refine jo_l (ly_ldq one3 rfl rfl) (hd 24 rfl) ?_; refine jo_l (ly_as rfl) (hd 9 rfl) ?_; refine jo_nil ?_; refine jc_region ?_; refine jo_l (ly_mv rfl) (hd 25 rfl) ?_; refine jo_l (ly_ldq one3 rfl rfl) (hd 26 rfl) ?_; refine jo_l (ly_conv und3 und82 rfl (r := (b : Int)) (wrap_u64 (by omega) (by omega))) (hd 27 rfl) ?_; refine jo_l (ly_mul rfl rfl (r := (hv b (l.take i)) * b) (wrap_u64 (Int.mul_nonneg hn0 (by omega)) (by omega))) (hd 28 rfl) ?_; refine jo_l (ly_mv rfl) (hd 29 rfl) ?_; refine jo_l (ly_conv und3 und82 rfl (r := l.getD i 0) (wrap_u64 hx.1 (by omega))) (hd 30 rfl) ?_; refine jo_l (ly_add rfl rfl (r := hv b (l.take (i + 1))) (by rw [← hv_step (by omega)]; exact wrap_u64 hm0 (by omega))) (hd 31 rfl) ?_; refine jo_l (ly_as rfl) (hd 7 rfl) ?_; refine jo_nil ?_; refine jc_region ?_; refine jo_l (ly_add rfl rfl (r := ((i + 1 : Nat) : Int)) (by rw [wrap_i64 (by omega) (by omega)]; omega)) (hd 32 rfl) ?_; refine jo_l (ly_mv rfl) (hd 21 rfl) ?_; refine jo_nil ?_
      refine ⟨i + 1, ?_, ?_, rfl, cov_n 28 rfl rfl ?_⟩
      · omega
      · omega
      · exact (.cons rfl (.cons rfl (.u (.u (.u (.u (.u (.u (.u (.u (.u (.u (.u (.u .nil))))))))))))))
    · obtain rfl : i = l.length := by omega
      refine jc_exit ?_; refine jc_seq ?_; refine jc_region ?_; refine jo_l (ly_mv rfl) (hd 33 rfl) ?_
      refine jo_callN Try.f113 (From_n (hv b (l.take l.length))) (fun o G ⟨_, h⟩ => h ▸ idless_cons ints_id idless_nil) rfl Try.func113 rfl rfl (ovL_cons rfl ovL_nil) (.cons .i .nil) (hd 34 rfl) ?_ (fun ch G hp => by simp at hp)
      rintro y G ⟨hy, rfl⟩; injection hy with hy; subst hy
      show JO _ _ _ _ ((34, .o 0 0 0 (fl (hv b (l.take l.length))).length) :: _) _ _
      refine jo_l (ly_as rfl) (hd 5 rfl) ?_; refine jo_l (ly_as rfl) (hd 6 rfl) ?_; refine jo_nil ?_; refine jc_ret ?_
      refine ⟨[0], _, (.t [.o 0 0 0 (fl (hv b (l.take l.length))).length, .i .i64 0]), (.cons rfl (.cons rfl .nil)), rfl, rfl, (by decide), (by first | exact idless_cons ints_id idless_nil | exact idless_cons rfl idless_nil), ?_⟩
      rw [show fl (hv b (l.take l.length)) = lm (hv b l) by rw [List.take_length] at hn0 hn1 ⊢; exact fl_lm hn0 (by omega)]
      exact ⟨rfl, rfl⟩

set_option maxHeartbeats 4000000 in
theorem part_bigN (b g : Nat) (hlb : 2 ≤ b) (hb2 : b ≤ 36) (l : List Int) (n : Nat) (hr : rng b l) (hl : l.length ≤ 1099511627776) (hv9 : lenV (hv b l) ≤ 67108864) (hk9 : lenV (PW b ((l.length + 1) / 2)) ≤ 67108864) (hn : l.length ≤ n) (h12 : 12 < l.length) (ih : ∀ (l2 : List Int) (n : Nat), rng b l2 → l2.length ≤ 1099511627776 → lenV (hv b l2) ≤ 67108864 → lenV (PW b ((l2.length + 1) / 2)) ≤ 67108864 → l2.length ≤ n → l2.length < l.length → SpecX Try.prog 114 [.n false .i64 l2, .q [.i .i64 (b : Int)], .q [cyc 114 [.q [.i .i64 (b : Int)]] [.q [.f 111 [.q [.c (.map (some g))], .q [.i .i64 (b : Int)]]]] n], .q [.f 111 [.q [.c (.map (some g))], .q [.i .i64 (b : Int)]]]] (cF b) g (fun o => o = .ret (.t [.n false .u64 (lm (hv b l2)), .i .i64 0]))) : SpecXN Try.prog 114 [.n false .i64 l, .q [.i .i64 (b : Int)], .q [cyc 114 [.q [.i .i64 (b : Int)]] [.q [.f 111 [.q [.c (.map (some g))], .q [.i .i64 (b : Int)]]]] n], .q [.f 111 [.q [.c (.map (some g))], .q [.i .i64 (b : Int)]]]] (cF b) g (fun o G => o = .ret (.t [.o 0 0 0 (lm (hv b l)).length, .i .i64 0]) ∧ G = [⟨90, 1, 0, true, ints .u64 (lm (hv b l))⟩]) := by
  refine specXN_of [(0, .n false .i64 l), (1, .q [.i .i64 (b : Int)]), (2, .q [cyc 114 [.q [.i .i64 (b : Int)]] [.q [.f 111 [.q [.c (.map (some g))], .q [.i .i64 (b : Int)]]]] n]), (3, .q [.f 111 [.q [.c (.map (some g))], .q [.i .i64 (b : Int)]]])] rfl Try.func114 rfl (Nat.le_of_ble_eq_true rfl) fun Γ hN hds hΓ => ?_
  have hdM : ∀ d, Nat.blt d 89 = true → d < Γ.N := fun d h => by rw [hN]; exact Nat.le_of_ble_eq_true h
  have hd := hdM
  obtain ⟨n, rfl⟩ : ∃ m, n = m + 1 := ⟨n - 1, by omega⟩
  have hla : (l.take (l.length - (l.length / 2))).length = l.length - (l.length / 2) := by rw [List.length_take]; omega
  have hlb0 : (l.drop (l.length - (l.length / 2))).length = (l.length / 2) := by rw [List.length_drop]; omega
  have hra := rng_take hr (l.length - (l.length / 2))
  have hrb := rng_drop hr (l.length - (l.length / 2))
  have hsp := hv_split (b := b) (k := (l.length / 2)) l (by omega)
  have hna := hv_nonneg hra
  have hnb := hv_nonneg hrb
  have hnl := hv_nonneg hr
  obtain ⟨hfa, hfb, hfm⟩ := half_fit (k := (l.length / 2)) hlb hr (by omega) hv9
  have hfp : lenV (PW b (l.length / 2)) ≤ 67108864 := Nat.le_trans (PW_mono hlb (by omega)) hk9
  have hpn := PW_nn (v := b) (n := (l.length / 2))
  have hka : lenV (PW b (((l.take (l.length - (l.length / 2))).length + 1) / 2)) ≤ 67108864 := Nat.le_trans (PW_mono hlb (by omega)) hk9
  have hkb : lenV (PW b (((l.drop (l.length - (l.length / 2))).length + 1) / 2)) ≤ 67108864 := Nat.le_trans (PW_mono hlb (by omega)) hk9
  refine jcm_toP hΓ rfl ?_
  intro Γ1 hN1 hds1 hL hR back backE
  have hd : ∀ d, Nat.blt d 89 = true → d < Γ1.N := fun d h => by rw [hN1]; exact hdM d h
  refine jcp_seq ?_; refine jc_region ?_; refine jo_l (ly_as rfl) (hd 5 rfl) ?_; refine jo_l (ly_as rfl) (hd 6 rfl) ?_; refine jo_nil ?_; refine back _ _ _ _ rfl ?_
  have hd := hdM
  refine jcm_seq ?_; refine jcm_toP hΓ rfl ?_
  intro Γ1 hN1 hds1 hL hR back backE
  have hd : ∀ d, Nat.blt d 89 = true → d < Γ1.N := fun d h => by rw [hN1]; exact hdM d h
  refine jcp_seq ?_; refine jc_region ?_; refine jo_l (ly_mv rfl) (hd 16 rfl) ?_; refine jo_l (ly_lenn sl1039 rfl) (hd 17 rfl) ?_; refine jo_l (ly_ff (ly_le rfl rfl) (by omega)) (hd 18 rfl) ?_; refine jo_nil ?_; refine back _ _ _ _ rfl ?_
  have hd := hdM
  refine jcm_litf rfl ?_; refine jcm_skip ?_; refine jcm_toP hΓ rfl ?_
  intro Γ1 hN1 hds1 hL hR back backE
  have hd : ∀ d, Nat.blt d 89 = true → d < Γ1.N := fun d h => by rw [hN1]; exact hdM d h
  refine jcp_seq ?_; refine jc_region ?_; refine jo_l (ly_mv rfl) (hd 35 rfl) ?_; refine jo_l (ly_lenn sl1039 rfl) (hd 36 rfl) ?_; refine jo_l (ly_quo rfl rfl (by omega) (r := ((l.length / 2 : Nat) : Int)) (by rw [show ((l.length : Int).tdiv 2) = ((l.length / 2 : Nat) : Int) from rfl]; exact wrap_i64 (by omega) (by omega))) (hd 37 rfl) ?_; refine jo_l (ly_as rfl) (hd 10 rfl) ?_; refine jo_nil ?_; refine back _ _ _ _ rfl ?_
  have hd := hdM
  refine jcm_seq ?_; refine jcm_draw (n := 13) _ rfl mixed ?_; refine jam_l2 0 [7, 8, 9, 10, 11, 12] (lo_l (ly_ldqf one1143 rfl rfl) (hd 39 rfl)) rfl (by kernel_rfl) (by kernel_rfl) (by kernel_rfl) (by kernel_rfl) (fun _ _ _ h => h) ?_; refine jam_l2 1 [6, 7, 8, 9, 10, 11, 12] (lo_l (ly_mv rfl) (hd 40 rfl)) rfl (by kernel_rfl) (by kernel_rfl) (by kernel_rfl) (by kernel_rfl) (fun _ _ _ h => h) ?_; refine jam_l2 2 [3, 5, 6, 7, 8, 9, 10, 11, 12] (lo_l (ly_mv rfl) (hd 41 rfl)) rfl (by kernel_rfl) (by kernel_rfl) (by kernel_rfl) (by kernel_rfl) (fun _ _ _ h => h) ?_; refine jam_l2 3 [5, 6, 7, 8, 9, 10, 11, 12] (lo_l (ly_lenn sl1039 rfl) (hd 42 rfl)) rfl (by kernel_rfl) (by kernel_rfl) (by kernel_rfl) (by kernel_rfl) (fun _ _ _ h => h) ?_; refine jam_l2 4 [5, 6, 7, 8, 9, 10, 11, 12] (lo_l (ly_mv rfl) (hd 43 rfl)) rfl (by kernel_rfl) (by kernel_rfl) (by kernel_rfl) (by kernel_rfl) (fun _ _ _ h => h) ?_; refine jam_l2 5 [6, 7, 8, 9, 10, 11, 12] (lo_l (ly_sub rfl rfl (r := ((l.length - (l.length / 2) : Nat) : Int)) (by rw [wrap_i64 (by omega) (by omega)]; omega)) (hd 44 rfl)) rfl (by kernel_rfl) (by kernel_rfl) (by kernel_rfl) (by kernel_rfl) (fun _ _ _ h => h) ?_; refine jam_l2 6 [7, 8, 9, 10, 11, 12] (lo_l (ly_is (ly_sln sl1039 rfl bnd_none (bnd_some' rfl rfl) (.inl rfl) (by omega) (by omega)) (show V.n _ _ _ = V.n false .i64 (l.take (l.length - (l.length / 2))) by rw [List.drop_zero])) (hd 45 rfl)) rfl (by kernel_rfl) (by kernel_rfl) (by kernel_rfl) (by kernel_rfl) (fun _ _ _ h => h) ?_
  refine jam_1X Try.f114 7 hΓ (ih (l.take (l.length - (l.length / 2))) n hra (by omega) hfa hka (by omega) (by omega)) rfl (by kernel_rfl) rfl Try.func114 rfl rfl (ovL_cons rfl ovL_nil) (.cons .n (.cons .q (.cons .q (.cons .q .nil)))) (hd 46 rfl) ?_ (fun ch hp => by simp at hp)
  rintro y hy; injection hy with hy; subst hy; refine jam_l2 8 [9, 10, 11, 12] (lo_l (ly_mv rfl) (hd 38 rfl)) rfl (by kernel_rfl) (by kernel_rfl) (by kernel_rfl) (by kernel_rfl) (fun _ _ _ h => h) ?_; refine jam_l2 9 [11, 12] (lo_l (ly_ext rfl rfl) (hd 47 rfl)) rfl (by kernel_rfl) (by kernel_rfl) (by kernel_rfl) (by kernel_rfl) (fun _ _ _ h => h) ?_; refine jam_l2 10 [12] (lo_l (ly_ext rfl rfl) (hd 48 rfl)) rfl (by kernel_rfl) (by kernel_rfl) (by kernel_rfl) (by kernel_rfl) (fun _ _ _ h => h) ?_; refine jam_l2 11 [12] (lo_l (ly_as rfl) (hd 11 rfl)) rfl (by kernel_rfl) (by kernel_rfl) (by kernel_rfl) (by kernel_rfl) (fun _ _ _ h => h) ?_; refine jam_l2 12 [] (lo_l (ly_as rfl) (hd 12 rfl)) rfl (by kernel_rfl) (by kernel_rfl) (by kernel_rfl) (by kernel_rfl) (fun _ _ _ h => h) ?_; refine jam_nil (by kernel_rfl) ?_; refine jcm_seq ?_; refine jcm_toP hΓ rfl ?_
  intro Γ1 hN1 hds1 hL hR back backE
  have hd : ∀ d, Nat.blt d 89 = true → d < Γ1.N := fun d h => by rw [hN1]; exact hdM d h
  refine jcp_seq ?_; refine jc_region ?_; refine jo_l (ly_mv rfl) (hd 49 rfl) ?_; refine jo_l (ly_ff (ly_ne rfl rfl) (by decide)) (hd 50 rfl) ?_; refine jo_nil ?_; refine back _ _ _ _ rfl ?_
  have hd := hdM
  refine jcm_litf rfl ?_; refine jcm_skip ?_; refine jcm_seq ?_; refine jcm_draw (n := 13) _ rfl mixed ?_; refine jam_l2 0 [7, 8, 9, 10, 11, 12] (lo_l (ly_ldqf one1143 rfl rfl) (hd 53 rfl)) rfl (by kernel_rfl) (by kernel_rfl) (by kernel_rfl) (by kernel_rfl) (fun _ _ _ h => h) ?_; refine jam_l2 1 [6, 7, 8, 9, 10, 11, 12] (lo_l (ly_mv rfl) (hd 54 rfl)) rfl (by kernel_rfl) (by kernel_rfl) (by kernel_rfl) (by kernel_rfl) (fun _ _ _ h => h) ?_; refine jam_l2 2 [3, 5, 6, 7, 8, 9, 10, 11, 12] (lo_l (ly_mv rfl) (hd 55 rfl)) rfl (by kernel_rfl) (by kernel_rfl) (by kernel_rfl) (by kernel_rfl) (fun _ _ _ h => h) ?_; refine jam_l2 3 [5, 6, 7, 8, 9, 10, 11, 12] (lo_l (ly_lenn sl1039 rfl) (hd 56 rfl)) rfl (by kernel_rfl) (by kernel_rfl) (by kernel_rfl) (by kernel_rfl) (fun _ _ _ h => h) ?_; refine jam_l2 4 [5, 6, 7, 8, 9, 10, 11, 12] (lo_l (ly_mv rfl) (hd 57 rfl)) rfl (by kernel_rfl) (by kernel_rfl) (by kernel_rfl) (by kernel_rfl) (fun _ _ _ h => h) ?_; refine jam_l2 5 [6, 7, 8, 9, 10, 11, 12] (lo_l (ly_sub rfl rfl (r := ((l.length - (l.length / 2) : Nat) : Int)) (by rw [wrap_i64 (by omega) (by omega)]; omega)) (hd 58 rfl)) rfl (by kernel_rfl) (by kernel_rfl) (by kernel_rfl) (by kernel_rfl) (fun _ _ _ h => h) ?_; refine jam_l2 6 [7, 8, 9, 10, 11, 12] (lo_l (ly_is (ly_sln sl1039 rfl (bnd_some' rfl rfl) bnd_none (.inl rfl) (by omega) (by omega)) (show V.n _ _ _ = V.n false .i64 (l.drop (l.length - (l.length / 2))) by rw [List.take_length])) (hd 59 rfl)) rfl (by kernel_rfl) (by kernel_rfl) (by kernel_rfl) (by kernel_rfl) (fun _ _ _ h => h) ?_
  refine jam_1X Try.f114 7 hΓ (ih (l.drop (l.length - (l.length / 2))) n hrb (by omega) hfb hkb (by omega) (by omega)) rfl (by kernel_rfl) rfl Try.func114 rfl rfl (ovL_cons rfl ovL_nil) (.cons .n (.cons .q (.cons .q (.cons .q .nil)))) (hd 60 rfl) ?_ (fun ch hp => by simp at hp)
  rintro y hy; injection hy with hy; subst hy; refine jam_l2 8 [9, 10, 11, 12] (lo_l (ly_mv rfl) (hd 52 rfl)) rfl (by kernel_rfl) (by kernel_rfl) (by kernel_rfl) (by kernel_rfl) (fun _ _ _ h => h) ?_; refine jam_l2 9 [11, 12] (lo_l (ly_ext rfl rfl) (hd 61 rfl)) rfl (by kernel_rfl) (by kernel_rfl) (by kernel_rfl) (by kernel_rfl) (fun _ _ _ h => h) ?_; refine jam_l2 10 [12] (lo_l (ly_ext rfl rfl) (hd 62 rfl)) rfl (by kernel_rfl) (by kernel_rfl) (by kernel_rfl) (by kernel_rfl) (fun _ _ _ h => h) ?_; refine jam_l2 11 [12] (lo_l (ly_as rfl) (hd 13 rfl)) rfl (by kernel_rfl) (by kernel_rfl) (by kernel_rfl) (by kernel_rfl) (fun _ _ _ h => h) ?_; refine jam_l2 12 [] (lo_l (ly_as rfl) (hd 12 rfl)) rfl (by kernel_rfl) (by kernel_rfl) (by kernel_rfl) (by kernel_rfl) (fun _ _ _ h => h) ?_; refine jam_nil (by kernel_rfl) ?_; refine jcm_seq ?_; refine jcm_toP hΓ rfl ?_
  intro Γ1 hN1 hds1 hL hR back backE
  have hd : ∀ d, Nat.blt d 89 = true → d < Γ1.N := fun d h => by rw [hN1]; exact hdM d h
  refine jcp_seq ?_; refine jc_region ?_; refine jo_l (ly_mv rfl) (hd 63 rfl) ?_; refine jo_l (ly_ff (ly_ne rfl rfl) (by decide)) (hd 64 rfl) ?_; refine jo_nil ?_; refine back _ _ _ _ rfl ?_
  have hd := hdM
  refine jcm_litf rfl ?_; refine jcm_skip ?_; refine jcm_seq ?_; refine jcm_region ?_; refine jom_l (ly_ldqf one1139 rfl rfl) (hd 67 rfl) ?_; refine jom_l (ly_mv rfl) (hd 68 rfl) ?_
  refine jom_callX Try.f111 hΓ (power_x b (l.length / 2) g hlb hb2 (by omega)) rfl Try.func111 rfl rfl (ovL_cons rfl ovL_nil) (.cons .i (.cons .q (.cons .q .nil))) (hd 69 rfl) ?_ (fun ch hp => by simp at hp)
  rintro y hy; injection hy with hy; subst hy; refine jom_l (ly_mv rfl) (hd 66 rfl) ?_; refine jom_l (ly_ext rfl rfl) (hd 70 rfl) ?_; refine jom_l (ly_ext rfl rfl) (hd 71 rfl) ?_; refine jom_l (ly_as rfl) (hd 14 rfl) ?_; refine jom_l (ly_as rfl) (hd 12 rfl) ?_; refine jom_nil ?_; refine jcm_seq ?_; refine jcm_toP hΓ rfl ?_
  intro Γ1 hN1 hds1 hL hR back backE
  have hd : ∀ d, Nat.blt d 89 = true → d < Γ1.N := fun d h => by rw [hN1]; exact hdM d h
  refine jcp_seq ?_; refine jc_region ?_; refine jo_l (ly_mv rfl) (hd 72 rfl) ?_; refine jo_l (ly_ff (ly_ne rfl rfl) (by decide)) (hd 73 rfl) ?_; refine jo_nil ?_; refine back _ _ _ _ rfl ?_
  have hd := hdM
  refine jcm_litf rfl ?_; refine jcm_skip ?_; refine jcm_toP hΓ rfl ?_
  intro Γ1 hN1 hds1 hL hR back backE
  have hd : ∀ d, Nat.blt d 89 = true → d < Γ1.N := fun d h => by rw [hN1]; exact hdM d h
  refine jcp_seq ?_; refine jc_region ?_; refine jo_l (ly_mv rfl) (hd 76 rfl) ?_; refine jo_l (ly_mv rfl) (hd 77 rfl) ?_
  refine jo_call Try.f61 (Mul_f (hv b (l.take (l.length - (l.length / 2)))) (PW b (l.length / 2)) hna hpn (by omega) (by omega) hfm) rfl Try.func61 rfl rfl (ovL_cons rfl (ovL_cons rfl ovL_nil)) (.cons .n (.cons .n .nil)) (hd 78 rfl) ?_ (fun ch hp => by simp at hp)
  rintro y hy; injection hy with hy; subst hy; refine jo_l (ly_mv rfl) (hd 75 rfl) ?_; refine jo_l (ly_ext rfl rfl) (hd 79 rfl) ?_; refine jo_l (ly_ext rfl rfl) (hd 80 rfl) ?_; refine jo_l (ly_as rfl) (hd 15 rfl) ?_; refine jo_l (ly_as rfl) (hd 12 rfl) ?_; refine jo_nil ?_; refine back _ _ _ _ rfl ?_
  have hd := hdM
  refine jcm_seq ?_; refine jcm_toP hΓ rfl ?_
  intro Γ1 hN1 hds1 hL hR back backE
  have hd : ∀ d, Nat.blt d 89 = true → d < Γ1.N := fun d h => by rw [hN1]; exact hdM d h
  refine jcp_seq ?_; refine jc_region ?_; refine jo_l (ly_mv rfl) (hd 81 rfl) ?_; refine jo_l (ly_ff (ly_ne rfl rfl) (by decide)) (hd 82 rfl) ?_; refine jo_nil ?_; refine back _ _ _ _ rfl ?_
  have hd := hdM
  refine jcm_litf rfl ?_; refine jcm_skip ?_; refine jcm_toPH hΓ rfl ?_
  intro Γ1 hN1 hds1 hL hR backH
  have hd : ∀ d, Nat.blt d 89 = true → d < Γ1.N := fun d h => by rw [hN1]; exact hdM d h
  refine jcp_seq ?_; refine jc_region ?_; refine jo_l (ly_mv rfl) (hd 84 rfl) ?_; refine jo_l (ly_mv rfl) (hd 85 rfl) ?_
  refine jo_callN Try.f97 (Addf_n (hv b (l.take (l.length - (l.length / 2))) * PW b (l.length / 2)) (hv b (l.drop (l.length - (l.length / 2)))) (Int.mul_nonneg hna hpn) hnb hfm (by omega) (by rw [← hsp]; omega)) (fun o G ⟨_, h⟩ => h ▸ idless_cons ints_id idless_nil) rfl Try.func97 rfl rfl (ovL_cons rfl (ovL_cons rfl ovL_nil)) (.cons .n (.cons .n .nil)) (hd 86 rfl) ?_ (fun ch G hp => by simp at hp)
  rintro y G ⟨hy, rfl⟩; injection hy with hy; subst hy
  show JO _ _ _ _ ((86, .t [.o 0 0 0 (lm (hv b (l.take (l.length - (l.length / 2))) * PW b (l.length / 2) + hv b (l.drop (l.length - (l.length / 2))))).length, .i .i64 0]) :: _) _ _
  refine jo_l (ly_ext rfl rfl) (hd 87 rfl) ?_; refine jo_l (ly_ext rfl rfl) (hd 88 rfl) ?_; refine jo_l (ly_as rfl) (hd 5 rfl) ?_; refine jo_l (ly_as rfl) (hd 6 rfl) ?_; refine jo_nil ?_; refine jcp_retB backH fun a w ρ s => ?_
  refine ⟨_, _, ρ, [0], _, (.t [.o 0 0 0 (lm (hv b (l.take (l.length - (l.length / 2))) * PW b (l.length / 2) + hv b (l.drop (l.length - (l.length / 2))))).length, .i .i64 0]), s, (.cons rfl (.cons rfl .nil)), rfl, rfl, (by decide), (idless_cons ints_id idless_nil), ?_⟩
  rw [hsp]
  exact ⟨rfl, rfl⟩

theorem part_xN (b g : Nat) (hlb : 2 ≤ b) (hb2 : b ≤ 36) (l : List Int) (n : Nat) (hr : rng b l) (hl : l.length ≤ 1099511627776) (hv9 : lenV (hv b l) ≤ 67108864) (hk9 : lenV (PW b ((l.length + 1) / 2)) ≤ 67108864) (hn : l.length ≤ n) : SpecXN Try.prog 114 [.n false .i64 l, .q [.i .i64 (b : Int)], .q [cyc 114 [.q [.i .i64 (b : Int)]] [.q [.f 111 [.q [.c (.map (some g))], .q [.i .i64 (b : Int)]]]] n], .q [.f 111 [.q [.c (.map (some g))], .q [.i .i64 (b : Int)]]]] (cF b) g (fun o G => o = .ret (.t [.o 0 0 0 (lm (hv b l)).length, .i .i64 0]) ∧ G = [⟨90, 1, 0, true, ints .u64 (lm (hv b l))⟩]) := by
  by_cases h : l.length ≤ 12
  · exact specXN_of_spec (part_12n l b _ _ hlb hb2 hr h)
  · exact part_bigN b g hlb hb2 l n hr hl hv9 hk9 hn (by omega) fun l2 n2 h1 h2 h5 h6 h3 h4 => part_x b g hlb hb2 (l2.length + 1) l2 n2 h1 h2 h5 h6 h3 (by omega)

set_option maxHeartbeats 4000000 in
theorem build_n (l : List Int) (b : Nat) (hlb : 2 ≤ b) (hb2 : b ≤ 36) (hr : rng b l) (hl : l.length ≤ 1099511627776) (hv9 : lenV (hv b l) ≤ 67108864) : SpecM Try.prog 67 [.n false .i64 l, .i .i64 (b : Int)] [] (fun o G => o = .ret (.t [.o 0 0 0 (lm (hv b l)).length, .i .i64 0]) ∧ G = [⟨90, 1, 0, true, ints .u64 (lm (hv b l))⟩]) := by
  refine specS_of [(0, .n false .i64 l), (1, .i .i64 (b : Int))] rfl Try.func67 rfl (Nat.le_of_ble_eq_true rfl) fun Γ hN hds hL hR => ?_
  have hd : ∀ d, Nat.blt d 31 = true → d < Γ.N := fun d h => by rw [hN]; exact Nat.le_of_ble_eq_true h
  refine jc_seq ?_; refine jc_region ?_; refine jo_h (hy_box (id := 0) (n := 1) rfl rfl rfl (by decide) rfl) (hd 3 rfl) ?_; refine jo_l (ly_as rfl) (hd 4 rfl) ?_; refine jo_l (ly_as rfl) (hd 5 rfl) ?_; refine jo_nil ?_
  refine jc_meetH (G := Nat) (fun i => i ≤ l.length ∧ hv b (l.drop i) = hv b l ∧ ((l.drop i).length = 0 ∨ (l.drop i).getD 0 0 ≠ 0)) (fun i => [(0, .n false .i64 (l.drop i)), (9, .u), (10, .u), (11, .u), (12, .u), (13, .u), (14, .u), (15, .u), (16, .u), (17, .u), (18, .u), (19, .u)]) ?_ ?_
  · refine jc_block ?_
    refine jc_loopF (G := Nat) (fun i => i ≤ l.length ∧ hv b (l.drop i) = hv b l) (fun i => [(0, .n false .i64 (l.drop i)), (9, .u), (10, .u), (11, .u), (12, .u), (13, .u), (14, .u), (15, .u), (16, .u), (17, .u), (18, .u), (19, .u)]) (fun _ => _) (fun i => l.length - i) 0 ?_ ?_ rfl ?_
    · exact ⟨Nat.zero_le _, rfl⟩
    · exact (.cons rfl (.u (.u (.u (.u (.u (.u (.u (.u (.u (.u (.u .nil))))))))))))
    · rintro i ⟨hi, hvi⟩
      have hld : (l.drop i).length = l.length - i := List.length_drop ..
      refine jc_seq ?_; refine jc_seq ?_; refine jc_region ?_; refine jo_l (ly_mv rfl) (hd 9 rfl) ?_; refine jo_l (ly_lenn sl1039 rfl) (hd 10 rfl) ?_; refine jo_l (ly_gt rfl rfl) (hd 11 rfl) ?_; refine jo_l (ly_mv rfl) (hd 12 rfl) ?_
      refine jo_ifp 12 rfl (fun h1 => ?_) (fun h1 => ?_)
      · refine jo_g 12 rfl rfl (ly_mv rfl) (hd 13 rfl) ?_; refine jo_g 12 rfl rfl (ly_ian (i := 0) sl1039 rfl rfl rfl (by omega)) (hd 14 rfl) ?_; refine jo_g 12 rfl rfl (ly_ldq one3 rfl rfl) (hd 15 rfl) ?_; refine jo_g 12 rfl rfl (ly_eq rfl rfl) (hd 16 rfl) ?_; refine jo_l (ly_pick_t rfl rfl) (hd 17 rfl) ?_; refine jo_nil ?_
        refine jc_if rfl (fun h2 => ?_) (fun h2 => ?_)
        · refine jc_skip ?_; refine jc_block ?_; refine jc_region ?_; refine jo_l (ly_mv rfl) (hd 18 rfl) ?_; refine jo_l (ly_sln sl1039 rfl (bnd_some' rfl rfl) bnd_none (.inl rfl) (by show 1 ≤ _; omega) (by omega)) (hd 19 rfl) ?_; refine jo_l (ly_as rfl) (hd 0 rfl) ?_; refine jo_nil ?_
          refine ⟨i + 1, ?_, ?_, rfl, cov_n 25 rfl rfl ?_⟩
          · exact ⟨by omega, hv_dropI (by assumption) hvi⟩
          · omega
          · exact (.cons (by show some (V.n _ _ _) = some (V.n _ _ _); rw [List.take_length, List.drop_drop]) (.u (.u (.u (.u (.u (.u (.u (.u (.u (.u (.u .nil))))))))))))
        · refine jc_exit ?_
          refine ⟨i, ?_, rfl, cov_n 22 rfl rfl ?_⟩
          · exact ⟨hi, hvi, by first | (left; omega) | (right; assumption)⟩
          · exact (.cons rfl (.u (.u (.u (.u (.u (.u (.u (.u (.u (.u (.u .nil))))))))))))
      · refine jo_s 12 rfl rfl rfl (hd 13 rfl) ?_; refine jo_s 12 rfl rfl rfl (hd 14 rfl) ?_; refine jo_s 12 rfl rfl rfl (hd 15 rfl) ?_; refine jo_s 12 rfl rfl rfl (hd 16 rfl) ?_; refine jo_l (ly_pick_f rfl rfl) (hd 17 rfl) ?_; refine jo_nil ?_; refine jc_litf rfl ?_; refine jc_exit ?_
        refine ⟨i, ?_, rfl, cov_n 22 rfl rfl ?_⟩
        · exact ⟨hi, hvi, by first | (left; omega) | (right; assumption)⟩
        · exact (.cons rfl (.u (.u (.u (.u (.u (.u (.u (.u (.u (.u (.u .nil))))))))))))
  · rintro i ⟨hi, hvi, hdi⟩
    have hld : (l.drop i).length = l.length - i := List.length_drop ..
    have hv9i : lenV (hv b (l.drop i)) ≤ 67108864 := by rw [hvi]; exact hv9
    have hlli := lead_len hlb (rng_drop hr i) hv9i hdi
    have hk9 := lead_fit hlb hb2 (rng_drop hr i) hv9i hdi
    refine jc_seq ?_; refine jc_seq ?_; refine jc_region ?_; refine jo_l (ly_mv rfl) (hd 20 rfl) ?_; refine jo_l (ly_lenn sl1039 rfl) (hd 21 rfl) ?_; refine jo_l (ly_ff (ly_gt rfl rfl) (by omega)) (hd 22 rfl) ?_; refine jo_nil ?_; refine jc_litf rfl ?_; refine jc_skip ?_; refine jc_frzp 3 rfl rfl rfl rfl hL ?_; refine jc_keep (F' := [(0, _), (3, _)]) (.cons rfl (.cons rfl .nil)) ?_
    have hd0 := hd
    have hLo := hL
    have hRo := hR
    refine jc_enterM3 (cF b) (hd 23 rfl) rfl rfl hR ?_
    intro Γ' Γ1 g hN1 hds1 hL hR hN' hΓ hreb back
    have hdM : ∀ d, Nat.blt d 31 = true → d < Γ'.N := fun d h => by rw [hN']; exact hd0 d h
    have hd : ∀ d, Nat.blt d 31 = true → d < Γ1.N := fun d h => by rw [hN1]; exact hd0 d h
    refine jo_h (hy_alloc (id := 0) zero1138 (by decide) rfl (by decide) rfl) (hd 6 rfl) ?_; refine jo_st (sy_store rfl rfl rfl siz1138 rfl rfl (Nat.le_of_ble_eq_true rfl)) ?_; refine jo_nil ?_; refine jcp_seq ?_; refine jc_region ?_; refine jo_h (hy_alloc (id := 1) zero1139 (by decide) rfl (by decide) rfl) (hd 7 rfl) ?_; refine jo_nil ?_; refine jcp_frzp 6 rfl rfl rfl rfl hL ?_; refine jcp_seq ?_; refine jc_region ?_; refine jo_l (ly_mf (ovL_cons rfl (ovL_cons rfl ovL_nil))) (hd 24 rfl) ?_; refine jo_st (sy_store rfl rfl rfl siz1139 rfl rfl (Nat.le_of_ble_eq_true rfl)) ?_; refine jo_nil ?_; refine jcp_seq ?_; refine jc_region ?_; refine jo_h (hy_alloc (id := 2) zero1143 (by decide) rfl (by decide) rfl) (hd 8 rfl) ?_; refine jo_nil ?_; refine jcp_frzF 7 rfl rfl rfl hL ?_; refine jcp_seq ?_; refine jc_region ?_; refine jo_l (ly_mf (ovL_cons rfl (ovL_cons rfl (ovL_cons rfl ovL_nil)))) (hd 25 rfl) ?_; refine jo_st (sy_store rfl rfl rfl siz1143 rfl rfl (Nat.le_of_ble_eq_true rfl)) ?_; refine jo_nil ?_; refine jcp_cyc 8 [.q [.i .i64 (b : Int)]] [.q [.f 111 [.q [.c (.map (some g))], .q [.i .i64 (b : Int)]]]] (l.length + 1) rfl rfl rfl rfl hL ?_; refine jcp_keep (F' := [(0, _), (8, _)]) (.cons rfl (.cons rfl .nil)) ?_; refine back _ _ _ _ rfl ?_
    have hd := hdM
    refine jcm_seq ?_; refine jcm_region ?_; refine jom_l (ly_ldqf one1143 rfl rfl) (hd 26 rfl) ?_; refine jom_l (ly_mv rfl) (hd 27 rfl) ?_
    refine jom_callXN Try.f114 hΓ hreb (part_xN b g hlb hb2 (l.drop i) l.length (rng_drop hr i) (by omega) hv9i hk9 (by omega)) rfl Try.func114 rfl rfl (ovL_cons rfl ovL_nil) (.cons .n (.cons .q (.cons .q (.cons .q .nil)))) (hd 28 rfl) ?_ (fun ch H hp => by simp at hp)
    rintro y G ⟨hy, rfl⟩; injection hy with hy; subst hy
    have hd := hd0
    have hL := hLo
    have hR := hRo
    show JO _ _ _ _ ((28, .t [.o 0 0 0 (lm (hv b (l.drop i))).length, .i .i64 0]) :: _) _ _
    refine jo_l (ly_ext rfl rfl) (hd 29 rfl) ?_; refine jo_l (ly_ext rfl rfl) (hd 30 rfl) ?_; refine jo_l (ly_as rfl) (hd 4 rfl) ?_; refine jo_l (ly_as rfl) (hd 5 rfl) ?_; refine jo_nil ?_; refine jc_ret ?_
    refine ⟨[0], _, (.t [.o 0 0 0 (lm (hv b (l.drop i))).length, .i .i64 0]), (.cons rfl (.cons rfl .nil)), rfl, rfl, (by decide), (idless_cons ints_id idless_nil), ?_⟩
    rw [hvi]
    exact ⟨rfl, rfl⟩
end Go.Proofs.Ytcfdclehmpfkcaa.Vc

/- Contracts of surdlaw05.same, numeral.Build, surdref05.Build. -/
namespace Go.Proofs.Ytcfdclehmpfkcaa.Vc
open Go Go.RowKit
set_option maxHeartbeats 4000000 in
theorem same_ok (v : Int) (hl : (dg v).length < 4294967296) (hv9 : lenV v ≤ 67108864) : Spec Try.prog 18 [.n false .u64 (lm v), .i .i64 0, .n false .u64 (dg v), .i .i64 0] (fun o => o = .ret (.b true)) := by
  refine spec_of' [(0, .n false .u64 (lm v)), (1, .i .i64 0), (2, .n false .u64 (dg v)), (3, .i .i64 0)] rfl Try.func18 rfl (Nat.le_of_ble_eq_true rfl) fun Γ hN hds hL hR => ?_
  have hd : ∀ d, Nat.blt d 33 = true → d < Γ.N := fun d h => by rw [hN]; exact Nat.le_of_ble_eq_true h
  have hIs : Spec Try.prog 68 [.n false .u64 (dg v), .n false .u64 (lm v)] (fun o => o = .ret (.b true)) := by have h := Is_s (dg v) (by omega); rwa [lims_dg] at h
  refine jc_seq ?_; refine jc_region ?_; refine jo_l (ly_as rfl) (hd 8 rfl) ?_; refine jo_nil ?_; refine jc_seq ?_; refine jc_seq ?_; refine jc_region ?_; refine jo_l (ly_mv rfl) (hd 9 rfl) ?_; refine jo_l (ly_tt (ly_eq rfl rfl) rfl) (hd 10 rfl) ?_; refine jo_l (ly_mv rfl) (hd 11 rfl) ?_; refine jo_g 11 rfl rfl (ly_mv rfl) (hd 12 rfl) ?_
  refine jo_callg Try.f46 11 rfl rfl (Len_s v (by omega)) rfl Try.func46 rfl rfl (ovL_cons rfl ovL_nil) (.cons .n .nil) (hd 13 rfl) ?_ (fun ch hp => by simp at hp)
  rintro y hy; injection hy with hy; subst hy; refine jo_g 11 rfl rfl (ly_ff (ly_gt rfl rfl) (by omega)) (hd 14 rfl) ?_; refine jo_l (ly_pick_t rfl rfl) (hd 15 rfl) ?_; refine jo_nil ?_; refine jc_litf rfl ?_; refine jc_skip ?_; refine jc_seq ?_; refine jc_seq ?_; refine jc_region ?_; refine jo_l (ly_mv rfl) (hd 16 rfl) ?_; refine jo_l (ly_ff (ly_ne rfl rfl) (by simp)) (hd 17 rfl) ?_; refine jo_nil ?_; refine jc_litf rfl ?_; refine jc_skip ?_; refine jc_seq ?_; refine jc_region ?_; refine jo_l (ly_mv rfl) (hd 26 rfl) ?_; refine jo_l (ly_tt (ly_eq rfl rfl) rfl) (hd 27 rfl) ?_; refine jo_l (ly_mv rfl) (hd 28 rfl) ?_; refine jo_g 28 rfl rfl (ly_mv rfl) (hd 29 rfl) ?_; refine jo_g 28 rfl rfl (ly_mv rfl) (hd 30 rfl) ?_
  refine jo_callg Try.f68 28 rfl rfl (hIs) rfl Try.func68 rfl rfl (ovL_cons rfl (ovL_cons rfl ovL_nil)) (.cons .n (.cons .n .nil)) (hd 31 rfl) ?_ (fun ch hp => by simp at hp)
  rintro y hy; injection hy with hy; subst hy; refine jo_l (ly_pick_t rfl rfl) (hd 32 rfl) ?_; refine jo_l (ly_as rfl) (hd 8 rfl) ?_; refine jo_nil ?_; refine jc_ret ?_
  refine ⟨_, _, (.cons rfl .nil), .b, ?_⟩
  exact rfl

set_option maxHeartbeats 4000000 in
theorem same_err (e : Int) (he : e ≠ 0) : Spec Try.prog 18 [.n false .u64 [], .i .i64 e, .n false .u64 [], .i .i64 e] (fun o => o = .ret (.b true)) := by
  refine spec_of' [(0, .n false .u64 []), (1, .i .i64 e), (2, .n false .u64 []), (3, .i .i64 e)] rfl Try.func18 rfl (Nat.le_of_ble_eq_true rfl) fun Γ hN hds hL hR => ?_
  have hd : ∀ d, Nat.blt d 33 = true → d < Γ.N := fun d h => by rw [hN]; exact Nat.le_of_ble_eq_true h
  refine jc_seq ?_; refine jc_region ?_; refine jo_l (ly_as rfl) (hd 8 rfl) ?_; refine jo_nil ?_; refine jc_seq ?_; refine jc_seq ?_; refine jc_region ?_; refine jo_l (ly_mv rfl) (hd 9 rfl) ?_; refine jo_l (ly_ff (ly_eq rfl rfl) he) (hd 10 rfl) ?_; refine jo_l (ly_mv rfl) (hd 11 rfl) ?_; refine jo_s 11 rfl rfl rfl (hd 12 rfl) ?_; refine jo_s 11 rfl rfl rfl (hd 13 rfl) ?_; refine jo_s 11 rfl rfl rfl (hd 14 rfl) ?_; refine jo_l (ly_pick_f rfl rfl) (hd 15 rfl) ?_; refine jo_nil ?_; refine jc_litf rfl ?_; refine jc_skip ?_; refine jc_seq ?_; refine jc_seq ?_; refine jc_region ?_; refine jo_l (ly_mv rfl) (hd 16 rfl) ?_; refine jo_l (ly_tt (ly_ne rfl rfl) he) (hd 17 rfl) ?_; refine jo_nil ?_; refine jc_litt rfl ?_; refine jc_seq ?_; refine jc_region ?_; refine jo_l (ly_mv rfl) (hd 18 rfl) ?_; refine jo_l (ly_mv rfl) (hd 19 rfl) ?_; refine jo_l (ly_tt (ly_eq rfl rfl) rfl) (hd 20 rfl) ?_; refine jo_l (ly_mv rfl) (hd 21 rfl) ?_; refine jo_g 21 rfl rfl (ly_mv rfl) (hd 22 rfl) ?_; refine jo_g 21 rfl rfl (ly_lenn sl28 rfl) (hd 23 rfl) ?_; refine jo_g 21 rfl rfl (ly_tt (ly_eq rfl rfl) rfl) (hd 24 rfl) ?_; refine jo_l (ly_pick_t rfl rfl) (hd 25 rfl) ?_; refine jo_l (ly_as rfl) (hd 8 rfl) ?_; refine jo_nil ?_; refine jc_ret ?_
  refine ⟨_, _, (.cons rfl .nil), .b, ?_⟩
  exact rfl

set_option maxHeartbeats 4000000 in
theorem Build_n (l : List Int) (b : Nat) (hlb : 2 ≤ b) (hb2 : b ≤ 36) (hr : rng b l) (hl : l.length ≤ 1099511627776) (hv9 : lenV (hv b l) ≤ 67108864) : SpecM Try.prog 23 [.i .i64 (b : Int), .n false .i64 l] [] (fun o G => o = .ret (.t [.o 0 0 0 (lm (hv b l)).length, .i .i64 0]) ∧ G = [⟨90, 1, 0, true, ints .u64 (lm (hv b l))⟩]) := by
  refine specS_of [(0, .i .i64 (b : Int)), (1, .n false .i64 l)] rfl Try.func23 rfl (Nat.le_of_ble_eq_true rfl) fun Γ hN hds hL hR => ?_
  have hd : ∀ d, Nat.blt d 30 = true → d < Γ.N := fun d h => by rw [hN]; exact Nat.le_of_ble_eq_true h
  refine jc_seq ?_; refine jc_region ?_; refine jo_l (ly_as rfl) (hd 4 rfl) ?_; refine jo_l (ly_as rfl) (hd 5 rfl) ?_; refine jo_nil ?_; refine jc_seq ?_; refine jc_seq ?_; refine jc_region ?_; refine jo_l (ly_mv rfl) (hd 8 rfl) ?_
  refine jo_call Try.f66 (good_y b hlb hb2) rfl Try.func66 rfl rfl (ovL_cons rfl ovL_nil) (.cons .i .nil) (hd 9 rfl) ?_ (fun ch hp => by simp at hp)
  rintro y hy; injection hy with hy; subst hy; refine jo_l (ly_not rfl) (hd 10 rfl) ?_; refine jo_nil ?_; refine jc_litf rfl ?_; refine jc_skip ?_; refine jc_seq ?_; refine jc_seq ?_; refine jc_region ?_; refine jo_l (ly_mv rfl) (hd 11 rfl) ?_; refine jo_l (ly_lenn sl1039 rfl) (hd 12 rfl) ?_; refine jo_l (ly_mv rfl) (hd 13 rfl) ?_; refine jo_nil ?_; refine jc_block ?_
  refine jc_loopF (G := Nat) (fun i => i ≤ l.length) (fun i => [(13, .i .i64 (i : Int)), (4, .u), (5, .u), (7, .u), (14, .u), (15, .u), (16, .u), (17, .u), (18, .u), (19, .u), (20, .u), (21, .u), (22, .u), (23, .u), (24, .u)]) (fun _ => _) (fun i => l.length - i) 0 ?_ ?_ rfl ?_
  · exact Nat.zero_le _
  · exact (.cons rfl (.u (.u (.u (.u (.u (.u (.u (.u (.u (.u (.u (.u (.u (.u .nil)))))))))))))))
  · rintro i hi
    have hx := rng_getD (by omega) hr i
    refine jc_seq ?_; refine jc_region ?_; refine jo_l (ly_lt rfl rfl) (hd 14 rfl) ?_; refine jo_nil ?_; refine jc_seq ?_
    refine jc_if rfl (fun h2 => ?_) (fun h2 => ?_)
    · refine jc_skip ?_; refine jc_seq ?_; refine jc_block ?_; refine jc_seq ?_; refine jc_region ?_; refine jo_l (ly_ian (i := i) sl1039 rfl rfl (by first | rfl | omega) (by omega)) (hd 15 rfl) ?_; refine jo_l (ly_ldq one3 rfl rfl) (hd 16 rfl) ?_; refine jo_l (ly_as rfl) (hd 7 rfl) ?_; refine jo_nil ?_; refine jc_seq ?_; refine jc_region ?_; refine jo_l (ly_mv rfl) (hd 17 rfl) ?_; refine jo_l (ly_ff (ly_lt rfl rfl) (by omega)) (hd 18 rfl) ?_; refine jo_l (ly_mv rfl) (hd 19 rfl) ?_; refine jo_g 19 rfl rfl (ly_mv rfl) (hd 20 rfl) ?_; refine jo_g 19 rfl rfl (ly_mv rfl) (hd 21 rfl) ?_; refine jo_g 19 rfl rfl (ly_ff (ly_ge rfl rfl) (by omega)) (hd 22 rfl) ?_; refine jo_l (ly_pick_f rfl rfl) (hd 23 rfl) ?_; refine jo_nil ?_; refine jc_litf rfl ?_; refine jc_skip ?_; refine jc_region ?_; refine jo_l (ly_add rfl rfl (r := ((i + 1 : Nat) : Int)) (by rw [wrap_i64 (by omega) (by omega)]; omega)) (hd 24 rfl) ?_; refine jo_l (ly_mv rfl) (hd 13 rfl) ?_; refine jo_nil ?_
      refine ⟨i + 1, ?_, ?_, rfl, cov_n 28 rfl rfl ?_⟩
      · omega
      · omega
      · exact (.cons rfl (.u (.u (.u (.u (.u (.u (.u (.u (.u (.u (.u (.u (.u (.u .nil)))))))))))))))
    · refine jc_exit ?_; refine jc_seq ?_; refine jc_region ?_; refine jo_l (ly_mv rfl) (hd 25 rfl) ?_; refine jo_l (ly_mv rfl) (hd 26 rfl) ?_
      refine jo_callN Try.f67 (build_n l b hlb hb2 hr hl hv9) (fun o G ⟨_, h⟩ => h ▸ idless_cons ints_id idless_nil) rfl Try.func67 rfl rfl (ovL_cons rfl (ovL_cons rfl ovL_nil)) (.cons .n (.cons .i .nil)) (hd 27 rfl) ?_ (fun ch G hp => by simp at hp)
      rintro y G ⟨hy, rfl⟩; injection hy with hy; subst hy
      show JO _ _ _ _ ((27, .t [.o 0 0 0 (lm (hv b l)).length, .i .i64 0]) :: _) _ _
      refine jo_l (ly_ext rfl rfl) (hd 28 rfl) ?_; refine jo_l (ly_ext rfl rfl) (hd 29 rfl) ?_; refine jo_l (ly_as rfl) (hd 4 rfl) ?_; refine jo_l (ly_as rfl) (hd 5 rfl) ?_; refine jo_nil ?_; refine jc_ret ?_
      refine ⟨[0], _, (.t [.o 0 0 0 (lm (hv b l)).length, .i .i64 0]), (.cons rfl (.cons rfl .nil)), rfl, rfl, (by decide), (by first | exact idless_cons ints_id idless_nil | exact idless_cons rfl idless_nil), ?_⟩
      exact ⟨rfl, rfl⟩

set_option maxHeartbeats 4000000 in
theorem Build_b (l : List Int) (b : Int) (hb : ¬ (2 ≤ b ∧ b ≤ 36)) : Spec Try.prog 23 [.i .i64 b, .n false .i64 l] (fun o => o = .ret (.t [.c (.slice none 0 0), .i .i64 50])) := by
  refine spec_of' [(0, .i .i64 b), (1, .n false .i64 l)] rfl Try.func23 rfl (Nat.le_of_ble_eq_true rfl) fun Γ hN hds hL hR => ?_
  have hd : ∀ d, Nat.blt d 30 = true → d < Γ.N := fun d h => by rw [hN]; exact Nat.le_of_ble_eq_true h
  refine jc_seq ?_; refine jc_region ?_; refine jo_l (ly_as rfl) (hd 4 rfl) ?_; refine jo_l (ly_as rfl) (hd 5 rfl) ?_; refine jo_nil ?_; refine jc_seq ?_; refine jc_seq ?_; refine jc_region ?_; refine jo_l (ly_mv rfl) (hd 8 rfl) ?_
  refine jo_call Try.f66 (good_n b hb) rfl Try.func66 rfl rfl (ovL_cons rfl ovL_nil) (.cons .i .nil) (hd 9 rfl) ?_ (fun ch hp => by simp at hp)
  rintro y hy; injection hy with hy; subst hy; refine jo_l (ly_not rfl) (hd 10 rfl) ?_; refine jo_nil ?_; refine jc_litt rfl ?_; refine jc_seq ?_; refine jc_region ?_; refine jo_l (ly_as rfl) (hd 4 rfl) ?_; refine jo_l (ly_as rfl) (hd 5 rfl) ?_; refine jo_nil ?_; refine jc_ret ?_
  refine ⟨_, _, (.cons rfl (.cons rfl .nil)), (.t1 .c (.t1 .i .t0)), ?_⟩
  exact rfl

set_option maxHeartbeats 4000000 in
theorem Build_d (l : List Int) (b k : Nat) (hlb : 2 ≤ b) (hb2 : b ≤ 36) (hk : k < l.length) (hl : l.length ≤ 1099511627776) (hbad : ¬ (0 ≤ l.getD k 0 ∧ l.getD k 0 < b)) : Spec Try.prog 23 [.i .i64 (b : Int), .n false .i64 l] (fun o => o = .ret (.t [.c (.slice none 0 0), .i .i64 51])) := by
  refine spec_of' [(0, .i .i64 (b : Int)), (1, .n false .i64 l)] rfl Try.func23 rfl (Nat.le_of_ble_eq_true rfl) fun Γ hN hds hL hR => ?_
  have hd : ∀ d, Nat.blt d 30 = true → d < Γ.N := fun d h => by rw [hN]; exact Nat.le_of_ble_eq_true h
  refine jc_seq ?_; refine jc_region ?_; refine jo_l (ly_as rfl) (hd 4 rfl) ?_; refine jo_l (ly_as rfl) (hd 5 rfl) ?_; refine jo_nil ?_; refine jc_seq ?_; refine jc_seq ?_; refine jc_region ?_; refine jo_l (ly_mv rfl) (hd 8 rfl) ?_
  refine jo_call Try.f66 (good_y b hlb hb2) rfl Try.func66 rfl rfl (ovL_cons rfl ovL_nil) (.cons .i .nil) (hd 9 rfl) ?_ (fun ch hp => by simp at hp)
  rintro y hy; injection hy with hy; subst hy; refine jo_l (ly_not rfl) (hd 10 rfl) ?_; refine jo_nil ?_; refine jc_litf rfl ?_; refine jc_skip ?_; refine jc_seq ?_; refine jc_seq ?_; refine jc_region ?_; refine jo_l (ly_mv rfl) (hd 11 rfl) ?_; refine jo_l (ly_lenn sl1039 rfl) (hd 12 rfl) ?_; refine jo_l (ly_mv rfl) (hd 13 rfl) ?_; refine jo_nil ?_; refine jc_block ?_
  refine jc_loopF (G := Nat) (fun i => i ≤ k) (fun i => [(13, .i .i64 (i : Int)), (4, .u), (5, .u), (7, .u), (14, .u), (15, .u), (16, .u), (17, .u), (18, .u), (19, .u), (20, .u), (21, .u), (22, .u), (23, .u), (24, .u)]) (fun _ => _) (fun i => l.length - i) 0 ?_ ?_ rfl ?_
  · exact Nat.zero_le _
  · exact (.cons rfl (.u (.u (.u (.u (.u (.u (.u (.u (.u (.u (.u (.u (.u (.u .nil)))))))))))))))
  · rintro i hi; refine jc_seq ?_; refine jc_region ?_; refine jo_l (ly_lt rfl rfl) (hd 14 rfl) ?_; refine jo_nil ?_; refine jc_seq ?_
    refine jc_if rfl (fun h2 => ?_) (fun h2 => ?_)
    · refine jc_skip ?_; refine jc_seq ?_; refine jc_block ?_; refine jc_seq ?_; refine jc_region ?_; refine jo_l (ly_ian (i := i) sl1039 rfl rfl (by first | rfl | omega) (by omega)) (hd 15 rfl) ?_; refine jo_l (ly_ldq one3 rfl rfl) (hd 16 rfl) ?_; refine jo_l (ly_as rfl) (hd 7 rfl) ?_; refine jo_nil ?_; refine jc_seq ?_; refine jc_region ?_; refine jo_l (ly_mv rfl) (hd 17 rfl) ?_; refine jo_l (ly_lt rfl rfl) (hd 18 rfl) ?_; refine jo_l (ly_mv rfl) (hd 19 rfl) ?_
      refine jo_ifp 19 rfl (fun h3 => ?_) (fun h3 => ?_)
      · refine jo_s 19 rfl rfl rfl (hd 20 rfl) ?_; refine jo_s 19 rfl rfl rfl (hd 21 rfl) ?_; refine jo_s 19 rfl rfl rfl (hd 22 rfl) ?_; refine jo_l (ly_pick_t rfl rfl) (hd 23 rfl) ?_; refine jo_nil ?_; refine jc_litt rfl ?_; refine jc_seq ?_; refine jc_region ?_; refine jo_l (ly_as rfl) (hd 4 rfl) ?_; refine jo_l (ly_as rfl) (hd 5 rfl) ?_; refine jo_nil ?_; refine jc_ret ?_
        refine ⟨_, _, (.cons rfl (.cons rfl .nil)), (.t1 .c (.t1 .i .t0)), ?_⟩
        exact rfl
      · refine jo_g 19 rfl rfl (ly_mv rfl) (hd 20 rfl) ?_; refine jo_g 19 rfl rfl (ly_mv rfl) (hd 21 rfl) ?_; refine jo_g 19 rfl rfl (ly_ge rfl rfl) (hd 22 rfl) ?_; refine jo_l (ly_pick_f rfl rfl) (hd 23 rfl) ?_; refine jo_nil ?_
        refine jc_if rfl (fun h5 => ?_) (fun h5 => ?_)
        · refine jc_seq ?_; refine jc_region ?_; refine jo_l (ly_as rfl) (hd 4 rfl) ?_; refine jo_l (ly_as rfl) (hd 5 rfl) ?_; refine jo_nil ?_; refine jc_ret ?_
          refine ⟨_, _, (.cons rfl (.cons rfl .nil)), (.t1 .c (.t1 .i .t0)), ?_⟩
          exact rfl
        · have hik : i ≠ k := fun e => hbad (by rw [← e]; omega)
          refine jc_skip ?_; refine jc_region ?_; refine jo_l (ly_add rfl rfl (r := ((i + 1 : Nat) : Int)) (by rw [wrap_i64 (by omega) (by omega)]; omega)) (hd 24 rfl) ?_; refine jo_l (ly_mv rfl) (hd 13 rfl) ?_; refine jo_nil ?_
          refine ⟨i + 1, ?_, ?_, rfl, cov_n 29 rfl rfl ?_⟩
          · omega
          · omega
          · exact (.cons rfl (.u (.u (.u (.u (.u (.u (.u (.u (.u (.u (.u (.u (.u (.u .nil)))))))))))))))
    · exfalso
      omega

set_option maxHeartbeats 4000000 in
theorem rBuild_b (l : List Int) (b : Int) (hb : ¬ (2 ≤ b ∧ b ≤ 36)) : Spec Try.prog 24 [.i .i64 b, .n false .i64 l] (fun o => o = .ret (.t [.n false .u64 [], .i .i64 50])) := by
  refine spec_of' [(0, .i .i64 b), (1, .n false .i64 l)] rfl Try.func24 rfl (Nat.le_of_ble_eq_true rfl) fun Γ hN hds hL hR => ?_
  have hd : ∀ d, Nat.blt d 48 = true → d < Γ.N := fun d h => by rw [hN]; exact Nat.le_of_ble_eq_true h
  refine jc_seq ?_; refine jc_region ?_; refine jo_l (ly_as rfl) (hd 4 rfl) ?_; refine jo_l (ly_as rfl) (hd 5 rfl) ?_; refine jo_nil ?_; refine jc_seq ?_; refine jc_seq ?_; refine jc_region ?_; refine jo_l (ly_mv rfl) (hd 12 rfl) ?_; refine jo_l (ly_lt rfl rfl) (hd 13 rfl) ?_; refine jo_l (ly_mv rfl) (hd 14 rfl) ?_
  refine jo_ifp 14 rfl (fun h1 => ?_) (fun h1 => ?_)
  · refine jo_s 14 rfl rfl rfl (hd 15 rfl) ?_; refine jo_s 14 rfl rfl rfl (hd 16 rfl) ?_; refine jo_l (ly_pick_t rfl rfl) (hd 17 rfl) ?_; refine jo_nil ?_; refine jc_litt rfl ?_; refine jc_seq ?_; refine jc_region ?_; refine jo_l (ly_as rfl) (hd 4 rfl) ?_; refine jo_l (ly_as rfl) (hd 5 rfl) ?_; refine jo_nil ?_; refine jc_ret ?_
    refine ⟨_, _, (.cons rfl (.cons rfl .nil)), (.t1 (.nil (fr := false) (k := .u64)) (.t1 .i .t0)), ?_⟩
    exact rfl
  · refine jo_g 14 rfl rfl (ly_mv rfl) (hd 15 rfl) ?_; refine jo_g 14 rfl rfl (ly_gt rfl rfl) (hd 16 rfl) ?_; refine jo_l (ly_pick_f rfl rfl) (hd 17 rfl) ?_; refine jo_nil ?_
    refine jc_if rfl (fun h3 => ?_) (fun h3 => ?_)
    · refine jc_seq ?_; refine jc_region ?_; refine jo_l (ly_as rfl) (hd 4 rfl) ?_; refine jo_l (ly_as rfl) (hd 5 rfl) ?_; refine jo_nil ?_; refine jc_ret ?_
      refine ⟨_, _, (.cons rfl (.cons rfl .nil)), (.t1 (.nil (fr := false) (k := .u64)) (.t1 .i .t0)), ?_⟩
      exact rfl
    · exfalso
      omega

set_option maxHeartbeats 4000000 in
theorem rBuild_d (l : List Int) (b k : Nat) (hlb : 2 ≤ b) (hb2 : b ≤ 36) (hk : k < l.length) (hl : l.length ≤ 1099511627776) (hbad : ¬ (0 ≤ l.getD k 0 ∧ l.getD k 0 < b)) : Spec Try.prog 24 [.i .i64 (b : Int), .n false .i64 l] (fun o => o = .ret (.t [.n false .u64 [], .i .i64 51])) := by
  refine spec_of' [(0, .i .i64 (b : Int)), (1, .n false .i64 l)] rfl Try.func24 rfl (Nat.le_of_ble_eq_true rfl) fun Γ hN hds hL hR => ?_
  have hd : ∀ d, Nat.blt d 48 = true → d < Γ.N := fun d h => by rw [hN]; exact Nat.le_of_ble_eq_true h
  refine jc_seq ?_; refine jc_region ?_; refine jo_l (ly_as rfl) (hd 4 rfl) ?_; refine jo_l (ly_as rfl) (hd 5 rfl) ?_; refine jo_nil ?_; refine jc_seq ?_; refine jc_seq ?_; refine jc_region ?_; refine jo_l (ly_mv rfl) (hd 12 rfl) ?_; refine jo_l (ly_ff (ly_lt rfl rfl) (by omega)) (hd 13 rfl) ?_; refine jo_l (ly_mv rfl) (hd 14 rfl) ?_; refine jo_g 14 rfl rfl (ly_mv rfl) (hd 15 rfl) ?_; refine jo_g 14 rfl rfl (ly_ff (ly_gt rfl rfl) (by omega)) (hd 16 rfl) ?_; refine jo_l (ly_pick_f rfl rfl) (hd 17 rfl) ?_; refine jo_nil ?_; refine jc_litf rfl ?_; refine jc_skip ?_; refine jc_seq ?_; refine jc_seq ?_; refine jc_region ?_; refine jo_l (ly_mv rfl) (hd 18 rfl) ?_; refine jo_l (ly_lenn sl1039 rfl) (hd 19 rfl) ?_; refine jo_l (ly_mv rfl) (hd 20 rfl) ?_; refine jo_nil ?_; refine jc_block ?_
  refine jc_loopF (G := Nat) (fun i => i ≤ k) (fun i => [(20, .i .i64 (i : Int)), (4, .u), (5, .u), (7, .u), (21, .u), (22, .u), (23, .u), (24, .u), (25, .u), (26, .u), (27, .u), (28, .u), (29, .u), (30, .u), (31, .u)]) (fun _ => _) (fun i => l.length - i) 0 ?_ ?_ rfl ?_
  · exact Nat.zero_le _
  · exact (.cons rfl (.u (.u (.u (.u (.u (.u (.u (.u (.u (.u (.u (.u (.u (.u .nil)))))))))))))))
  · rintro i hi; refine jc_seq ?_; refine jc_region ?_; refine jo_l (ly_lt rfl rfl) (hd 21 rfl) ?_; refine jo_nil ?_; refine jc_seq ?_
    refine jc_if rfl (fun h2 => ?_) (fun h2 => ?_)
    · refine jc_skip ?_; refine jc_seq ?_; refine jc_block ?_; refine jc_seq ?_; refine jc_region ?_; refine jo_l (ly_ian (i := i) sl1039 rfl rfl (by first | rfl | omega) (by omega)) (hd 22 rfl) ?_; refine jo_l (ly_ldq one3 rfl rfl) (hd 23 rfl) ?_; refine jo_l (ly_as rfl) (hd 7 rfl) ?_; refine jo_nil ?_; refine jc_seq ?_; refine jc_region ?_; refine jo_l (ly_mv rfl) (hd 24 rfl) ?_; refine jo_l (ly_lt rfl rfl) (hd 25 rfl) ?_; refine jo_l (ly_mv rfl) (hd 26 rfl) ?_
      refine jo_ifp 26 rfl (fun h3 => ?_) (fun h3 => ?_)
      · refine jo_s 26 rfl rfl rfl (hd 27 rfl) ?_; refine jo_s 26 rfl rfl rfl (hd 28 rfl) ?_; refine jo_s 26 rfl rfl rfl (hd 29 rfl) ?_; refine jo_l (ly_pick_t rfl rfl) (hd 30 rfl) ?_; refine jo_nil ?_; refine jc_litt rfl ?_; refine jc_seq ?_; refine jc_region ?_; refine jo_l (ly_as rfl) (hd 4 rfl) ?_; refine jo_l (ly_as rfl) (hd 5 rfl) ?_; refine jo_nil ?_; refine jc_ret ?_
        refine ⟨_, _, (.cons rfl (.cons rfl .nil)), (.t1 (.nil (fr := false) (k := .u64)) (.t1 .i .t0)), ?_⟩
        exact rfl
      · refine jo_g 26 rfl rfl (ly_mv rfl) (hd 27 rfl) ?_; refine jo_g 26 rfl rfl (ly_mv rfl) (hd 28 rfl) ?_; refine jo_g 26 rfl rfl (ly_ge rfl rfl) (hd 29 rfl) ?_; refine jo_l (ly_pick_f rfl rfl) (hd 30 rfl) ?_; refine jo_nil ?_
        refine jc_if rfl (fun h5 => ?_) (fun h5 => ?_)
        · refine jc_seq ?_; refine jc_region ?_; refine jo_l (ly_as rfl) (hd 4 rfl) ?_; refine jo_l (ly_as rfl) (hd 5 rfl) ?_; refine jo_nil ?_; refine jc_ret ?_
          refine ⟨_, _, (.cons rfl (.cons rfl .nil)), (.t1 (.nil (fr := false) (k := .u64)) (.t1 .i .t0)), ?_⟩
          exact rfl
        · have hik : i ≠ k := fun e => hbad (by rw [← e]; omega)
          refine jc_skip ?_; refine jc_region ?_; refine jo_l (ly_add rfl rfl (r := ((i + 1 : Nat) : Int)) (by rw [wrap_i64 (by omega) (by omega)]; omega)) (hd 31 rfl) ?_; refine jo_l (ly_mv rfl) (hd 20 rfl) ?_; refine jo_nil ?_
          refine ⟨i + 1, ?_, ?_, rfl, cov_n 29 rfl rfl ?_⟩
          · omega
          · omega
          · exact (.cons rfl (.u (.u (.u (.u (.u (.u (.u (.u (.u (.u (.u (.u (.u (.u .nil)))))))))))))))
    · exfalso
      omega

set_option maxHeartbeats 4000000 in
theorem rBuild_s (l : List Int) (b : Nat) (hlb : 2 ≤ b) (hb2 : b ≤ 36) (hr : rng b l) (hl : l.length ≤ 2097152) : Spec Try.prog 24 [.i .i64 (b : Int), .n false .i64 l] (fun o => o = .ret (.t [.n false .u64 (dg (hv b l)), .i .i64 0])) := by
  refine spec_of' [(0, .i .i64 (b : Int)), (1, .n false .i64 l)] rfl Try.func24 rfl (Nat.le_of_ble_eq_true rfl) fun Γ hN hds hL hR => ?_
  have hd : ∀ d, Nat.blt d 48 = true → d < Γ.N := fun d h => by rw [hN]; exact Nat.le_of_ble_eq_true h
  have hI : ∀ d : Int, 0 ≤ d → d ≤ 36 → Spec Try.prog 72 [.i .i64 d] (fun o => o = .ret (.n false .u64 (digs B32 d.toNat))) := fun d h1 h2 => by have h := rInt_s d (by omega) (by omega); rwa [show d = ((d.toNat : Nat) : Int) from (Int.toNat_of_nonneg h1).symm, rInt_v (by omega), ← show d = ((d.toNat : Nat) : Int) from (Int.toNat_of_nonneg h1).symm] at h
  have hdl : ∀ i, (digs B32 (hv b (l.take i)).toNat).length ≤ 16777216 := fun i => Nat.le_trans (digs_lenV (hv_nonneg (rng_take hr i))) (hv_fit hb2 hlb (rng_take hr i) (by rw [List.length_take]; omega))
  refine jc_seq ?_; refine jc_region ?_; refine jo_l (ly_as rfl) (hd 4 rfl) ?_; refine jo_l (ly_as rfl) (hd 5 rfl) ?_; refine jo_nil ?_; refine jc_seq ?_; refine jc_seq ?_; refine jc_region ?_; refine jo_l (ly_mv rfl) (hd 12 rfl) ?_; refine jo_l (ly_ff (ly_lt rfl rfl) (by omega)) (hd 13 rfl) ?_; refine jo_l (ly_mv rfl) (hd 14 rfl) ?_; refine jo_g 14 rfl rfl (ly_mv rfl) (hd 15 rfl) ?_; refine jo_g 14 rfl rfl (ly_ff (ly_gt rfl rfl) (by omega)) (hd 16 rfl) ?_; refine jo_l (ly_pick_f rfl rfl) (hd 17 rfl) ?_; refine jo_nil ?_; refine jc_litf rfl ?_; refine jc_skip ?_; refine jc_seq ?_; refine jc_seq ?_; refine jc_region ?_; refine jo_l (ly_mv rfl) (hd 18 rfl) ?_; refine jo_l (ly_lenn sl1039 rfl) (hd 19 rfl) ?_; refine jo_l (ly_mv rfl) (hd 20 rfl) ?_; refine jo_nil ?_; refine jc_block ?_
  refine jc_loopF (G := Nat) (fun i => i ≤ l.length) (fun i => [(20, .i .i64 (i : Int)), (4, .u), (5, .u), (7, .u), (21, .u), (22, .u), (23, .u), (24, .u), (25, .u), (26, .u), (27, .u), (28, .u), (29, .u), (30, .u), (31, .u)]) (fun _ => _) (fun i => l.length - i) 0 ?_ ?_ rfl ?_
  · exact Nat.zero_le _
  · exact (.cons rfl (.u (.u (.u (.u (.u (.u (.u (.u (.u (.u (.u (.u (.u (.u .nil)))))))))))))))
  · rintro i hi
    have hx := rng_getD (by omega) hr i
    refine jc_seq ?_; refine jc_region ?_; refine jo_l (ly_lt rfl rfl) (hd 21 rfl) ?_; refine jo_nil ?_; refine jc_seq ?_
    refine jc_if rfl (fun h2 => ?_) (fun h2 => ?_)
    · refine jc_skip ?_; refine jc_seq ?_; refine jc_block ?_; refine jc_seq ?_; refine jc_region ?_; refine jo_l (ly_ian (i := i) sl1039 rfl rfl (by first | rfl | omega) (by omega)) (hd 22 rfl) ?_; refine jo_l (ly_ldq one3 rfl rfl) (hd 23 rfl) ?_; refine jo_l (ly_as rfl) (hd 7 rfl) ?_; refine jo_nil ?_; refine jc_seq ?_; refine jc_region ?_; refine jo_l (ly_mv rfl) (hd 24 rfl) ?_; refine jo_l (ly_ff (ly_lt rfl rfl) (by omega)) (hd 25 rfl) ?_; refine jo_l (ly_mv rfl) (hd 26 rfl) ?_; refine jo_g 26 rfl rfl (ly_mv rfl) (hd 27 rfl) ?_; refine jo_g 26 rfl rfl (ly_mv rfl) (hd 28 rfl) ?_; refine jo_g 26 rfl rfl (ly_ff (ly_ge rfl rfl) (by omega)) (hd 29 rfl) ?_; refine jo_l (ly_pick_f rfl rfl) (hd 30 rfl) ?_; refine jo_nil ?_; refine jc_litf rfl ?_; refine jc_skip ?_; refine jc_region ?_; refine jo_l (ly_add rfl rfl (r := ((i + 1 : Nat) : Int)) (by rw [wrap_i64 (by omega) (by omega)]; omega)) (hd 31 rfl) ?_; refine jo_l (ly_mv rfl) (hd 20 rfl) ?_; refine jo_nil ?_
      refine ⟨i + 1, ?_, ?_, rfl, cov_n 28 rfl rfl ?_⟩
      · omega
      · omega
      · exact (.cons rfl (.u (.u (.u (.u (.u (.u (.u (.u (.u (.u (.u (.u (.u (.u .nil)))))))))))))))
    · refine jc_exit ?_; refine jc_seq ?_; refine jc_region ?_; refine jo_l (ly_as rfl) (hd 8 rfl) ?_; refine jo_nil ?_; refine jc_seq ?_; refine jc_region ?_; refine jo_l (ly_mv rfl) (hd 32 rfl) ?_
      refine jo_call Try.f72 (hI (b : Int) (by omega) (by omega)) rfl Try.func72 rfl rfl (ovL_cons rfl ovL_nil) (.cons .i .nil) (hd 33 rfl) ?_ (fun ch hp => by simp at hp)
      rintro y hy; injection hy with hy; subst hy; refine jo_l (ly_as rfl) (hd 9 rfl) ?_; refine jo_nil ?_; refine jc_seq ?_; refine jc_seq ?_; refine jc_region ?_; refine jo_l (ly_mv rfl) (hd 34 rfl) ?_; refine jo_l (ly_lenn sl1039 rfl) (hd 35 rfl) ?_; refine jo_l (ly_mv rfl) (hd 36 rfl) ?_; refine jo_nil ?_; refine jc_block ?_; refine jc_nilN 8 (k := .u64) rfl ?_
      refine jc_loopF (G := Nat) (fun i => i ≤ l.length) (fun i => [(8, .n false .u64 (digs B32 (hv b (l.take i)).toNat)), (36, .i .i64 (i : Int)), (11, .u), (37, .u), (38, .u), (39, .u), (40, .u), (41, .u), (42, .u), (43, .u), (44, .u), (45, .u), (46, .u)]) (fun _ => _) (fun i => l.length - i) 0 ?_ ?_ rfl ?_
      · exact Nat.zero_le _
      · exact (.cons (by show some (V.n _ _ _) = some (V.n _ _ _); rw [List.take_zero, hv_nil, show (0 : Int).toNat = 0 from rfl, digs_0]) (.cons rfl (.u (.u (.u (.u (.u (.u (.u (.u (.u (.u (.u .nil)))))))))))))
      · rintro i hi
        have hx := rng_getD (by omega) hr i
        have hdi := hdl i
        have hdj := hdl (i + 1)
        have hbl1 : (digs B32 b).length ≤ 1 := digs_len (by decide) 1 b (by show b < 4294967296 ^ 1; omega)
        refine jc_seq ?_; refine jc_region ?_; refine jo_l (ly_lt rfl rfl) (hd 37 rfl) ?_; refine jo_nil ?_; refine jc_seq ?_
        refine jc_if rfl (fun h4 => ?_) (fun h4 => ?_)
        · have hst := hv_nat (b := b) hr (i := i) (by omega)
          have hmu : (digs B32 ((hv b (l.take i)).toNat * b)).length ≤ 16777216 := Nat.le_trans (digs_mono (by decide) _ _ (by rw [hst]; omega)) hdj
          have hdd : (digs B32 (l.getD i 0).toNat).length ≤ 1 := digs_len (by decide) 1 _ (by show _ < 4294967296 ^ 1; omega)
          refine jc_skip ?_; refine jc_seq ?_; refine jc_block ?_; refine jc_seq ?_; refine jc_region ?_; refine jo_l (ly_ian (i := i) sl1039 rfl rfl (by first | rfl | omega) (by omega)) (hd 38 rfl) ?_; refine jo_l (ly_ldq one3 rfl rfl) (hd 39 rfl) ?_; refine jo_l (ly_as rfl) (hd 11 rfl) ?_; refine jo_nil ?_; refine jc_region ?_; refine jo_l (ly_mv rfl) (hd 40 rfl) ?_; refine jo_l (ly_mv rfl) (hd 41 rfl) ?_
          refine jo_call Try.f74 (rMul_s (hv b (l.take i)).toNat b (by omega) (by omega)) rfl Try.func74 rfl rfl (ovL_cons rfl (ovL_cons rfl ovL_nil)) (.cons .n (.cons .n .nil)) (hd 42 rfl) ?_ (fun ch hp => by simp at hp)
          rintro y hy; injection hy with hy; subst hy; refine jo_l (ly_mv rfl) (hd 43 rfl) ?_
          refine jo_call Try.f72 (hI (l.getD i 0) hx.1 (by omega)) rfl Try.func72 rfl rfl (ovL_cons rfl ovL_nil) (.cons .i .nil) (hd 44 rfl) ?_ (fun ch hp => by simp at hp)
          rintro y hy; injection hy with hy; subst hy
          refine jo_call Try.f73 (rAdd_s ((hv b (l.take i)).toNat * b) (l.getD i 0).toNat (by omega) (by omega)) rfl Try.func73 rfl rfl (ovL_cons rfl (ovL_cons rfl ovL_nil)) (.cons .n (.cons .n .nil)) (hd 45 rfl) ?_ (fun ch hp => by simp at hp)
          rintro y hy; injection hy with hy; subst hy; refine jo_l (ly_as rfl) (hd 8 rfl) ?_; refine jo_nil ?_; refine jc_region ?_; refine jo_l (ly_add rfl rfl (r := ((i + 1 : Nat) : Int)) (by rw [wrap_i64 (by omega) (by omega)]; omega)) (hd 46 rfl) ?_; refine jo_l (ly_mv rfl) (hd 36 rfl) ?_; refine jo_nil ?_
          refine ⟨i + 1, ?_, ?_, rfl, cov_n 26 rfl rfl ?_⟩
          · omega
          · omega
          · exact (.cons (by show some (V.n _ _ _) = some (V.n _ _ _); rw [hst]) (.cons rfl (.u (.u (.u (.u (.u (.u (.u (.u (.u (.u (.u .nil)))))))))))))
        · refine jc_exit ?_; refine jc_seq ?_; refine jc_region ?_; refine jo_l (ly_mv rfl) (hd 47 rfl) ?_; refine jo_l (ly_as rfl) (hd 4 rfl) ?_; refine jo_l (ly_as rfl) (hd 5 rfl) ?_; refine jo_nil ?_; refine jc_ret ?_
          refine ⟨_, _, (.cons rfl (.cons rfl .nil)), (.t1 .nn (.t1 .i .t0)), ?_⟩
          rw [List.take_of_length_le (by omega), digs_dg (hv_nonneg hr)]
end Go.Proofs.Ytcfdclehmpfkcaa.Vc

/- The contract of surdlaw05.NumeralBuilds. -/
namespace Go.Proofs.Ytcfdclehmpfkcaa.Vc
open Go Go.RowKit
set_option maxHeartbeats 4000000 in
theorem NumeralBuilds_y (l : List Int) (b : Nat) (hl : l.length ≤ 1048576) (hlb : 2 ≤ b) (hb2 : b ≤ 36) (hr : rng b l) : Spec Try.prog 6 [.i .i64 (b : Int), .n false .i64 l] (fun o => o = .ret (.b true)) := by
  refine spec_of' [(0, .i .i64 (b : Int)), (1, .n false .i64 l)] rfl Try.func6 rfl (Nat.le_of_ble_eq_true rfl) fun Γ hN hds hL hR => ?_
  have hd : ∀ d, Nat.blt d 43 = true → d < Γ.N := fun d h => by rw [hN]; exact Nat.le_of_ble_eq_true h
  have hv9 : lenV (hv b l) ≤ 67108864 := Nat.le_trans (hv_fit hb2 hlb hr (by omega)) (by decide)
  have h2 := rBuild_s l b hlb hb2 hr (by omega)
  have hlm9 := lenV_lm hv9
  have h3 := same_ok (hv b l) (by rw [← digs_dg (hv_nonneg hr)]; have := digs_lenV (hv_nonneg hr); omega) hv9
  refine jc_seq ?_; refine jc_region ?_; refine jo_l (ly_as rfl) (hd 4 rfl) ?_; refine jo_nil ?_; refine jc_seq ?_; refine jc_region ?_; refine jo_h (hy_lit (id := 0) (xs := []) el1039 rfl ovL_nil rfl (all2_of rfl) (by decide) rfl) (hd 10 rfl) ?_; refine jo_l (ly_mv rfl) (hd 11 rfl) ?_; refine jo_app (m := l.length) (zs := ints .i64 l) el1039 rfl rfl rfl rfl src_n (by show (0 + l.length) * 8 ≤ _; omega) (by show 0 + l.length ≤ 9223372036854775807; omega) (hd 12 rfl) ?_; refine jo_l (ly_as rfl) (hd 5 rfl) ?_; refine jo_nil ?_; refine jc_seq ?_; refine jc_H (H' := [⟨3, 1, 1, true, ints .i64 l⟩]) (by show [(⟨3, 1, 1, true, [] ++ ints .i64 l⟩ : Ob)] = _; rfl) ?_; refine jc_region ?_; refine jo_l (ly_mv rfl) (hd 14 rfl) ?_; refine jo_l (ly_mv rfl) (hd 15 rfl) ?_
  refine jo_callLN Try.f23 (Build_n l b hlb hb2 hr (by omega) hv9) (fun o G ⟨_, h⟩ => h ▸ scG_cons ints_sc scG_nil) (fun y G ⟨hy, _⟩ => by injection hy with hy; subst hy; rfl) rfl Try.func23 rfl rfl (ovL_cons rfl (ovL_cons rfl ovL_nil)) (.a1 .i (.a1 (.o (l := l) (l' := l) rfl (by omega) (by rw [List.drop_zero]; exact List.take_of_length_le (by omega))) .a0)) (.cons .i (.cons .n .nil)) hL (hd 16 rfl) ?_ (fun ch G hp => by simp at hp)
  rintro y G ⟨hy, rfl⟩; injection hy with hy; subst hy
  show JO _ _ _ _ ((16, .t [.o 1 0 0 (lm (hv b l)).length, .i .i64 0]) :: _) _ _
  refine jo_l (ly_mv rfl) (hd 13 rfl) ?_; refine jo_l (ly_ext rfl rfl) (hd 17 rfl) ?_; refine jo_l (ly_ext rfl rfl) (hd 18 rfl) ?_; refine jo_l (ly_as rfl) (hd 6 rfl) ?_; refine jo_l (ly_as rfl) (hd 7 rfl) ?_; refine jo_nil ?_; refine jc_seq ?_; refine jc_region ?_; refine jo_l (ly_mv rfl) (hd 20 rfl) ?_; refine jo_l (ly_mv rfl) (hd 21 rfl) ?_
  refine jo_call Try.f24 (h2) rfl Try.func24 rfl rfl (ovL_cons rfl (ovL_cons rfl ovL_nil)) (.cons .i (.cons .n .nil)) (hd 22 rfl) ?_ (fun ch hp => by simp at hp)
  rintro y hy; injection hy with hy; subst hy; refine jo_l (ly_mv rfl) (hd 19 rfl) ?_; refine jo_l (ly_ext rfl rfl) (hd 23 rfl) ?_; refine jo_l (ly_ext rfl rfl) (hd 24 rfl) ?_; refine jo_l (ly_as rfl) (hd 8 rfl) ?_; refine jo_l (ly_as rfl) (hd 9 rfl) ?_; refine jo_nil ?_; refine jc_seq ?_; refine jc_region ?_; refine jo_l (ly_mv rfl) (hd 25 rfl) ?_; refine jo_l (ly_mv rfl) (hd 26 rfl) ?_; refine jo_l (ly_mv rfl) (hd 27 rfl) ?_; refine jo_l (ly_mv rfl) (hd 28 rfl) ?_
  refine jo_callL Try.f18 (h3) rfl Try.func18 rfl rfl (ovL_cons rfl (ovL_cons rfl (ovL_cons rfl (ovL_cons rfl ovL_nil)))) (.a1 (.o (l := (lm (hv b l))) (l' := (lm (hv b l))) rfl (by omega) (by rw [List.drop_zero]; exact List.take_of_length_le (by omega))) (.a1 .i (.a1 .n (.a1 .i .a0)))) (.cons .n (.cons .i (.cons .n (.cons .i .nil)))) hL (fun y hy => by injection hy with hy; subst hy; rfl) (hd 29 rfl) ?_ (fun ch hp => by simp at hp)
  rintro y hy; injection hy with hy; subst hy; refine jo_l (ly_mv rfl) (hd 30 rfl) ?_; refine jo_g 30 rfl rfl (ly_mv rfl) (hd 31 rfl) ?_; refine jo_g 30 rfl rfl (ly_mv rfl) (hd 32 rfl) ?_
  refine jo_callLg Try.f25 30 rfl rfl (ints_s l (by omega)) rfl Try.func25 rfl rfl (ovL_cons rfl (ovL_cons rfl ovL_nil)) (.a1 (.o (l := l) (l' := l) rfl (by omega) (by rw [List.drop_zero]; exact List.take_of_length_le (by omega))) (.a1 .n .a0)) (.cons .n (.cons .n .nil)) hL (fun y hy => by injection hy with hy; subst hy; rfl) (hd 33 rfl) ?_ (fun ch hp => by simp at hp)
  rintro y hy; injection hy with hy; subst hy; refine jo_l (ly_pick_t rfl rfl) (hd 34 rfl) ?_; refine jo_l (ly_mv rfl) (hd 35 rfl) ?_; refine jo_g 35 rfl rfl (ly_mv rfl) (hd 36 rfl) ?_; refine jo_hg 35 rfl rfl (hy_lit (id := 2) (xs := [.tmp 36]) el81 rfl (ovL_cons rfl ovL_nil) rfl (all2_of rfl) (by decide) rfl) (hd 37 rfl) ?_
  refine jo_callGg Try.f19 35 rfl rfl (sel := [2, 1]) (Own_s 1 (by decide) (rsOf [(lm (hv b l))]) (fun j _ => rsOf_len (by simp <;> omega) (by decide) j)) rfl Try.func19 rfl rfl (ovL_cons rfl ovL_nil) rfl rfl (.cons rfl rfl (.cons rfl (renL_ints _ _ _) .nil)) (by decide) ow_ids ow_fresh (fun y G h => by cases h; rfl) (hd 38 rfl) ?_ (fun ch G hp => by cases hp)
  rintro y G hy; injection hy with hy; subst hy; refine jo_l (ly_pick_t rfl rfl) (hd 39 rfl) ?_; refine jo_l (ly_mv rfl) (hd 40 rfl) ?_
  refine jo_callg Try.f15 40 rfl rfl (lives5_s) rfl Try.func15 rfl rfl ovL_nil .nil (hd 41 rfl) ?_ (fun ch hp => by simp at hp)
  rintro y hy; injection hy with hy; subst hy; refine jo_l (ly_pick_t rfl rfl) (hd 42 rfl) ?_; refine jo_l (ly_as rfl) (hd 4 rfl) ?_; refine jo_nil ?_; refine jc_ret ?_
  refine ⟨_, _, (.cons rfl .nil), .b, ?_⟩
  exact rfl

set_option maxHeartbeats 4000000 in
theorem NumeralBuilds_n (l : List Int) (b : Int) (hl : l.length ≤ 1048576) (h1 : Spec Try.prog 23 [.i .i64 b, .n false .i64 l] (fun o => o = .ret (.t [.c (.slice none 0 0), .i .i64 50]))) (h2 : Spec Try.prog 24 [.i .i64 b, .n false .i64 l] (fun o => o = .ret (.t [.n false .u64 [], .i .i64 50]))) : Spec Try.prog 6 [.i .i64 b, .n false .i64 l] (fun o => o = .ret (.b true)) := by
  refine spec_of' [(0, .i .i64 b), (1, .n false .i64 l)] rfl Try.func6 rfl (Nat.le_of_ble_eq_true rfl) fun Γ hN hds hL hR => ?_
  have hd : ∀ d, Nat.blt d 43 = true → d < Γ.N := fun d h => by rw [hN]; exact Nat.le_of_ble_eq_true h
  have h3 := same_err 50 (by decide)
  refine jc_seq ?_; refine jc_region ?_; refine jo_l (ly_as rfl) (hd 4 rfl) ?_; refine jo_nil ?_; refine jc_seq ?_; refine jc_region ?_; refine jo_h (hy_lit (id := 0) (xs := []) el1039 rfl ovL_nil rfl (all2_of rfl) (by decide) rfl) (hd 10 rfl) ?_; refine jo_l (ly_mv rfl) (hd 11 rfl) ?_; refine jo_app (m := l.length) (zs := ints .i64 l) el1039 rfl rfl rfl rfl src_n (by show (0 + l.length) * 8 ≤ _; omega) (by show 0 + l.length ≤ 9223372036854775807; omega) (hd 12 rfl) ?_; refine jo_l (ly_as rfl) (hd 5 rfl) ?_; refine jo_nil ?_; refine jc_seq ?_; refine jc_H (H' := [⟨3, 1, 1, true, ints .i64 l⟩]) (by show [(⟨3, 1, 1, true, [] ++ ints .i64 l⟩ : Ob)] = _; rfl) ?_; refine jc_region ?_; refine jo_l (ly_mv rfl) (hd 14 rfl) ?_; refine jo_l (ly_mv rfl) (hd 15 rfl) ?_
  refine jo_callL Try.f23 (h1) rfl Try.func23 rfl rfl (ovL_cons rfl (ovL_cons rfl ovL_nil)) (.a1 .i (.a1 (.o (l := l) (l' := l) rfl (by omega) (by rw [List.drop_zero]; exact List.take_of_length_le (by omega))) .a0)) (.cons .i (.cons .n .nil)) hL (fun y hy => by injection hy with hy; subst hy; rfl) (hd 16 rfl) ?_ (fun ch hp => by simp at hp)
  rintro y hy; injection hy with hy; subst hy; refine jo_l (ly_mv rfl) (hd 13 rfl) ?_; refine jo_l (ly_ext rfl rfl) (hd 17 rfl) ?_; refine jo_l (ly_ext rfl rfl) (hd 18 rfl) ?_; refine jo_l (ly_as rfl) (hd 6 rfl) ?_; refine jo_l (ly_as rfl) (hd 7 rfl) ?_; refine jo_nil ?_; refine jc_seq ?_; refine jc_region ?_; refine jo_l (ly_mv rfl) (hd 20 rfl) ?_; refine jo_l (ly_mv rfl) (hd 21 rfl) ?_
  refine jo_call Try.f24 (h2) rfl Try.func24 rfl rfl (ovL_cons rfl (ovL_cons rfl ovL_nil)) (.cons .i (.cons .n .nil)) (hd 22 rfl) ?_ (fun ch hp => by simp at hp)
  rintro y hy; injection hy with hy; subst hy; refine jo_l (ly_mv rfl) (hd 19 rfl) ?_; refine jo_l (ly_ext rfl rfl) (hd 23 rfl) ?_; refine jo_l (ly_ext rfl rfl) (hd 24 rfl) ?_; refine jo_l (ly_as rfl) (hd 8 rfl) ?_; refine jo_l (ly_as rfl) (hd 9 rfl) ?_; refine jo_nil ?_; refine jc_seq ?_; refine jc_own0 (id := 1) 6 90 1 rfl rfl ?_; refine jc_H (H' := [⟨3, 1, 1, true, ints .i64 l⟩, ⟨90, 1, 0, true, ints .u64 []⟩]) rfl ?_; refine jc_region ?_; refine jo_l (ly_mv rfl) (hd 25 rfl) ?_; refine jo_l (ly_mv rfl) (hd 26 rfl) ?_; refine jo_l (ly_mv rfl) (hd 27 rfl) ?_; refine jo_l (ly_mv rfl) (hd 28 rfl) ?_
  refine jo_callL Try.f18 (h3) rfl Try.func18 rfl rfl (ovL_cons rfl (ovL_cons rfl (ovL_cons rfl (ovL_cons rfl ovL_nil)))) (.a1 (.o (l := []) (l' := []) rfl (Nat.le_refl _) rfl) (.a1 .i (.a1 .n (.a1 .i .a0)))) (.cons .n (.cons .i (.cons .n (.cons .i .nil)))) hL (fun y hy => by injection hy with hy; subst hy; rfl) (hd 29 rfl) ?_ (fun ch hp => by simp at hp)
  rintro y hy; injection hy with hy; subst hy; refine jo_l (ly_mv rfl) (hd 30 rfl) ?_; refine jo_g 30 rfl rfl (ly_mv rfl) (hd 31 rfl) ?_; refine jo_g 30 rfl rfl (ly_mv rfl) (hd 32 rfl) ?_
  refine jo_callLg Try.f25 30 rfl rfl (ints_s l (by omega)) rfl Try.func25 rfl rfl (ovL_cons rfl (ovL_cons rfl ovL_nil)) (.a1 (.o (l := l) (l' := l) rfl (by omega) (by rw [List.drop_zero]; exact List.take_of_length_le (by omega))) (.a1 .n .a0)) (.cons .n (.cons .n .nil)) hL (fun y hy => by injection hy with hy; subst hy; rfl) (hd 33 rfl) ?_ (fun ch hp => by simp at hp)
  rintro y hy; injection hy with hy; subst hy; refine jo_l (ly_pick_t rfl rfl) (hd 34 rfl) ?_; refine jo_l (ly_mv rfl) (hd 35 rfl) ?_; refine jo_g 35 rfl rfl (ly_mv rfl) (hd 36 rfl) ?_; refine jo_hg 35 rfl rfl (hy_lit (id := 2) (xs := [.tmp 36]) el81 rfl (ovL_cons rfl ovL_nil) rfl (all2_of rfl) (by decide) rfl) (hd 37 rfl) ?_
  refine jo_callGg Try.f19 35 rfl rfl (sel := [2, 1]) (Own_s 1 (by decide) (rsOf [[]]) (fun j _ => rsOf_len (by simp <;> omega) (by decide) j)) rfl Try.func19 rfl rfl (ovL_cons rfl ovL_nil) rfl rfl (.cons rfl rfl (.cons rfl (renL_ints _ _ _) .nil)) (by decide) ow_ids ow_fresh (fun y G h => by cases h; rfl) (hd 38 rfl) ?_ (fun ch G hp => by cases hp)
  rintro y G hy; injection hy with hy; subst hy; refine jo_l (ly_pick_t rfl rfl) (hd 39 rfl) ?_; refine jo_l (ly_mv rfl) (hd 40 rfl) ?_
  refine jo_callg Try.f15 40 rfl rfl (lives5_s) rfl Try.func15 rfl rfl ovL_nil .nil (hd 41 rfl) ?_ (fun ch hp => by simp at hp)
  rintro y hy; injection hy with hy; subst hy; refine jo_l (ly_pick_t rfl rfl) (hd 42 rfl) ?_; refine jo_l (ly_as rfl) (hd 4 rfl) ?_; refine jo_nil ?_; refine jc_ret ?_
  refine ⟨_, _, (.cons rfl .nil), .b, ?_⟩
  exact rfl

set_option maxHeartbeats 4000000 in
theorem NumeralBuilds_d (l : List Int) (b : Int) (hl : l.length ≤ 1048576) (h1 : Spec Try.prog 23 [.i .i64 b, .n false .i64 l] (fun o => o = .ret (.t [.c (.slice none 0 0), .i .i64 51]))) (h2 : Spec Try.prog 24 [.i .i64 b, .n false .i64 l] (fun o => o = .ret (.t [.n false .u64 [], .i .i64 51]))) : Spec Try.prog 6 [.i .i64 b, .n false .i64 l] (fun o => o = .ret (.b true)) := by
  refine spec_of' [(0, .i .i64 b), (1, .n false .i64 l)] rfl Try.func6 rfl (Nat.le_of_ble_eq_true rfl) fun Γ hN hds hL hR => ?_
  have hd : ∀ d, Nat.blt d 43 = true → d < Γ.N := fun d h => by rw [hN]; exact Nat.le_of_ble_eq_true h
  have h3 := same_err 51 (by decide)
  refine jc_seq ?_; refine jc_region ?_; refine jo_l (ly_as rfl) (hd 4 rfl) ?_; refine jo_nil ?_; refine jc_seq ?_; refine jc_region ?_; refine jo_h (hy_lit (id := 0) (xs := []) el1039 rfl ovL_nil rfl (all2_of rfl) (by decide) rfl) (hd 10 rfl) ?_; refine jo_l (ly_mv rfl) (hd 11 rfl) ?_; refine jo_app (m := l.length) (zs := ints .i64 l) el1039 rfl rfl rfl rfl src_n (by show (0 + l.length) * 8 ≤ _; omega) (by show 0 + l.length ≤ 9223372036854775807; omega) (hd 12 rfl) ?_; refine jo_l (ly_as rfl) (hd 5 rfl) ?_; refine jo_nil ?_; refine jc_seq ?_; refine jc_H (H' := [⟨3, 1, 1, true, ints .i64 l⟩]) (by show [(⟨3, 1, 1, true, [] ++ ints .i64 l⟩ : Ob)] = _; rfl) ?_; refine jc_region ?_; refine jo_l (ly_mv rfl) (hd 14 rfl) ?_; refine jo_l (ly_mv rfl) (hd 15 rfl) ?_
  refine jo_callL Try.f23 (h1) rfl Try.func23 rfl rfl (ovL_cons rfl (ovL_cons rfl ovL_nil)) (.a1 .i (.a1 (.o (l := l) (l' := l) rfl (by omega) (by rw [List.drop_zero]; exact List.take_of_length_le (by omega))) .a0)) (.cons .i (.cons .n .nil)) hL (fun y hy => by injection hy with hy; subst hy; rfl) (hd 16 rfl) ?_ (fun ch hp => by simp at hp)
  rintro y hy; injection hy with hy; subst hy; refine jo_l (ly_mv rfl) (hd 13 rfl) ?_; refine jo_l (ly_ext rfl rfl) (hd 17 rfl) ?_; refine jo_l (ly_ext rfl rfl) (hd 18 rfl) ?_; refine jo_l (ly_as rfl) (hd 6 rfl) ?_; refine jo_l (ly_as rfl) (hd 7 rfl) ?_; refine jo_nil ?_; refine jc_seq ?_; refine jc_region ?_; refine jo_l (ly_mv rfl) (hd 20 rfl) ?_; refine jo_l (ly_mv rfl) (hd 21 rfl) ?_
  refine jo_call Try.f24 (h2) rfl Try.func24 rfl rfl (ovL_cons rfl (ovL_cons rfl ovL_nil)) (.cons .i (.cons .n .nil)) (hd 22 rfl) ?_ (fun ch hp => by simp at hp)
  rintro y hy; injection hy with hy; subst hy; refine jo_l (ly_mv rfl) (hd 19 rfl) ?_; refine jo_l (ly_ext rfl rfl) (hd 23 rfl) ?_; refine jo_l (ly_ext rfl rfl) (hd 24 rfl) ?_; refine jo_l (ly_as rfl) (hd 8 rfl) ?_; refine jo_l (ly_as rfl) (hd 9 rfl) ?_; refine jo_nil ?_; refine jc_seq ?_; refine jc_own0 (id := 1) 6 90 1 rfl rfl ?_; refine jc_H (H' := [⟨3, 1, 1, true, ints .i64 l⟩, ⟨90, 1, 0, true, ints .u64 []⟩]) rfl ?_; refine jc_region ?_; refine jo_l (ly_mv rfl) (hd 25 rfl) ?_; refine jo_l (ly_mv rfl) (hd 26 rfl) ?_; refine jo_l (ly_mv rfl) (hd 27 rfl) ?_; refine jo_l (ly_mv rfl) (hd 28 rfl) ?_
  refine jo_callL Try.f18 (h3) rfl Try.func18 rfl rfl (ovL_cons rfl (ovL_cons rfl (ovL_cons rfl (ovL_cons rfl ovL_nil)))) (.a1 (.o (l := []) (l' := []) rfl (Nat.le_refl _) rfl) (.a1 .i (.a1 .n (.a1 .i .a0)))) (.cons .n (.cons .i (.cons .n (.cons .i .nil)))) hL (fun y hy => by injection hy with hy; subst hy; rfl) (hd 29 rfl) ?_ (fun ch hp => by simp at hp)
  rintro y hy; injection hy with hy; subst hy; refine jo_l (ly_mv rfl) (hd 30 rfl) ?_; refine jo_g 30 rfl rfl (ly_mv rfl) (hd 31 rfl) ?_; refine jo_g 30 rfl rfl (ly_mv rfl) (hd 32 rfl) ?_
  refine jo_callLg Try.f25 30 rfl rfl (ints_s l (by omega)) rfl Try.func25 rfl rfl (ovL_cons rfl (ovL_cons rfl ovL_nil)) (.a1 (.o (l := l) (l' := l) rfl (by omega) (by rw [List.drop_zero]; exact List.take_of_length_le (by omega))) (.a1 .n .a0)) (.cons .n (.cons .n .nil)) hL (fun y hy => by injection hy with hy; subst hy; rfl) (hd 33 rfl) ?_ (fun ch hp => by simp at hp)
  rintro y hy; injection hy with hy; subst hy; refine jo_l (ly_pick_t rfl rfl) (hd 34 rfl) ?_; refine jo_l (ly_mv rfl) (hd 35 rfl) ?_; refine jo_g 35 rfl rfl (ly_mv rfl) (hd 36 rfl) ?_; refine jo_hg 35 rfl rfl (hy_lit (id := 2) (xs := [.tmp 36]) el81 rfl (ovL_cons rfl ovL_nil) rfl (all2_of rfl) (by decide) rfl) (hd 37 rfl) ?_
  refine jo_callGg Try.f19 35 rfl rfl (sel := [2, 1]) (Own_s 1 (by decide) (rsOf [[]]) (fun j _ => rsOf_len (by simp <;> omega) (by decide) j)) rfl Try.func19 rfl rfl (ovL_cons rfl ovL_nil) rfl rfl (.cons rfl rfl (.cons rfl (renL_ints _ _ _) .nil)) (by decide) ow_ids ow_fresh (fun y G h => by cases h; rfl) (hd 38 rfl) ?_ (fun ch G hp => by cases hp)
  rintro y G hy; injection hy with hy; subst hy; refine jo_l (ly_pick_t rfl rfl) (hd 39 rfl) ?_; refine jo_l (ly_mv rfl) (hd 40 rfl) ?_
  refine jo_callg Try.f15 40 rfl rfl (lives5_s) rfl Try.func15 rfl rfl ovL_nil .nil (hd 41 rfl) ?_ (fun ch hp => by simp at hp)
  rintro y hy; injection hy with hy; subst hy; refine jo_l (ly_pick_t rfl rfl) (hd 42 rfl) ?_; refine jo_l (ly_as rfl) (hd 4 rfl) ?_; refine jo_nil ?_; refine jc_ret ?_
  refine ⟨_, _, (.cons rfl .nil), .b, ?_⟩
  exact rfl

theorem NumeralBuilds_s (v : Int) (l : List Int) (hl : l.length ≤ 1048576) : Spec Try.prog 6 [.i .i64 v, .n false .i64 l] (fun o => o = .ret (.b true)) := by
  by_cases h : 2 ≤ v ∧ v ≤ 36
  · obtain ⟨b, rfl⟩ : ∃ b : Nat, v = (b : Int) := ⟨v.toNat, by omega⟩
    by_cases hk : ∃ k, k < l.length ∧ ¬ (0 ≤ l.getD k 0 ∧ l.getD k 0 < b)
    · obtain ⟨k, ⟨h1, h2⟩, h3⟩ := least hk
      have hpre : ∀ i, i < k → 0 ≤ l.getD i 0 ∧ l.getD i 0 < b := fun i hi => Classical.byContradiction fun h4 => by have := h3 i ⟨by omega, h4⟩; omega
      exact NumeralBuilds_d l b hl (Build_d l b k (by omega) (by omega) h1 (by omega) h2) (rBuild_d l b k (by omega) (by omega) h1 (by omega) h2)
    · refine NumeralBuilds_y l b hl (by omega) (by omega) fun x hx => ?_
      obtain ⟨i, hi, rfl⟩ := List.getElem_of_mem hx
      have h1 : 0 ≤ l.getD i 0 ∧ l.getD i 0 < b := Classical.byContradiction fun h2 => hk ⟨i, hi, h2⟩
      rw [List.getD_eq_getElem?_getD, List.getElem?_eq_getElem hi] at h1
      exact h1
  · exact NumeralBuilds_n l v hl (Build_b l v h) (rBuild_b l v h)
end Go.Proofs.Ytcfdclehmpfkcaa.Vc

/- The law NumeralBuilds of every input of bulk at most 1048576: it returns true, and the input reads as it did. -/
namespace Go.Proofs.Ytcfdclehmpfkcaa.numeralBuilds
open Go Go.ChangeShapes Go.WideShapes Go.ChangeAt Go.RowKit
open Go.ChangeMaps (open_string shut_string)

theorem own : ownKnob Try.prog.godebug = none := by kernel_rfl
theorem laidOut : laidOutB Try.prog = true := by kernel_rfl
set_option maxRecDepth 100000 in
theorem lifted (os : Os) (started : os.Started) (H : Type) (enc : TypeId × Value → H) (F : Stop.Interp) :
    ReturnsInHanded {} Try.checked os 6 .any ((Rows.OpenSpec.upto Rows.numeralBuildsSpec).pre6 enc Try.prog Try.f6 Rows.numeralBuildsUptoRow.domain false) (((Rows.OpenSpec.upto Rows.numeralBuildsSpec).at F).post enc Try.prog Try.f6 false true false false) := by
  refine returnsInHanded_of_cond (C := Try.checked) (s := Rows.OpenSpec.upto Rows.numeralBuildsSpec) (k := Rows.uptoSmall) rfl own started (by kernel_rfl) Try.func6
    (OpenSpec.witness (enc := enc) (C := Try.checked) (s := Rows.OpenSpec.upto Rows.numeralBuildsSpec) (k := Rows.uptoSmall) rfl false ⟨#[], #[.int .i64 0, .slice none 0 0], []⟩ 8 (by kernel_rfl) (by kernel_rfl) (by kernel_rfl)
      (x := ([.lit (.int .i64 0), .nil], [], [])) (by kernel_rfl) rfl (by kernel_rfl)) ?_
  intro W base args ds gs before hval0 hW _ hk _
  have hval : ∀ (j : Nat) t v, Try.f6.params[j]? = some t → args[j]? = some v → Value.okWide Try.prog W .any base t v := hval0
  have hW' := hW
  obtain ⟨p, q, hA0, hV, rfl, hfz, hnd⟩ := hW
  have hA : DataW.TrodAll enc Try.prog W 0 (fun _ => true) true Try.f6.params.toList args.toList ds p := hA0
  rw [Try.params6] at hA hval
  obtain ⟨v0, vs0, d0, ds0, p0, q0, hargs, rfl, rfl, h0, r0⟩ := trodAll_cons hA
  obtain ⟨v1, vs1, d1, ds1, p1, q1, rfl, rfl, rfl, h1, r1⟩ := trodAll_cons r0
  obtain ⟨rfl, rfl, rfl⟩ := trodAll_nil r1
  obtain rfl : args = #[v0, v1] := by cases args; simp_all
  obtain ⟨rfl, rfl⟩ := trodVars_none hV
  obtain ⟨a0, rfl, rfl, rfl, w0⟩ := open_int Try.underlying3 (hval 0 3 v0 rfl rfl) h0
  have hk1 := h1
  obtain ⟨l1, rel1, hb1, ul1⟩ := Vc.openN1039 (hval 1 39 v1 rfl rfl) h1
  clear hA0 hval0
  simp only [List.append_nil] at hW' hk
  refine (Vc.spec_calls (vals := [.int .i64 a0, v1]) (Vc.NumeralBuilds_s a0 l1 (Vc.short1i hk hb1)) W (⟨_, _, rfl, rfl, ⟨_, _, rfl, rel1, rfl⟩⟩)).mono fun e W' ⟨he, hb⟩ => ?_; subst he
  have hlt : ∀ x ∈ p1, x.block < W.heap.size := fun x hx => by simpa using hW'.lt x (by simpa using hx)
  exact ⟨_, rfl, Vc.post_of_below (pa := ([] ++ (p1 ++ []))) (pv := []) hW' (fun _ _ _ => (trodAll_cons_mk (shut_bool Try.underlying4 _) trodAll_mk0)) (fun sp hsp => (trodAll_cons_mk (shut_int Try.underlying3 w0) (trodAll_cons_mk (Go.WideElems.Trod_stays laidOut (by kernel_rfl) (of_decide_eq_true (by kernel_rfl)) hk1 (fun x hx => hb.same (hlt x (by simp [hx]))) (fun x hx => hsp x (by simp [hx]))) trodAll_mk0))) (fun _ _ => rfl) (by simp) hb⟩

theorem proved : Rows.NumeralBuildsUptoSaid :=
  OpenClaim.holds_of_cond 6 Try.f6 rfl rfl rfl rfl rfl rfl rfl ⟨rfl, rfl, rfl, rfl, rfl⟩ rfl rfl rfl rfl rfl (by kernel_rfl) Try.func6 (by kernel_rfl)
    (of_decide_eq_true (by kernel_rfl)) (by unfold Func.isWrapper; first | (rw [if_pos (by decide +kernel)]; kernel_rfl) | (rw [if_neg (by decide +kernel)]; exact ⟨rfl, rfl⟩))
    (fun os started H enc _ F => lifted os started H enc F)
end Go.Proofs.Ytcfdclehmpfkcaa.numeralBuilds
