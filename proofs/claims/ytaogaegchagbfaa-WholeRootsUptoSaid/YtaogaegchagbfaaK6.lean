/- The law WholeRoots of surdtop returns true for every natural and every index of bulk at most 1048576 Texts joined: Qd, Qe, Qy, Za, Qf, Zb, Zc, Zd, Zf, Zg, Zh, Zi, Zj, Zo, Qg, Qh, Qi, Qj, Qk, Ql, Qn, Qo, Qp, Qs, Qt, Qu, Qv, Qw, Qx, Sa, Sc, Se, Sf, Sg, Sh, Si, Sk, Sm, Sn, So. -/
import Derived.Test.YtaogaegchagbfaaK5
set_option linter.unusedVariables false
set_option linter.unusedSimpArgs false
/- Contracts of numeral.word, nat.Through. -/
namespace Go.Proofs.Ytaogaegchagbfaa.Vc
open Go Go.RowKit
set_option maxHeartbeats 4000000 in
theorem word_s (b : Nat) (hb : 2 ≤ b) (hb2 : b ≤ 36) : Spec Try.prog 124 [.i .i64 (b : Int)] (fun o => ∃ n : Nat, o = .ret (.t [.i .u64 ((b ^ n : Nat) : Int), .i .i64 (n : Int)]) ∧ 1 ≤ n ∧ n ≤ 63 ∧ b ^ n ≤ 9223372036854775808) := by
  refine spec_of' [(0, .i .i64 (b : Int))] rfl Try.func124 rfl (Nat.le_of_ble_eq_true rfl) fun Γ hN hds hL hR => ?_
  have hd : ∀ d, Nat.blt d 19 = true → d < Γ.N := fun d h => by rw [hN]; exact Nat.le_of_ble_eq_true h
  refine jc_seq ?_; refine jc_region ?_; refine jo_l (ly_as rfl) (hd 2 rfl) ?_; refine jo_l (ly_as rfl) (hd 3 rfl) ?_; refine jo_nil ?_; refine jc_seq ?_; refine jc_region ?_; refine jo_l (ly_as rfl) (hd 4 rfl) ?_; refine jo_l (ly_as rfl) (hd 5 rfl) ?_; refine jo_nil ?_; refine jc_seq ?_; refine jc_block ?_
  refine jc_loopF (G := Nat × Nat) (fun g => g.2 = b ^ g.1 ∧ 2 ^ g.1 ≤ g.2 ∧ g.2 ≤ 9223372036854775808 ∧ g.1 ≤ 63) (fun g => [(4, .i .u64 (g.2 : Int)), (5, .i .i64 (g.1 : Int)), (6, .u), (7, .u), (8, .u), (9, .u), (10, .u), (11, .u), (12, .u), (13, .u), (14, .u), (15, .u), (16, .u)]) (fun _ => _) (fun g => 64 - g.1) (0, 1) ?_ ?_ rfl ?_
  · exact ⟨rfl, Nat.le_refl _, by decide, by decide⟩
  · exact (.cons rfl (.cons rfl (.u (.u (.u (.u (.u (.u (.u (.u (.u (.u (.u .nil)))))))))))))
  · rintro ⟨n, p⟩ ⟨hc1, hc2, hc3, hc4⟩
    dsimp only at hc1 hc2 hc3 hc4
    refine jc_seq ?_; refine jc_seq ?_; refine jc_region ?_; refine jo_l (ly_mv rfl) (hd 6 rfl) ?_; refine jo_l (ly_mv rfl) (hd 7 rfl) ?_; refine jo_l (ly_conv und3 und82 rfl (r := (b : Int)) (wrap_u64 (by omega) (by omega))) (hd 8 rfl) ?_; refine jo_l (ly_quo rfl rfl (by omega) (r := ((9223372036854775808 / b : Nat) : Int)) (by rw [show ((9223372036854775808 : Int).tdiv (b : Int)) = ((9223372036854775808 / b : Nat) : Int) from rfl]; exact wrap_u64 (Int.natCast_nonneg _) (by have := Nat.div_le_self 9223372036854775808 b; generalize 9223372036854775808 / b = q at *; omega))) (hd 9 rfl) ?_; refine jo_l (ly_le rfl rfl) (hd 10 rfl) ?_; refine jo_nil ?_
    refine jc_if rfl (fun h1 => ?_) (fun h1 => ?_)
    · obtain ⟨hs1, hs2, hs3⟩ := w_step hb hc1 hc2 (by omega : p ≤ 9223372036854775808 / b)
      refine jc_skip ?_; refine jc_block ?_; refine jc_seq ?_; refine jc_region ?_; refine jo_l (ly_mv rfl) (hd 11 rfl) ?_; refine jo_l (ly_mv rfl) (hd 12 rfl) ?_; refine jo_l (ly_conv und3 und82 rfl (r := (b : Int)) (wrap_u64 (by omega) (by omega))) (hd 13 rfl) ?_; refine jo_l (ly_mul rfl rfl (r := ((p * b : Nat) : Int)) (by dsimp only; rw [← Int.natCast_mul]; exact wrap_u64 (by omega) (by omega))) (hd 14 rfl) ?_; refine jo_l (ly_as rfl) (hd 4 rfl) ?_; refine jo_nil ?_; refine jc_region ?_; refine jo_l (ly_mv rfl) (hd 15 rfl) ?_; refine jo_l (ly_add rfl rfl (r := ((n + 1 : Nat) : Int)) (by rw [wrap_i64 (by omega) (by omega)]; omega)) (hd 16 rfl) ?_; refine jo_l (ly_as rfl) (hd 5 rfl) ?_; refine jo_nil ?_
      refine ⟨(n + 1, p * b), ?_, ?_, rfl, cov_n 26 rfl rfl ?_⟩
      · exact ⟨hs1, hs2, hs3, w63 hs2 hs3⟩
      · show 64 - (n + 1) < 64 - n
        omega
      · exact (.cons rfl (.cons rfl (.u (.u (.u (.u (.u (.u (.u (.u (.u (.u (.u .nil)))))))))))))
    · have hn1 := w_exit hb hb2 hc1 (by omega : ¬ p ≤ 9223372036854775808 / b)
      refine jc_exit ?_; refine jc_seq ?_; refine jc_region ?_; refine jo_l (ly_mv rfl) (hd 17 rfl) ?_; refine jo_l (ly_mv rfl) (hd 18 rfl) ?_; refine jo_l (ly_as rfl) (hd 2 rfl) ?_; refine jo_l (ly_as rfl) (hd 3 rfl) ?_; refine jo_nil ?_; refine jc_ret ?_
      refine ⟨_, _, (.cons rfl (.cons rfl .nil)), (.t1 .i (.t1 .i .t0)), ?_⟩
      exact ⟨n, by rw [hc1], hn1, hc4, by omega⟩

set_option maxHeartbeats 4000000 in
theorem Through_s (l : List Int) (d : Int) (hl : l.length < 1073741824) (hu : u64s l) (hd0 : 0 < d) (hd1 : d < 18446744073709551616) (hf : lenN l ≤ 67108864) : Spec Try.prog 83 [.n false .u64 l, .i .u64 d] (fun o => o = .ret (.t [.n false .u64 (lm (vl l / d)), .i .u64 (vl l % d), .i .i64 0])) := by
  refine spec_of' [(0, .n false .u64 l), (1, .i .u64 d)] rfl Try.func83 rfl (Nat.le_of_ble_eq_true rfl) fun Γ hN hds hL hR => ?_
  have hd : ∀ d, Nat.blt d 48 = true → d < Γ.N := fun d h => by rw [hN]; exact Nat.le_of_ble_eq_true h
  have hm := trm_len l
  have uT := u64s_trm hu
  have hde := dv_end (d := d) uT hd0
  rw [vl_trm] at hde
  have hv0 := vl_nonneg hu
  have hq : (vl l / d).natAbs ≤ (vl l).natAbs := by have := Int.ediv_nonneg hv0 (show 0 ≤ d by omega); have := Int.ediv_le_self d hv0; omega
  have hfq : lenV (vl l / d) ≤ 67108864 := Nat.le_trans (lenV_mono hq) (by rw [← lenN_lenV hu rfl]; exact hf)
  refine jc_seq ?_; refine jc_region ?_; refine jo_l (ly_as rfl) (hd 4 rfl) ?_; refine jo_l (ly_as rfl) (hd 5 rfl) ?_; refine jo_l (ly_as rfl) (hd 6 rfl) ?_; refine jo_nil ?_; refine jc_seq ?_; refine jc_seq ?_; refine jc_region ?_; refine jo_l (ly_mv rfl) (hd 11 rfl) ?_; refine jo_l (ly_ff (ly_eq rfl rfl) (by omega)) (hd 12 rfl) ?_; refine jo_nil ?_; refine jc_litf rfl ?_; refine jc_skip ?_; refine jc_seq ?_; refine jc_region ?_; refine jo_l (ly_mv rfl) (hd 13 rfl) ?_
  refine jo_call Try.f44 (trim_s l (by omega)) rfl Try.func44 rfl rfl (ovL_cons rfl ovL_nil) (.cons .n .nil) (hd 14 rfl) ?_ (fun ch hp => by simp at hp)
  rintro y hy; injection hy with hy; subst hy; refine jo_l (ly_as rfl) (hd 0 rfl) ?_; refine jo_nil ?_; refine jc_seq ?_; refine jc_region ?_; refine jo_l (ly_mv rfl) (hd 15 rfl) ?_; refine jo_l (ly_lenn sl28 rfl) (hd 16 rfl) ?_; refine jo_h (hy_mk (m := (trm l).length) el28 rfl rfl rfl (by show 8 * (trm l).length ≤ _; omega) (by unfold maxLen; omega) rfl) (hd 17 rfl) ?_; refine jo_l (ly_as rfl) (hd 7 rfl) ?_; refine jo_nil ?_; refine jc_seq ?_; refine jc_region ?_; refine jo_l (ly_as rfl) (hd 8 rfl) ?_; refine jo_nil ?_; refine jc_seq ?_; refine jc_seq ?_; refine jc_region ?_; refine jo_l (ly_mv rfl) (hd 18 rfl) ?_; refine jo_l (ly_lenn sl28 rfl) (hd 19 rfl) ?_; refine jo_l (ly_sub rfl rfl (wrap_i64 (by omega) (by omega))) (hd 20 rfl) ?_; refine jo_l (ly_as rfl) (hd 9 rfl) ?_; refine jo_nil ?_; refine jc_block ?_; refine jc_H (H' := [⟨33, 1, 0, true, ints .u64 (List.replicate (trm l).length 0 ++ (dvN (trm l) d ((trm l).length - (trm l).length)).1)⟩]) (by rw [Nat.sub_self]; show _ = [(⟨33, 1, 0, true, ints .u64 (List.replicate (trm l).length 0 ++ [])⟩ : Ob)]; rw [List.append_nil]; rfl) ?_
  refine jc_loopF (G := Nat) (fun k => k ≤ (trm l).length) (fun k => [(8, .i .u64 (dvN (trm l) d ((trm l).length - k)).2), (9, .i .i64 ((k : Int) - 1)), (21, .u), (22, .u), (23, .u), (24, .u), (25, .u), (26, .u), (27, .u), (28, .u), (29, .u), (30, .u), (31, .u), (32, .u), (33, .u), (34, .u), (35, .u), (36, .u), (37, .u)]) (fun k => [⟨33, 1, 0, true, ints .u64 (List.replicate k 0 ++ (dvN (trm l) d ((trm l).length - k)).1)⟩]) (fun k => k) (trm l).length ?_ ?_ rfl ?_
  · exact Nat.le_refl _
  · exact (.cons (by show some (V.i .u64 0) = some (V.i .u64 (dvN (trm l) d ((trm l).length - (trm l).length)).2); rw [Nat.sub_self]; rfl) (.cons rfl (.u (.u (.u (.u (.u (.u (.u (.u (.u (.u (.u (.u (.u (.u (.u (.u (.u .nil)))))))))))))))))))
  · rintro k hc1
    have hr := dvN_r (a := trm l) hd0 ((trm l).length - k)
    have hx := u64s_getD uT (k - 1)
    refine jc_seq ?_; refine jc_seq ?_; refine jc_region ?_; refine jo_l (ly_mv rfl) (hd 21 rfl) ?_; refine jo_l (ly_ge rfl rfl) (hd 22 rfl) ?_; refine jo_nil ?_
    refine jc_if rfl (fun h2 => ?_) (fun h2 => ?_)
    · refine jc_skip ?_; refine jc_seq ?_; refine jc_block ?_; refine jc_region ?_; refine jo_l (ly_mv rfl) (hd 26 rfl) ?_; refine jo_l (ly_mv rfl) (hd 27 rfl) ?_; refine jo_l (ly_mv rfl) (hd 28 rfl) ?_; refine jo_l (ly_mv rfl) (hd 29 rfl) ?_; refine jo_l (ly_mv rfl) (hd 30 rfl) ?_; refine jo_l (ly_ian (i := k - 1) sl28 rfl rfl (by omega) (by omega)) (hd 31 rfl) ?_; refine jo_l (ly_ldq one82 rfl rfl) (hd 32 rfl) ?_; refine jo_l (ly_mv rfl) (hd 33 rfl) ?_
      refine jo_call Try.f114 (Div64_s (dvN (trm l) d ((trm l).length - k)).2 ((trm l).getD (k - 1) 0) d hr.1 hr.2 hx.1 hx.2 hd1) rfl Try.func114 rfl rfl (ovL_cons rfl (ovL_cons rfl (ovL_cons rfl ovL_nil))) (.cons .i (.cons .i (.cons .i .nil))) (hd 34 rfl) ?_ (fun ch hp => by simp at hp)
      rintro y hy; injection hy with hy; subst hy; refine jo_l (ly_mv rfl) (hd 25 rfl) ?_; refine jo_l (ly_ext rfl rfl) (hd 35 rfl) ?_; refine jo_l (ly_ext rfl rfl) (hd 36 rfl) ?_; refine jo_l (ly_ia (i := k - 1) sl28 rfl rfl rfl (by omega) (by omega) rfl) (hd 37 rfl) ?_; refine jo_st (sy_storei rfl rfl rfl one82 (by simp only [List.length_append, List.length_replicate, dvN_len]; omega)) ?_; refine jo_l (ly_as rfl) (hd 8 rfl) ?_; refine jo_nil ?_; refine jc_region ?_; refine jo_l (ly_mv rfl) (hd 23 rfl) ?_; refine jo_l (ly_sub rfl rfl (wrap_i64 (by omega) (by omega))) (hd 24 rfl) ?_; refine jo_l (ly_as rfl) (hd 9 rfl) ?_; refine jo_nil ?_
      refine ⟨k - 1, ?_, ?_, (by show [(⟨33, 1, 0, true, ints .u64 _⟩ : Ob)] = [⟨33, 1, 0, true, ints .u64 _⟩]; rw [dv_row (by omega), dv_step (by omega) hc1]), cov_n 38 rfl rfl ?_⟩
      · omega
      · omega
      · exact (.cons (by show some (V.i .u64 _) = some (V.i .u64 _); rw [dv_step (by omega) hc1]) (.cons (by show some (V.i .i64 _) = some (V.i .i64 _); congr 2; omega) (.u (.u (.u (.u (.u (.u (.u (.u (.u (.u (.u (.u (.u (.u (.u (.u (.u .nil)))))))))))))))))))
    · obtain rfl : k = 0 := by omega
      refine jc_exit ?_; refine jc_seq ?_; refine jc_frz (k := .u64) (l := List.replicate 0 0 ++ (dvN (trm l) d ((trm l).length - 0)).1) (l' := (dvN (trm l) d (trm l).length).1) 7 rfl rfl (by simp [dvN_len]) (by rw [Nat.sub_zero, List.drop_zero]; show List.take _ (dvN (trm l) d (trm l).length).1 = _; rw [List.take_of_length_le (by rw [dvN_len]; exact Nat.le_refl _)]) hL ?_; refine jc_region ?_; refine jo_l (ly_mv rfl) (hd 39 rfl) ?_
      refine jo_call Try.f46 (told_ok (dvN (trm l) d (trm l).length).1 (by rw [dvN_len]; omega) (dvN_u uT hd0 _) (by rw [hde.1, lenN_lm]; exact hfq)) rfl Try.func46 rfl rfl (ovL_cons rfl ovL_nil) (.cons .n .nil) (hd 40 rfl) ?_ (fun ch hp => by simp at hp)
      rintro y hy; injection hy with hy; subst hy; refine jo_l (ly_mv rfl) (hd 38 rfl) ?_; refine jo_l (ly_ext rfl rfl) (hd 41 rfl) ?_; refine jo_l (ly_ext rfl rfl) (hd 42 rfl) ?_; refine jo_l (ly_as rfl) (hd 7 rfl) ?_; refine jo_l (ly_as rfl) (hd 10 rfl) ?_; refine jo_nil ?_; refine jc_seq ?_; refine jc_seq ?_; refine jc_region ?_; refine jo_l (ly_mv rfl) (hd 43 rfl) ?_; refine jo_l (ly_ff (ly_ne rfl rfl) (by decide)) (hd 44 rfl) ?_; refine jo_nil ?_; refine jc_litf rfl ?_; refine jc_skip ?_; refine jc_seq ?_; refine jc_region ?_; refine jo_l (ly_mv rfl) (hd 46 rfl) ?_; refine jo_l (ly_mv rfl) (hd 47 rfl) ?_; refine jo_l (ly_as rfl) (hd 4 rfl) ?_; refine jo_l (ly_as rfl) (hd 5 rfl) ?_; refine jo_l (ly_as rfl) (hd 6 rfl) ?_; refine jo_nil ?_; refine jc_ret ?_
      refine ⟨_, _, (.cons rfl (.cons rfl (.cons rfl .nil))), (.t1 .nn (.t1 .i (.t1 .i .t0))), ?_⟩
      rw [Nat.sub_zero, hde.1, hde.2]
end Go.Proofs.Ytaogaegchagbfaa.Vc

/- Contract of numeral.digits. -/
namespace Go.Proofs.Ytaogaegchagbfaa.Vc
open Go Go.RowKit
set_option maxHeartbeats 4000000 in
theorem digits_n (l : List Int) (b m : Nat) (hl : l.length ≤ 1048576) (hu : u64s l) (hb : 2 ≤ b) (hb2 : b ≤ 36) (hm : m ≤ 1099511627776) : SpecM Try.prog 109 [.n false .u64 l, .i .i64 (b : Int), .i .i64 (m : Int)] [] (fun o G => o = .ret (.o 0 0 0 (hdg b m (vl l).toNat).length) ∧ G = [⟨3, 1, 0, true, ints .i64 (hdg b m (vl l).toNat)⟩]) := by
  refine specS_of [(0, .n false .u64 l), (1, .i .i64 (b : Int)), (2, .i .i64 (m : Int))] rfl Try.func109 rfl (Nat.le_of_ble_eq_true rfl) fun Γ hN hds hL hR => ?_
  have hd : ∀ d, Nat.blt d 102 = true → d < Γ.N := fun d h => by rw [hN]; exact Nat.le_of_ble_eq_true h
  have hlenl := lenN_le l
  have hv0 := vl_nonneg hu
  refine jc_seq ?_; refine jc_region ?_; refine jo_l (ly_as rfl) (hd 6 rfl) ?_; refine jo_nil ?_; refine jc_seq ?_; refine jc_region ?_; refine jo_l (ly_as rfl) (hd 7 rfl) ?_; refine jo_nil ?_; refine jc_seq ?_; refine jc_own0 (id := 0) 7 3 1 rfl rfl ?_; refine jc_region ?_; refine jo_l (ly_mv rfl) (hd 17 rfl) ?_
  refine jo_call Try.f124 (word_s b hb hb2) rfl Try.func124 rfl rfl (ovL_cons rfl ovL_nil) (.cons .i .nil) (hd 18 rfl) ?_ (fun ch hp => by simp at hp)
  rintro y ⟨n, hy, hn1, hn2, hn3⟩; injection hy with hy; subst hy; refine jo_l (ly_mv rfl) (hd 16 rfl) ?_; refine jo_l (ly_ext rfl rfl) (hd 19 rfl) ?_; refine jo_l (ly_ext rfl rfl) (hd 20 rfl) ?_; refine jo_l (ly_as rfl) (hd 8 rfl) ?_; refine jo_l (ly_as rfl) (hd 9 rfl) ?_; refine jo_nil ?_; refine jc_seq ?_; refine jc_block ?_
  refine jc_loopD (G := List Int × Nat × List Int × List Int) 1 (fun g => u64s g.1 ∧ g.1.length ≤ 1048576 ∧ rng b g.2.2.1 ∧ vb b g.2.2.1 + (b : Int) ^ g.2.2.1.length * vl g.1 = vl l ∧ g.2.2.1.length ≤ 67108928 ∧ g.2.2.1.length ≤ g.2.2.2.length ∧ g.2.2.2.take g.2.2.1.length = g.2.2.1) (fun g => [(0, .n false .u64 g.1), (7, .o 0 g.2.1 0 g.2.2.1.length), (10, .u), (11, .u), (12, .u), (21, .u), (22, .u), (23, .u), (24, .u), (25, .u), (26, .u), (27, .u), (28, .u), (29, .u), (30, .u), (31, .u), (32, .u), (33, .u), (34, .u), (35, .u), (36, .u), (37, .u), (38, .u), (39, .u), (40, .u), (41, .u), (42, .u), (43, .u), (44, .u), (45, .u), (46, .u), (47, .u), (48, .u), (49, .u), (50, .u), (51, .u), (52, .u), (53, .u), (54, .u), (55, .u), (56, .u), (57, .u)]) (fun g => [⟨3, 1, g.2.1, true, ints .i64 g.2.2.2⟩]) (fun g => (vl g.1).toNat) (l, 0, [], []) ?_ ?_ rfl hR rfl (fun _ _ => rfl) (fun g _ => .cons ints_id .nil) ?_
  · exact ⟨hu, hl, (fun x hx => by simp at hx), by simp [vb], Nat.zero_le _, Nat.le_refl _, rfl⟩
  · exact (.cons rfl (.cons rfl (.u (.u (.u (.u (.u (.u (.u (.u (.u (.u (.u (.u (.u (.u (.u (.u (.u (.u (.u (.u (.u (.u (.u (.u (.u (.u (.u (.u (.u (.u (.u (.u (.u (.u (.u (.u (.u (.u (.u (.u .nil))))))))))))))))))))))))))))))))))))))))))
  · rintro ⟨A, ver, acc, C⟩ ⟨uA, hA, hr, hI, hal, hC1, hC2⟩
    dsimp only at uA hA hr hI hal hC1 hC2
    have hlA := lenN_le A
    have hvA := vl_nonneg uA
    refine jc_seq ?_; refine jc_seq ?_; refine jc_region ?_; refine jo_l (ly_mv rfl) (hd 21 rfl) ?_
    refine jo_call Try.f15 (Length_s A (by omega) uA) rfl Try.func15 rfl rfl (ovL_cons rfl ovL_nil) (.cons .n .nil) (hd 22 rfl) ?_ (fun ch hp => by simp at hp)
    rintro y hy; injection hy with hy; subst hy; refine jo_l (ly_gt rfl rfl) (hd 23 rfl) ?_; refine jo_nil ?_
    refine jc_if rfl (fun h1 => ?_) (fun h1 => ?_)
    · have hvp : 0 < vl A := by
        rcases Int.lt_or_le 0 (vl A) with h | h
        · exact h
        · have h2 := (lenN_zero uA).2 (by omega)
          omega
      have hcap := dg_cap (L := 1048576) hb hr hvp hu hl hI
      have hbn : (0 : Int) < ((b ^ n : Nat) : Int) := by exact_mod_cast Nat.pow_pos (by omega)
      have hbn2 : ((b ^ n : Nat) : Int) ≤ 9223372036854775808 := by omega
      have hq0 : 0 ≤ vl A / ((b ^ n : Nat) : Int) := Int.ediv_nonneg hvA (by omega)
      have hrl : vl A % ((b ^ n : Nat) : Int) < 18446744073709551616 := by have := Int.emod_lt_of_pos (vl A) hbn; omega
      have hfA : lenV (vl A) ≤ 67108864 := by rw [← lenN_lenV uA rfl]; omega
      have hlq : (lm (vl A / ((b ^ n : Nat) : Int))).length ≤ 1048576 := lenV_lm (Nat.le_trans (lenV_mono (w := vl A) (by have := Int.ediv_le_self ((b ^ n : Nat) : Int) hvA; omega)) hfA)
      refine jc_skip ?_; refine jc_block ?_; refine jc_seq ?_; refine jc_region ?_; refine jo_l (ly_mv rfl) (hd 25 rfl) ?_; refine jo_l (ly_mv rfl) (hd 26 rfl) ?_
      refine jo_call Try.f83 (Through_s A ((b ^ n : Nat) : Int) (by omega) uA hbn (by omega) (by omega)) rfl Try.func83 rfl rfl (ovL_cons rfl (ovL_cons rfl ovL_nil)) (.cons .n (.cons .i .nil)) (hd 27 rfl) ?_ (fun ch hp => by simp at hp)
      rintro y hy; injection hy with hy; subst hy; refine jo_l (ly_mv rfl) (hd 24 rfl) ?_; refine jo_l (ly_ext rfl rfl) (hd 28 rfl) ?_; refine jo_l (ly_ext rfl rfl) (hd 29 rfl) ?_; refine jo_l (ly_ext rfl rfl) (hd 30 rfl) ?_; refine jo_l (ly_as rfl) (hd 10 rfl) ?_; refine jo_l (ly_as rfl) (hd 11 rfl) ?_; refine jo_l (ly_as rfl) (hd 12 rfl) ?_; refine jo_nil ?_; refine jc_seq ?_; refine jc_seq ?_; refine jc_region ?_; refine jo_l (ly_mv rfl) (hd 31 rfl) ?_; refine jo_l (ly_ff (ly_ne rfl rfl) (by decide)) (hd 32 rfl) ?_; refine jo_nil ?_; refine jc_litf rfl ?_; refine jc_skip ?_; refine jc_seq ?_; refine jc_seq ?_; refine jc_region ?_; refine jo_l (ly_mv rfl) (hd 41 rfl) ?_; refine jo_l (ly_mv rfl) (hd 42 rfl) ?_; refine jo_nil ?_; refine jc_block ?_
      refine jc_loopD (G := Nat × Nat × List Int × List Int × Int) 1 (fun g => g.1 ≤ n ∧ rng b g.2.2.1 ∧ g.2.2.1.length = acc.length + g.1 ∧ vb b g.2.2.1 + (b : Int) ^ g.2.2.1.length * g.2.2.2.2 = vb b acc + (b : Int) ^ acc.length * (vl A % ((b ^ n : Nat) : Int)) ∧ 0 ≤ g.2.2.2.2 ∧ g.2.2.2.2 < (b : Int) ^ (n - g.1) ∧ g.2.2.1.length ≤ g.2.2.2.1.length ∧ g.2.2.2.1.take g.2.2.1.length = g.2.2.1 ∧ g.2.2.2.2 < 18446744073709551616) (fun g => [(7, .o 0 g.2.1 0 g.2.2.1.length), (11, .i .u64 g.2.2.2.2), (42, .i .i64 (g.1 : Int)), (43, .u), (44, .u), (45, .u), (46, .u), (47, .u), (48, .u), (49, .u), (50, .u), (51, .u), (52, .u), (53, .u), (54, .u), (55, .u), (56, .u)]) (fun g => [⟨3, 1, g.2.1, true, ints .i64 g.2.2.2.1⟩]) (fun g => n - g.1) (0, ver, acc, C, vl A % ((b ^ n : Nat) : Int)) ?_ ?_ rfl hR rfl (fun _ _ => rfl) (fun g _ => .cons ints_id .nil) ?_
      · exact ⟨Nat.zero_le _, hr, rfl, rfl, (dg_rlt hb).1, (dg_rlt hb).2, hC1, hC2, hrl⟩
      · exact (.cons rfl (.cons rfl (.cons rfl (.u (.u (.u (.u (.u (.u (.u (.u (.u (.u (.u (.u (.u (.u .nil)))))))))))))))))
      · rintro ⟨i, ver2, acc2, C2, r⟩ ⟨hi, hr2, hal2, hI2, h0, h1r, hD1, hD2, hr64⟩
        dsimp only at hi hr2 hal2 hI2 h0 h1r hD1 hD2 hr64
        refine jc_seq ?_; refine jc_region ?_; refine jo_l (ly_lt rfl rfl) (hd 43 rfl) ?_; refine jo_nil ?_; refine jc_seq ?_
        refine jc_if rfl (fun h3 => ?_) (fun h3 => ?_)
        · have hilt : i < n := by omega
          refine jc_skip ?_; refine jc_seq ?_; refine jc_block ?_; refine jc_seq ?_; refine jc_region ?_; refine jo_l (ly_mv rfl) (hd 44 rfl) ?_; refine jo_l (ly_mv rfl) (hd 45 rfl) ?_; refine jo_l (ly_mv rfl) (hd 46 rfl) ?_; refine jo_l (ly_conv und3 und82 rfl (r := (b : Int)) (wrap_u64 (by omega) (by omega))) (hd 47 rfl) ?_; refine jo_l (ly_is (ly_rem rfl rfl (by omega) rfl) (show V.i .u64 _ = V.i .u64 (r % (b : Int)) from congrArg (V.i .u64) (Int.tmod_eq_emod_of_nonneg h0))) (hd 48 rfl) ?_; refine jo_l (ly_conv und82 und3 rfl (r := r % (b : Int)) (wrap_i64 (by have := Int.emod_nonneg r (show (b : Int) ≠ 0 by omega); omega) (by have := Int.emod_lt_of_pos r (show (0 : Int) < b by omega); omega))) (hd 49 rfl) ?_; refine jo_h (hy_lit (id := 1) (xs := [.tmp 49]) el1111 rfl (ovL_cons rfl ovL_nil) rfl (all2_of rfl) (by decide) rfl) (hd 50 rfl) ?_
          refine jo_appI (C := C2) (v := (r % (b : Int))) el1111 rfl rfl hD1 rfl (src_o (cs := ints .i64 [(r % (b : Int))]) rfl rfl rfl) (by show (_ + 1) * 8 ≤ _; first | omega | (dsimp only; omega)) (by show _ + 1 ≤ 9223372036854775807; first | omega | (dsimp only; omega)) (hd 51 rfl) (fun ver' C' hE1 hE2 => ?_)
          refine jo_l (ly_as rfl) (hd 7 rfl) ?_; refine jo_nil ?_; refine jc_region ?_; refine jo_l (ly_mv rfl) (hd 52 rfl) ?_; refine jo_l (ly_mv rfl) (hd 53 rfl) ?_; refine jo_l (ly_conv und3 und82 rfl (r := (b : Int)) (wrap_u64 (by omega) (by omega))) (hd 54 rfl) ?_; refine jo_l (ly_quo rfl rfl (by omega) (r := r / (b : Int)) (by rw [Int.tdiv_eq_ediv_of_nonneg h0]; exact wrap_u64 (Int.ediv_nonneg h0 (by omega)) (by have := Int.ediv_le_self (b : Int) h0; omega))) (hd 55 rfl) ?_; refine jo_l (ly_as rfl) (hd 11 rfl) ?_; refine jo_nil ?_; refine jc_region ?_; refine jo_l (ly_add rfl rfl (r := ((i + 1 : Nat) : Int)) (by rw [wrap_i64 (by omega) (by omega)]; omega)) (hd 56 rfl) ?_; refine jo_l (ly_mv rfl) (hd 42 rfl) ?_; refine jo_nil ?_
          refine ⟨(i + 1, ver', acc2 ++ [r % (b : Int)], C', r / (b : Int)), ?_, ?_, rfl, cov_n 34 rfl rfl ?_⟩
          · exact ⟨by omega, rng_app hr2 (rng_one (Int.emod_nonneg _ (by omega)) (Int.emod_lt_of_pos _ (by omega))), by simp only [List.length_append, List.length_singleton]; omega, by simp only [List.length_append, List.length_singleton]; rw [dg_in]; exact hI2, (dgr_lt hb hilt h0 h1r).1, (dgr_lt hb hilt h0 h1r).2, by simp only [List.length_append, List.length_singleton]; exact hE1, by simp only [List.length_append, List.length_singleton]; rw [hE2, hD2], by have := Int.ediv_le_self (b : Int) h0; dsimp only; omega⟩
          · show n - (i + 1) < n - i
            omega
          · exact (.cons (by show some _ = some _; rw [List.length_append]; rfl) (.cons rfl (.cons rfl (.u (.u (.u (.u (.u (.u (.u (.u (.u (.u (.u (.u (.u (.u .nil)))))))))))))))))
        · obtain rfl : n = i := by omega
          have hr0 := dg_zero h0 h1r
          refine jc_exit ?_; refine jc_region ?_; refine jo_l (ly_mv rfl) (hd 57 rfl) ?_; refine jo_l (ly_as rfl) (hd 0 rfl) ?_; refine jo_nil ?_
          refine ⟨(lm (vl A / ((b ^ n : Nat) : Int)), ver2, acc2, C2), ?_, ?_, rfl, cov_n 79 rfl rfl ?_⟩
          · exact ⟨lm_u _, hlq, hr2, by dsimp only; rw [vl_lm hq0, dg_out hal2 hI2 hr0, hI], by dsimp only; omega, hD1, hD2⟩
          · show (vl (lm _)).toNat < (vl A).toNat
            rw [vl_lm hq0]
            exact dg_less hvp hb hn1
          · exact (.cons rfl (.cons rfl (.u (.u (.u (.u (.u (.u (.u (.u (.u (.u (.u (.u (.u (.u (.u (.u (.u (.u (.u (.u (.u (.u (.u (.u (.u (.u (.u (.u (.u (.u (.u (.u (.u (.u (.u (.u (.u (.u (.u (.u .nil))))))))))))))))))))))))))))))))))))))))))
    · have hv00 : vl A = 0 := (lenN_zero uA).1 (by omega)
      have hvacc : vb b acc = vl l := by rw [hv00, Int.mul_zero, Int.add_zero] at hI; exact hI
      refine jc_exit ?_
      refine jc_meetH (G := Nat) (fun k => k ≤ acc.length ∧ acc.take k = (digs b (vl l).toNat)) (fun k => [(7, .o 0 ver 0 k), (58, .u), (59, .u), (60, .u), (61, .u), (62, .u), (63, .u), (64, .u), (65, .u), (66, .u), (67, .u), (68, .u), (69, .u), (70, .u), (71, .u), (72, .u), (73, .u), (74, .u)]) ?_ ?_
      · refine jc_block ?_
        refine jc_loopF (G := Nat) (fun k => k ≤ acc.length ∧ vb b (acc.take k) = vb b acc) (fun k => [(7, .o 0 ver 0 k), (58, .u), (59, .u), (60, .u), (61, .u), (62, .u), (63, .u), (64, .u), (65, .u), (66, .u), (67, .u), (68, .u), (69, .u), (70, .u), (71, .u), (72, .u), (73, .u), (74, .u)]) (fun _ => _) (fun k => k) acc.length ?_ ?_ rfl ?_
        · exact ⟨Nat.le_refl _, by rw [List.take_length]⟩
        · exact (.cons rfl (.u (.u (.u (.u (.u (.u (.u (.u (.u (.u (.u (.u (.u (.u (.u (.u (.u .nil))))))))))))))))))
        · rintro k ⟨hk, hkv⟩; refine jc_seq ?_; refine jc_seq ?_; refine jc_region ?_; refine jo_l (ly_mv rfl) (hd 58 rfl) ?_; refine jo_l (ly_leno sl1111 rfl rfl) (hd 59 rfl) ?_; refine jo_l (ly_gt rfl rfl) (hd 60 rfl) ?_; refine jo_l (ly_mv rfl) (hd 61 rfl) ?_
          refine jo_ifp 61 rfl (fun h4 => ?_) (fun h4 => ?_)
          · refine jo_g 61 rfl rfl (ly_mv rfl) (hd 62 rfl) ?_; refine jo_g 61 rfl rfl (ly_mv rfl) (hd 63 rfl) ?_; refine jo_g 61 rfl rfl (ly_leno sl1111 rfl rfl) (hd 64 rfl) ?_; refine jo_g 61 rfl rfl (ly_sub rfl rfl (wrap_i64 (by omega) (by omega))) (hd 65 rfl) ?_; refine jo_g 61 rfl rfl (ly_ia (i := k - 1) sl1111 rfl rfl rfl (by omega) (by omega) rfl) (hd 66 rfl) ?_; refine jo_g 61 rfl rfl (ly_is (ly_ldi one3 rfl rfl (by first | omega | (dsimp only; omega))) (show V.i .i64 _ = V.i .i64 (acc.getD (k - 1) 0) by rw [getT hC2 (by omega)])) (hd 67 rfl) ?_; refine jo_g 61 rfl rfl (ly_eq rfl rfl) (hd 68 rfl) ?_; refine jo_l (ly_pick_t rfl rfl) (hd 69 rfl) ?_; refine jo_nil ?_
            refine jc_if rfl (fun h5 => ?_) (fun h5 => ?_)
            · have hz0 := h5
              refine jc_skip ?_; refine jc_block ?_; refine jc_region ?_; refine jo_l (ly_mv rfl) (hd 70 rfl) ?_; refine jo_l (ly_mv rfl) (hd 71 rfl) ?_; refine jo_l (ly_leno sl1111 rfl rfl) (hd 72 rfl) ?_; refine jo_l (ly_sub rfl rfl (wrap_i64 (by omega) (by omega))) (hd 73 rfl) ?_; refine jo_l (ly_slo (l := 0) (h := k - 1) (r := 0) (n := k - 1) sl1111 rfl rfl bnd_none (bnd_some' rfl (by omega)) (by omega) (by omega) rfl (by omega)) (hd 74 rfl) ?_; refine jo_l (ly_as rfl) (hd 7 rfl) ?_; refine jo_nil ?_
              refine ⟨k - 1, ?_, ?_, rfl, cov_n 37 rfl rfl ?_⟩
              · exact ⟨by omega, by rw [cut_step (by omega) hk hz0]; exact hkv⟩
              · omega
              · exact (.cons rfl (.u (.u (.u (.u (.u (.u (.u (.u (.u (.u (.u (.u (.u (.u (.u (.u (.u .nil))))))))))))))))))
            · refine jc_exit ?_
              refine ⟨k, ?_, rfl, cov_n 31 rfl rfl ?_⟩
              · exact ⟨hk, cut_digs hb hk hr (by rw [hkv, hvacc]; exact (Int.toNat_of_nonneg hv0).symm) (by first | (left; omega) | (right; assumption))⟩
              · exact (.cons rfl (.u (.u (.u (.u (.u (.u (.u (.u (.u (.u (.u (.u (.u (.u (.u (.u (.u .nil))))))))))))))))))
          · refine jo_s 61 rfl rfl rfl (hd 62 rfl) ?_; refine jo_s 61 rfl rfl rfl (hd 63 rfl) ?_; refine jo_s 61 rfl rfl rfl (hd 64 rfl) ?_; refine jo_s 61 rfl rfl rfl (hd 65 rfl) ?_; refine jo_s 61 rfl rfl rfl (hd 66 rfl) ?_; refine jo_s 61 rfl rfl rfl (hd 67 rfl) ?_; refine jo_s 61 rfl rfl rfl (hd 68 rfl) ?_; refine jo_l (ly_pick_f rfl rfl) (hd 69 rfl) ?_; refine jo_nil ?_; refine jc_litf rfl ?_; refine jc_exit ?_
            refine ⟨k, ?_, rfl, cov_n 31 rfl rfl ?_⟩
            · exact ⟨hk, cut_digs hb hk hr (by rw [hkv, hvacc]; exact (Int.toNat_of_nonneg hv0).symm) (by first | (left; omega) | (right; assumption))⟩
            · exact (.cons rfl (.u (.u (.u (.u (.u (.u (.u (.u (.u (.u (.u (.u (.u (.u (.u (.u (.u .nil))))))))))))))))))
      · rintro k ⟨hk, hdk⟩
        have hdl : (digs b (vl l).toNat).length = k := by rw [← hdk, List.length_take]; omega
        have hck : C.take k = (digs b (vl l).toNat) := by rw [takeT hC2 hk, hdk]
        refine jc_seq ?_; refine jc_block ?_
        refine jc_loopD (G := Nat × List Int × Nat) 1 (fun g => (digs b (vl l).toNat).length ≤ g.2.2 ∧ g.2.2 ≤ max m (digs b (vl l).toNat).length ∧ g.2.2 ≤ g.2.1.length ∧ g.2.1.take g.2.2 = (digs b (vl l).toNat) ++ List.replicate (g.2.2 - (digs b (vl l).toNat).length) 0) (fun g => [(7, .o 0 g.1 0 g.2.2), (75, .u), (76, .u), (77, .u), (78, .u), (79, .u), (80, .u), (81, .u)]) (fun g => [⟨3, 1, g.1, true, ints .i64 g.2.1⟩]) (fun g => m - g.2.2) (ver, C, k) ?_ ?_ rfl hR rfl (fun _ _ => rfl) (fun g _ => .cons ints_id .nil) ?_
        · exact ⟨by rw [hdl]; exact Nat.le_refl _, by dsimp only; omega, by dsimp only; omega, by dsimp only; rw [hck, hdl, Nat.sub_self]; simp⟩
        · exact (.cons rfl (.u (.u (.u (.u (.u (.u (.u .nil))))))))
        · rintro ⟨ver3, C3, k3⟩ ⟨hp1, hp2, hp3, hp4⟩
          dsimp only at hp1 hp2 hp3 hp4
          refine jc_seq ?_; refine jc_seq ?_; refine jc_region ?_; refine jo_l (ly_mv rfl) (hd 75 rfl) ?_; refine jo_l (ly_leno sl1111 rfl rfl) (hd 76 rfl) ?_; refine jo_l (ly_mv rfl) (hd 77 rfl) ?_; refine jo_l (ly_lt rfl rfl) (hd 78 rfl) ?_; refine jo_nil ?_
          refine jc_if rfl (fun h7 => ?_) (fun h7 => ?_)
          · dsimp only at h7
            refine jc_skip ?_; refine jc_block ?_; refine jc_region ?_; refine jo_l (ly_mv rfl) (hd 79 rfl) ?_; refine jo_h (hy_lit (id := 1) (xs := [.const (.int .i64 0)]) el1111 rfl (ovL_cons rfl ovL_nil) rfl (all2_of rfl) (by decide) rfl) (hd 80 rfl) ?_
            refine jo_appI (C := C3) (v := 0) el1111 rfl rfl hp3 rfl (src_o (cs := ints .i64 [0]) rfl rfl rfl) (by show (_ + 1) * 8 ≤ _; first | omega | (dsimp only; omega)) (by show _ + 1 ≤ 9223372036854775807; first | omega | (dsimp only; omega)) (hd 81 rfl) (fun ver' C' hE1 hE2 => ?_)
            refine jo_l (ly_as rfl) (hd 7 rfl) ?_; refine jo_nil ?_
            refine ⟨(ver', C', k3 + 1), ?_, ?_, rfl, cov_n 16 rfl rfl ?_⟩
            · exact ⟨by dsimp only; omega, by dsimp only; omega, hE1, pad_step hp1 hp4 hE2⟩
            · show m - (k3 + 1) < m - k3
              omega
            · exact (.cons rfl (.u (.u (.u (.u (.u (.u (.u .nil))))))))
          · dsimp only at h7 ⊢
            have hB : (C3.take k3).length = k3 := by rw [List.length_take]; omega
            have hpd := pad_end hp4 hp1 (by omega) hp2
            refine jc_exit ?_; refine jc_seq ?_; refine jc_region ?_; refine jo_l (ly_mv rfl) (hd 82 rfl) ?_; refine jo_l (ly_leno sl1111 rfl rfl) (hd 83 rfl) ?_; refine jo_h (hy_mk (m := k3) el1111 rfl rfl rfl (by show 8 * k3 ≤ _; omega) (by unfold maxLen; omega) rfl) (hd 84 rfl) ?_; refine jo_l (ly_as rfl) (hd 13 rfl) ?_; refine jo_nil ?_; refine jc_seq ?_; refine jc_seq ?_; refine jc_region ?_; refine jo_l (ly_mv rfl) (hd 85 rfl) ?_; refine jo_l (ly_leno sl1111 rfl rfl) (hd 86 rfl) ?_; refine jo_l (ly_mv rfl) (hd 87 rfl) ?_; refine jo_nil ?_; refine jc_block ?_; refine jc_H (H' := [⟨3, 1, ver3, true, ints .i64 C3⟩, ⟨3, 1, 0, true, ints .i64 (revI (C3.take k3) 0)⟩]) (by rw [revI_0, hB]; rfl) ?_
            refine jc_loopF (G := Nat) (fun i => i ≤ k3) (fun i => [(87, .i .i64 (i : Int)), (14, .u), (15, .u), (88, .u), (89, .u), (90, .u), (91, .u), (92, .u), (93, .u), (94, .u), (95, .u), (96, .u), (97, .u), (98, .u), (99, .u), (100, .u)]) (fun i => [⟨3, 1, ver3, true, ints .i64 C3⟩, ⟨3, 1, 0, true, ints .i64 (revI (C3.take k3) i)⟩]) (fun i => k3 - i) 0 ?_ ?_ rfl ?_
            · exact Nat.zero_le _
            · exact (.cons rfl (.u (.u (.u (.u (.u (.u (.u (.u (.u (.u (.u (.u (.u (.u (.u .nil))))))))))))))))
            · rintro i hi9
              have hrl9 := revI_len (B := (C3.take k3)) (i := i) (by rw [hB]; exact hi9)
              refine jc_seq ?_; refine jc_region ?_; refine jo_l (ly_lt rfl rfl) (hd 88 rfl) ?_; refine jo_nil ?_; refine jc_seq ?_
              refine jc_if rfl (fun h8 => ?_) (fun h8 => ?_)
              · refine jc_skip ?_; refine jc_seq ?_; refine jc_block ?_; refine jc_seq ?_; refine jc_region ?_; refine jo_l (ly_mv rfl) (hd 89 rfl) ?_; refine jo_l (ly_ia (i := i) sl1111 rfl rfl rfl (by first | rfl | omega) (by omega) rfl) (hd 90 rfl) ?_; refine jo_l (ly_is (ly_ldi one3 rfl rfl (by first | omega | (dsimp only; omega))) (show V.i .i64 _ = V.i .i64 ((C3.take k3).getD i 0) by rw [getT (acc := (C3.take k3)) (by rw [hB]) (by rw [hB]; omega)])) (hd 91 rfl) ?_; refine jo_l (ly_as rfl) (hd 14 rfl) ?_; refine jo_l (ly_as rfl) (hd 15 rfl) ?_; refine jo_nil ?_
                have hset : (revI (C3.take k3) i).set ((0 + (k3 - 1 - i)) * 1) ((C3.take k3).getD i 0) = revI (C3.take k3) (i + 1) := by
                  rw [Nat.zero_add, Nat.mul_one]
                  have h := revI_set (B := (C3.take k3)) (i := i) (by rw [hB]; omega)
                  rwa [hB] at h
                refine jc_region ?_; refine jo_l (ly_mv rfl) (hd 92 rfl) ?_; refine jo_l (ly_mv rfl) (hd 93 rfl) ?_; refine jo_l (ly_leno sl1111 rfl rfl) (hd 94 rfl) ?_; refine jo_l (ly_sub rfl rfl (wrap_i64 (by omega) (by omega))) (hd 95 rfl) ?_; refine jo_l (ly_mv rfl) (hd 96 rfl) ?_; refine jo_l (ly_sub rfl rfl (r := ((k3 - 1 - i : Nat) : Int)) (by rw [wrap_i64 (by omega) (by omega)]; omega)) (hd 97 rfl) ?_; refine jo_l (ly_mv rfl) (hd 98 rfl) ?_; refine jo_l (ly_ia (i := k3 - 1 - i) sl1111 rfl rfl rfl (by first | rfl | omega) (by omega) rfl) (hd 99 rfl) ?_; refine jo_st (sy_storei rfl rfl rfl one3 (by rw [hrl9, hB]; first | omega | (dsimp only; omega))) ?_; refine jo_nil ?_; refine jc_region ?_; refine jo_l (ly_add rfl rfl (r := ((i + 1 : Nat) : Int)) (by rw [wrap_i64 (by omega) (by omega)]; omega)) (hd 100 rfl) ?_; refine jo_l (ly_mv rfl) (hd 87 rfl) ?_; refine jo_nil ?_
                refine ⟨i + 1, ?_, ?_, (by show [_, (⟨3, 1, 0, true, ints .i64 _⟩ : Ob)] = [_, ⟨3, 1, 0, true, ints .i64 _⟩]; rw [hset]), cov_n 32 rfl rfl ?_⟩
                · omega
                · omega
                · exact (.cons rfl (.u (.u (.u (.u (.u (.u (.u (.u (.u (.u (.u (.u (.u (.u (.u .nil))))))))))))))))
              · obtain rfl : i = k3 := by omega
                have hR : revI (C3.take i) i = (hdg b m (vl l).toNat) := by
                  have h := revI_all (C3.take i)
                  rw [hB] at h
                  rw [h, hpd]; rfl
                have hRl : (hdg b m (vl l).toNat).length = i := by rw [← hR, revI_len (by omega), hB]
                refine jc_exit ?_; refine jc_seq ?_; refine jc_region ?_; refine jo_l (ly_mv rfl) (hd 101 rfl) ?_; refine jo_l (ly_as rfl) (hd 6 rfl) ?_; refine jo_nil ?_; refine jc_ret ?_
                refine ⟨[1], _, (.o 0 0 0 i), (.cons rfl .nil), rfl, rfl, (by decide), (by first | exact idless_cons ints_id idless_nil | exact idless_cons rfl idless_nil), ?_⟩
                exact ⟨by rw [hRl], by rw [← hR]; rfl⟩
end Go.Proofs.Ytaogaegchagbfaa.Vc

/- Naturals that are handed in. -/
namespace Go.Proofs.Ytaogaegchagbfaa.Vc
open Go Go.RowKit
set_option maxRecDepth 100000 in
theorem openN28 {H : Type} {enc : TypeId × Value → H} {w : World} {sp : Nat → Bool} {held : Bool} {r : Reach} {b0 : Nat} {v : Value} {d : DataW H} {ps : List MemPlace} (hval : Value.okWide Try.prog w r b0 23 v) (hd : DataW.Trod enc Try.prog w 0 sp held 23 v d ps) :
    ∃ l : List Int, Rel w (fun _ => False) w.heap.size [] (.n false .u64 l) v ∧ l.length + 1 ≤ Rows.uptoBulk d ∧ u64s l := by
  obtain ⟨A, len, cap, rfl⟩ := Go.WideShapes.okWide_slice Try.underlying23 hval
  obtain ⟨fuel, hd⟩ := hd
  have hd' : DataW.trod enc Try.prog w 0 sp held fuel 23 [Value.slice A len cap] = some (d, ps) := hd
  obtain ⟨l, k1, k2, k3⟩ := open_numsV Try.underlying23 Try.underlying33 (show Try.prog.cellsOf 33 = 1 by kernel_rfl) hd'
  exact ⟨l, k1, k2, fun y hy => wf_u64 (k3 y hy)⟩

theorem short1n {H : Type} {d0 : DataW H} {r : List (DataW H)} {l0 : List Int} (hk : Rows.uptoSmall H (d0 :: r) = true) (h0 : l0.length + 1 ≤ Rows.uptoBulk d0) : l0.length ≤ 1048575 := by
  have h : Rows.uptoBulkAll (d0 :: r) ≤ 1048576 := of_decide_eq_true hk
  simp only [Rows.uptoBulkAll] at h
  omega
end Go.Proofs.Ytaogaegchagbfaa.Vc

/- Contracts of mul.Mul told exactly, nat.Bit, div.limb, plus. -/
namespace Go.Proofs.Ytaogaegchagbfaa.Vc
open Go Go.RowKit
set_option maxHeartbeats 4000000 in
theorem mfits_l (l : List Int) (hl : l.length < 1099511627776) (hu : u64s l) : Spec Try.prog 103 [.n false .u64 l] (fun o => ∃ (r : List Int) (e : Int), o = .ret (.t [.n true .u64 r, .i .i64 e]) ∧ ErrL (vl l) r e) := by
  refine spec_of' [(0, .n false .u64 l)] rfl Try.func103 rfl (Nat.le_of_ble_eq_true rfl) fun Γ hN hds hL hR => ?_
  have hd : ∀ d, Nat.blt d 10 = true → d < Γ.N := fun d h => by rw [hN]; exact Nat.le_of_ble_eq_true h
  have hm := trm_len l
  refine jc_seq ?_; refine jc_region ?_; refine jo_l (ly_as rfl) (hd 2 rfl) ?_; refine jo_l (ly_as rfl) (hd 3 rfl) ?_; refine jo_nil ?_; refine jc_seq ?_; refine jc_region ?_; refine jo_l (ly_mv rfl) (hd 4 rfl) ?_
  refine jo_call Try.f42 (Norm_s l hl) rfl Try.func42 rfl rfl (ovL_cons rfl ovL_nil) (.cons .n .nil) (hd 5 rfl) ?_ (fun ch hp => by simp at hp)
  rintro y hy; injection hy with hy; subst hy; refine jo_l (ly_as rfl) (hd 0 rfl) ?_; refine jo_nil ?_; refine jc_seq ?_; refine jc_seq ?_; refine jc_region ?_; refine jo_l (ly_mv rfl) (hd 6 rfl) ?_
  refine jo_call Try.f15 (Length_s (trm l) (by omega) (u64s_trm hu)) rfl Try.func15 rfl rfl (ovL_cons rfl ovL_nil) (.cons .n .nil) (hd 7 rfl) ?_ (fun ch hp => by simp at hp)
  rintro y hy; injection hy with hy; subst hy; refine jo_l (ly_gt rfl rfl) (hd 8 rfl) ?_; refine jo_nil ?_
  refine jc_if rfl (fun h1 => ?_) (fun h1 => ?_)
  · refine jc_seq ?_; refine jc_region ?_; refine jo_l (ly_as rfl) (hd 2 rfl) ?_; refine jo_l (ly_as rfl) (hd 3 rfl) ?_; refine jo_nil ?_; refine jc_ret ?_
    refine ⟨_, _, (.cons rfl (.cons rfl .nil)), (.t1 (.nil (fr := true) (k := .u64)) (.t1 .i .t0)), ?_⟩
    exact ⟨[], 3, rfl, errL_big hu rfl (by rw [lenN_trm] at *; omega)⟩
  · refine jc_skip ?_; refine jc_seq ?_; refine jc_region ?_; refine jo_l (ly_mv rfl) (hd 9 rfl) ?_; refine jo_l (ly_as rfl) (hd 2 rfl) ?_; refine jo_l (ly_as rfl) (hd 3 rfl) ?_; refine jo_nil ?_; refine jc_ret ?_
    refine ⟨_, _, (.cons rfl (.cons rfl .nil)), (.t1 .n (.t1 .i .t0)), ?_⟩
    exact ⟨_, 0, rfl, errL_ok hu rfl (by rw [lenN_trm] at *; omega)⟩

set_option maxHeartbeats 4000000 in
theorem product_l (a b : List Int) (hla : a.length < 4294967296) (hlb : b.length < 4294967296) (ua : u64s a) (ub : u64s b) : Spec Try.prog 75 [.n false .u64 a, .n false .u64 b, .f 76 []] (fun o => ∃ (r : List Int) (e : Int), o = .ret (.t [.n true .u64 r, .i .i64 e]) ∧ ErrL (vl a * vl b) r e) := by
  refine spec_of' [(0, .n false .u64 a), (1, .n false .u64 b), (2, .f 76 [])] rfl Try.func75 rfl (Nat.le_of_ble_eq_true rfl) fun Γ hN hds hL hR => ?_
  have hd : ∀ d, Nat.blt d 22 = true → d < Γ.N := fun d h => by rw [hN]; exact Nat.le_of_ble_eq_true h
  have hma := trm_len a
  have hmb := trm_len b
  refine jc_seq ?_; refine jc_region ?_; refine jo_l (ly_as rfl) (hd 6 rfl) ?_; refine jo_l (ly_as rfl) (hd 7 rfl) ?_; refine jo_nil ?_; refine jc_seq ?_; refine jc_region ?_; refine jo_l (ly_mv rfl) (hd 8 rfl) ?_
  refine jo_call Try.f42 (Norm_s a (by omega)) rfl Try.func42 rfl rfl (ovL_cons rfl ovL_nil) (.cons .n .nil) (hd 9 rfl) ?_ (fun ch hp => by simp at hp)
  rintro y hy; injection hy with hy; subst hy; refine jo_l (ly_mv rfl) (hd 10 rfl) ?_
  refine jo_call Try.f42 (Norm_s b (by omega)) rfl Try.func42 rfl rfl (ovL_cons rfl ovL_nil) (.cons .n .nil) (hd 11 rfl) ?_ (fun ch hp => by simp at hp)
  rintro y hy; injection hy with hy; subst hy; refine jo_l (ly_as rfl) (hd 0 rfl) ?_; refine jo_l (ly_as rfl) (hd 1 rfl) ?_; refine jo_nil ?_; refine jc_seq ?_; refine jc_seq ?_; refine jc_region ?_; refine jo_l (ly_mv rfl) (hd 12 rfl) ?_; refine jo_l (ly_mv rfl) (hd 13 rfl) ?_
  refine jo_call Try.f102 (great_e (trm a) (trm b) (by omega) (by omega) (u64s_trm ua) (u64s_trm ub)) rfl Try.func102 rfl rfl (ovL_cons rfl (ovL_cons rfl ovL_nil)) (.cons .n (.cons .n .nil)) (hd 14 rfl) ?_ (fun ch hp => by simp at hp)
  rintro y ⟨x, hy, hx⟩; injection hy with hy; subst hy; refine jo_nil ?_
  refine jc_cond rfl (fun h1 => ?_) (fun h1 => ?_)
  · refine jc_seq ?_; refine jc_region ?_; refine jo_l (ly_as rfl) (hd 6 rfl) ?_; refine jo_l (ly_as rfl) (hd 7 rfl) ?_; refine jo_nil ?_; refine jc_ret ?_
    refine ⟨_, _, (.cons rfl (.cons rfl .nil)), (.t1 (.nil (fr := true) (k := .u64)) (.t1 .i .t0)), ?_⟩
    refine ⟨[], 3, rfl, ?_⟩
    obtain ⟨g1, g2, g3⟩ := hx (by assumption)
    have := errN_great (r := []) (u64s_trm ua) (u64s_trm ub) g1 g2 g3
    rw [vl_trm, vl_trm] at this
    exact errL_of this
  · refine jc_skip ?_; refine jc_seq ?_; refine jc_region ?_; refine jo_l (ly_mv rfl) (hd 15 rfl) ?_; refine jo_l (ly_mv rfl) (hd 16 rfl) ?_; refine jo_l (ly_mv rfl) (hd 17 rfl) ?_
    refine jo_call Try.f76 (way_s (trm a) (trm b) (by omega) (by omega) (u64s_trm ua) (u64s_trm ub)) rfl Try.func76 rfl rfl (ovL_cons rfl (ovL_cons rfl ovL_nil)) (.cons .n (.cons .n .nil)) (hd 18 rfl) ?_ (fun ch hp => by simp at hp)
    rintro y ⟨rs, hy, us, ls, vs⟩; injection hy with hy; subst hy
    refine jo_call Try.f103 (mfits_l rs (by omega) us) rfl Try.func103 rfl rfl (ovL_cons rfl ovL_nil) (.cons .n .nil) (hd 19 rfl) ?_ (fun ch hp => by simp at hp)
    rintro y ⟨rf, ef, hy, hf⟩; injection hy with hy; subst hy; refine jo_l (ly_ext rfl rfl) (hd 20 rfl) ?_; refine jo_l (ly_ext rfl rfl) (hd 21 rfl) ?_; refine jo_l (ly_as rfl) (hd 6 rfl) ?_; refine jo_l (ly_as rfl) (hd 7 rfl) ?_; refine jo_nil ?_; refine jc_ret ?_
    refine ⟨_, _, (.cons rfl (.cons rfl .nil)), (.t1 .n (.t1 .i .t0)), ?_⟩
    exact ⟨rf, ef, rfl, by rwa [vs, vl_trm, vl_trm] at hf⟩

set_option maxHeartbeats 4000000 in
theorem Mul_l (a b : List Int) (hla : a.length < 4294967296) (hlb : b.length < 4294967296) (ua : u64s a) (ub : u64s b) : Spec Try.prog 36 [.n false .u64 a, .n false .u64 b] (fun o => ∃ (r : List Int) (e : Int), o = .ret (.t [.n true .u64 r, .i .i64 e]) ∧ ErrL (vl a * vl b) r e) := by
  refine spec_of' [(0, .n false .u64 a), (1, .n false .u64 b)] rfl Try.func36 rfl (Nat.le_of_ble_eq_true rfl) fun Γ hN hds hL hR => ?_
  have hd : ∀ d, Nat.blt d 11 = true → d < Γ.N := fun d h => by rw [hN]; exact Nat.le_of_ble_eq_true h
  refine jc_seq ?_; refine jc_region ?_; refine jo_l (ly_as rfl) (hd 4 rfl) ?_; refine jo_l (ly_as rfl) (hd 5 rfl) ?_; refine jo_nil ?_; refine jc_seq ?_; refine jc_region ?_; refine jo_l (ly_mv rfl) (hd 6 rfl) ?_; refine jo_l (ly_mv rfl) (hd 7 rfl) ?_
  refine jo_call Try.f75 (product_l a b hla hlb ua ub) rfl Try.func75 rfl rfl (ovL_cons rfl (ovL_cons rfl (ovL_cons rfl ovL_nil))) (.cons .n (.cons .n (.cons .f .nil))) (hd 8 rfl) ?_ (fun ch hp => by simp at hp)
  rintro y ⟨rp, ep, hy, hp⟩; injection hy with hy; subst hy; refine jo_l (ly_ext rfl rfl) (hd 9 rfl) ?_; refine jo_l (ly_ext rfl rfl) (hd 10 rfl) ?_; refine jo_l (ly_as rfl) (hd 4 rfl) ?_; refine jo_l (ly_as rfl) (hd 5 rfl) ?_; refine jo_nil ?_; refine jc_ret ?_
  refine ⟨_, _, (.cons rfl (.cons rfl .nil)), (.t1 .n (.t1 .i .t0)), ?_⟩
  exact ⟨rp, ep, rfl, hp⟩

end Go.Proofs.Ytaogaegchagbfaa.Vc

/- Contracts of div.Both of any limbs, mul.Square. -/
namespace Go.Proofs.Ytaogaegchagbfaa.Vc
open Go Go.RowKit
set_option maxHeartbeats 4000000 in
theorem Both_r (l : List Int) (w : Int) (hl : l.length ≤ 1048576) (hu : u64s l) (hw : lenV w ≤ 67108864) (h0 : w ≠ 0) : Spec Try.prog 111 [.n false .u64 l, .n false .u64 (lm w)] (fun o => o = .ret (.t [.n false .u64 (lm (qn (vl l) w)), .n false .u64 (lm (rn (vl l) w)), .i .i64 0])) := by
  refine spec_of' [(0, .n false .u64 l), (1, .n false .u64 (lm w))] rfl Try.func111 rfl (Nat.le_of_ble_eq_true rfl) fun Γ hN hds hL hR => ?_
  have hd : ∀ d, Nat.blt d 32 = true → d < Γ.N := fun d h => by rw [hN]; exact Nat.le_of_ble_eq_true h
  have hv : lenV (vl l) ≤ 67108864 := by have := lenV_64 (s := false) hu; have e : sv false l = vl l := rfl; rw [e] at this; omega
  have hlw := lenV_lm hw
  have hle := lenV_mono (v := qn (vl l) w) (w := vl l) qn_le
  have hlr := lenV_mono (v := rn (vl l) w) (w := w) (rn_le h0).1
  have hlq := lenV_lm (v := qn (vl l) w) (by omega)
  have hlR := lenV_lm (v := rn (vl l) w) (by omega)
  have hne := lm_ne h0
  have hlv := lenV_lm hv
  have hNl : Spec Try.prog 42 [.n false .u64 l] (fun o => o = .ret (.n true .u64 (lm (vl l)))) := by have h := Norm_s l (by omega); rwa [trm_lm hu rfl] at h
  refine jc_seq ?_; refine jc_region ?_; refine jo_l (ly_as rfl) (hd 4 rfl) ?_; refine jo_l (ly_as rfl) (hd 5 rfl) ?_; refine jo_l (ly_as rfl) (hd 6 rfl) ?_; refine jo_nil ?_; refine jc_seq ?_; refine jc_region ?_; refine jo_l (ly_mv rfl) (hd 9 rfl) ?_
  refine jo_call Try.f42 (hNl) rfl Try.func42 rfl rfl (ovL_cons rfl ovL_nil) (.cons .n .nil) (hd 10 rfl) ?_ (fun ch hp => by simp at hp)
  rintro y hy; injection hy with hy; subst hy; refine jo_l (ly_mv rfl) (hd 11 rfl) ?_
  refine jo_call Try.f42 (Norm_v w (by omega)) rfl Try.func42 rfl rfl (ovL_cons rfl ovL_nil) (.cons .n .nil) (hd 12 rfl) ?_ (fun ch hp => by simp at hp)
  rintro y hy; injection hy with hy; subst hy; refine jo_l (ly_as rfl) (hd 0 rfl) ?_; refine jo_l (ly_as rfl) (hd 1 rfl) ?_; refine jo_nil ?_; refine jc_seq ?_; refine jc_seq ?_; refine jc_region ?_; refine jo_l (ly_mv rfl) (hd 13 rfl) ?_; refine jo_l (ly_lenn sl28 rfl) (hd 14 rfl) ?_; refine jo_l (ly_ff (ly_eq rfl rfl) (fun h => hne (List.eq_nil_of_length_eq_zero (by omega)))) (hd 15 rfl) ?_; refine jo_nil ?_; refine jc_litf rfl ?_; refine jc_skip ?_; refine jc_seq ?_; refine jc_region ?_; refine jo_l (ly_mv rfl) (hd 17 rfl) ?_; refine jo_l (ly_mv rfl) (hd 18 rfl) ?_
  refine jo_call Try.f92 (divide_v (vl l) w (by omega) (by omega) h0) rfl Try.func92 rfl rfl (ovL_cons rfl (ovL_cons rfl ovL_nil)) (.cons .n (.cons .n .nil)) (hd 19 rfl) ?_ (fun ch hp => by simp at hp)
  rintro y hy; injection hy with hy; subst hy; refine jo_l (ly_mv rfl) (hd 16 rfl) ?_; refine jo_l (ly_ext rfl rfl) (hd 20 rfl) ?_; refine jo_l (ly_ext rfl rfl) (hd 21 rfl) ?_; refine jo_l (ly_as rfl) (hd 7 rfl) ?_; refine jo_l (ly_as rfl) (hd 8 rfl) ?_; refine jo_nil ?_; refine jc_seq ?_; refine jc_seq ?_; refine jc_region ?_; refine jo_l (ly_mv rfl) (hd 22 rfl) ?_
  refine jo_call Try.f15 (Length_v (qn (vl l) w) (by omega)) rfl Try.func15 rfl rfl (ovL_cons rfl ovL_nil) (.cons .n .nil) (hd 23 rfl) ?_ (fun ch hp => by simp at hp)
  rintro y hy; injection hy with hy; subst hy; refine jo_l (ly_ff (ly_gt rfl rfl) (by omega)) (hd 24 rfl) ?_; refine jo_l (ly_mv rfl) (hd 25 rfl) ?_; refine jo_g 25 rfl rfl (ly_mv rfl) (hd 26 rfl) ?_
  refine jo_callg Try.f15 25 rfl rfl (Length_v (rn (vl l) w) (by omega)) rfl Try.func15 rfl rfl (ovL_cons rfl ovL_nil) (.cons .n .nil) (hd 27 rfl) ?_ (fun ch hp => by simp at hp)
  rintro y hy; injection hy with hy; subst hy; refine jo_g 25 rfl rfl (ly_ff (ly_gt rfl rfl) (by omega)) (hd 28 rfl) ?_; refine jo_l (ly_pick_f rfl rfl) (hd 29 rfl) ?_; refine jo_nil ?_; refine jc_litf rfl ?_; refine jc_skip ?_; refine jc_seq ?_; refine jc_region ?_; refine jo_l (ly_mv rfl) (hd 30 rfl) ?_; refine jo_l (ly_mv rfl) (hd 31 rfl) ?_; refine jo_l (ly_as rfl) (hd 4 rfl) ?_; refine jo_l (ly_as rfl) (hd 5 rfl) ?_; refine jo_l (ly_as rfl) (hd 6 rfl) ?_; refine jo_nil ?_; refine jc_ret ?_
  refine ⟨_, _, (.cons rfl (.cons rfl (.cons rfl .nil))), (.t1 .n (.t1 .n (.t1 .i .t0))), ?_⟩
  exact rfl

set_option maxHeartbeats 4000000 in
theorem Square_l (a : List Int) (hla : a.length < 67108864) (ua : u64s a) : Spec Try.prog 13 [.n false .u64 a] (fun o => ∃ (r : List Int) (e : Int), o = .ret (.t [.n true .u64 r, .i .i64 e]) ∧ ErrL (vl a * vl a) r e) := by
  refine spec_of' [(0, .n false .u64 a)] rfl Try.func13 rfl (Nat.le_of_ble_eq_true rfl) fun Γ hN hds hL hR => ?_
  have hd : ∀ d, Nat.blt d 9 = true → d < Γ.N := fun d h => by rw [hN]; exact Nat.le_of_ble_eq_true h
  refine jc_seq ?_; refine jc_region ?_; refine jo_l (ly_as rfl) (hd 2 rfl) ?_; refine jo_l (ly_as rfl) (hd 3 rfl) ?_; refine jo_nil ?_; refine jc_seq ?_; refine jc_region ?_; refine jo_l (ly_mv rfl) (hd 4 rfl) ?_; refine jo_l (ly_mv rfl) (hd 5 rfl) ?_
  refine jo_call Try.f36 (Mul_l a a (by omega) (by omega) ua ua) rfl Try.func36 rfl rfl (ovL_cons rfl (ovL_cons rfl ovL_nil)) (.cons .n (.cons .n .nil)) (hd 6 rfl) ?_ (fun ch hp => by simp at hp)
  rintro y ⟨rp, ep, hy, hp⟩; injection hy with hy; subst hy; refine jo_l (ly_ext rfl rfl) (hd 7 rfl) ?_; refine jo_l (ly_ext rfl rfl) (hd 8 rfl) ?_; refine jo_l (ly_as rfl) (hd 2 rfl) ?_; refine jo_l (ly_as rfl) (hd 3 rfl) ?_; refine jo_nil ?_; refine jc_ret ?_
  refine ⟨_, _, (.cons rfl (.cons rfl .nil)), (.t1 .n (.t1 .i .t0)), ?_⟩
  exact ⟨rp, ep, rfl, hp⟩
end Go.Proofs.Ytaogaegchagbfaa.Vc

/- Contract of div.times. -/
namespace Go.Proofs.Ytaogaegchagbfaa.Vc
open Go Go.RowKit
end Go.Proofs.Ytaogaegchagbfaa.Vc

/- Contract of div.Power. -/
namespace Go.Proofs.Ytaogaegchagbfaa.Vc
open Go Go.RowKit
end Go.Proofs.Ytaogaegchagbfaa.Vc

/- Contracts of whole.PowMod. -/
namespace Go.Proofs.Ytaogaegchagbfaa.Vc
open Go Go.RowKit
end Go.Proofs.Ytaogaegchagbfaa.Vc

/- Contracts of whole.Mul, Sub, Add by values, answers frozen. -/
namespace Go.Proofs.Ytaogaegchagbfaa.Vc
open Go Go.RowKit
end Go.Proofs.Ytaogaegchagbfaa.Vc

/- Contracts of whole.Of, flip, Sign by values. -/
namespace Go.Proofs.Ytaogaegchagbfaa.Vc
open Go Go.RowKit
end Go.Proofs.Ytaogaegchagbfaa.Vc

/- Contract of whole.cofactor. -/
namespace Go.Proofs.Ytaogaegchagbfaa.Vc
open Go Go.RowKit
end Go.Proofs.Ytaogaegchagbfaa.Vc

/- Contracts of div.Quo, whole.Bezout. -/
namespace Go.Proofs.Ytaogaegchagbfaa.Vc
open Go Go.RowKit
set_option maxHeartbeats 4000000 in
theorem Quo_v (v w : Int) (hv : lenV v ≤ 67108864) (hw : lenV w ≤ 67108864) (h0 : w ≠ 0) : Spec Try.prog 59 [.n false .u64 (lm v), .n false .u64 (lm w)] (fun o => o = .ret (.t [.n false .u64 (lm (qn v w)), .i .i64 0])) := by
  refine spec_of' [(0, .n false .u64 (lm v)), (1, .n false .u64 (lm w))] rfl Try.func59 rfl (Nat.le_of_ble_eq_true rfl) fun Γ hN hds hL hR => ?_
  have hd : ∀ d, Nat.blt d 25 = true → d < Γ.N := fun d h => by rw [hN]; exact Nat.le_of_ble_eq_true h
  have hlv := lenV_lm hv
  have hlw := lenV_lm hw
  have hle := lenV_mono (v := qn v w) (w := v) qn_le
  have hlq := lenV_lm (v := qn v w) (by omega)
  have hne := lm_ne h0
  refine jc_seq ?_; refine jc_region ?_; refine jo_l (ly_as rfl) (hd 4 rfl) ?_; refine jo_l (ly_as rfl) (hd 5 rfl) ?_; refine jo_nil ?_; refine jc_seq ?_; refine jc_region ?_; refine jo_l (ly_mv rfl) (hd 8 rfl) ?_
  refine jo_call Try.f42 (Norm_v v (by omega)) rfl Try.func42 rfl rfl (ovL_cons rfl ovL_nil) (.cons .n .nil) (hd 9 rfl) ?_ (fun ch hp => by simp at hp)
  rintro y hy; injection hy with hy; subst hy; refine jo_l (ly_mv rfl) (hd 10 rfl) ?_
  refine jo_call Try.f42 (Norm_v w (by omega)) rfl Try.func42 rfl rfl (ovL_cons rfl ovL_nil) (.cons .n .nil) (hd 11 rfl) ?_ (fun ch hp => by simp at hp)
  rintro y hy; injection hy with hy; subst hy; refine jo_l (ly_as rfl) (hd 0 rfl) ?_; refine jo_l (ly_as rfl) (hd 1 rfl) ?_; refine jo_nil ?_; refine jc_seq ?_; refine jc_seq ?_; refine jc_region ?_; refine jo_l (ly_mv rfl) (hd 12 rfl) ?_; refine jo_l (ly_lenn sl28 rfl) (hd 13 rfl) ?_; refine jo_l (ly_ff (ly_eq rfl rfl) (fun h => hne (List.eq_nil_of_length_eq_zero (by omega)))) (hd 14 rfl) ?_; refine jo_nil ?_; refine jc_litf rfl ?_; refine jc_skip ?_; refine jc_seq ?_; refine jc_region ?_; refine jo_l (ly_mv rfl) (hd 16 rfl) ?_; refine jo_l (ly_mv rfl) (hd 17 rfl) ?_
  refine jo_call Try.f92 (divide_v v w (by omega) (by omega) h0) rfl Try.func92 rfl rfl (ovL_cons rfl (ovL_cons rfl ovL_nil)) (.cons .n (.cons .n .nil)) (hd 18 rfl) ?_ (fun ch hp => by simp at hp)
  rintro y hy; injection hy with hy; subst hy; refine jo_l (ly_mv rfl) (hd 15 rfl) ?_; refine jo_l (ly_ext rfl rfl) (hd 19 rfl) ?_; refine jo_l (ly_ext rfl rfl) (hd 20 rfl) ?_; refine jo_l (ly_as rfl) (hd 6 rfl) ?_; refine jo_l (ly_as rfl) (hd 7 rfl) ?_; refine jo_nil ?_; refine jc_seq ?_; refine jc_seq ?_; refine jc_region ?_; refine jo_l (ly_mv rfl) (hd 21 rfl) ?_
  refine jo_call Try.f15 (Length_v (qn v w) (by omega)) rfl Try.func15 rfl rfl (ovL_cons rfl ovL_nil) (.cons .n .nil) (hd 22 rfl) ?_ (fun ch hp => by simp at hp)
  rintro y hy; injection hy with hy; subst hy; refine jo_l (ly_ff (ly_gt rfl rfl) (by omega)) (hd 23 rfl) ?_; refine jo_nil ?_; refine jc_litf rfl ?_; refine jc_skip ?_; refine jc_seq ?_; refine jc_region ?_; refine jo_l (ly_mv rfl) (hd 24 rfl) ?_; refine jo_l (ly_as rfl) (hd 4 rfl) ?_; refine jo_l (ly_as rfl) (hd 5 rfl) ?_; refine jo_nil ?_; refine jc_ret ?_
  refine ⟨_, _, (.cons rfl (.cons rfl .nil)), (.t1 .n (.t1 .i .t0)), ?_⟩
  exact rfl

end Go.Proofs.Ytaogaegchagbfaa.Vc

/- Contracts of whole.Bezout of 0, Inverse. -/
namespace Go.Proofs.Ytaogaegchagbfaa.Vc
open Go Go.RowKit
end Go.Proofs.Ytaogaegchagbfaa.Vc

/- Contracts of whole.Add, Mul, Abs by values, of Num.Is, of Copy: answers handed over. -/
namespace Go.Proofs.Ytaogaegchagbfaa.Vc
open Go Go.RowKit
end Go.Proofs.Ytaogaegchagbfaa.Vc

/- Contract of the parts of numeral.all. -/
namespace Go.Proofs.Ytaogaegchagbfaa.Vc
open Go Go.RowKit
set_option maxHeartbeats 4000000 in
theorem part_0 (b K : Nat) (hlb : 2 ≤ b) (hb2 : b ≤ 36) (hK : ∀ k, k < K → lenV ((b ^ 2 ^ k : Nat) : Int) ≤ 67108864) (hK2 : K ≤ 40) (l : List Int) (n : Nat) (hl : l.length ≤ 1048576) (hu : u64s l) (hx : (vl l).toNat < b ^ 2 ^ 0) (hn : 0 ≤ n) (hjK : 0 ≤ K) : SpecM Try.prog 110 [.n false .u64 l, .i .i64 (((0 : Nat) : Int) - 1), .q [.i .i64 (b : Int)], .q [.l true 1 (pwR b K)], .q [cyc 110 [.q [.i .i64 (b : Int)], .q [.l true 1 (pwR b K)]] [] n]] [] (fun o G => ∃ ver, o = .ret (.o 0 ver 0 (hdg b (2 ^ 0) (vl l).toNat).length) ∧ G = [⟨3, 1, ver, true, ints .i64 (hdg b (2 ^ 0) (vl l).toNat)⟩]) := by
  refine specS_of [(0, .n false .u64 l), (1, .i .i64 (((0 : Nat) : Int) - 1)), (2, .q [.i .i64 (b : Int)]), (3, .q [.l true 1 (pwR b K)]), (4, .q [cyc 110 [.q [.i .i64 (b : Int)], .q [.l true 1 (pwR b K)]] [] n])] rfl Try.func110 rfl (Nat.le_of_ble_eq_true rfl) fun Γ hN hds hL hR => ?_
  have hd : ∀ d, Nat.blt d 45 = true → d < Γ.N := fun d h => by rw [hN]; exact Nat.le_of_ble_eq_true h
  have hj40 : 2 ^ 0 ≤ 2 ^ 40 := two_cap (by omega)
  refine jc_seq ?_; refine jc_region ?_; refine jo_l (ly_as rfl) (hd 7 rfl) ?_; refine jo_nil ?_; refine jc_seq ?_; refine jc_seq ?_; refine jc_region ?_; refine jo_l (ly_mv rfl) (hd 11 rfl) ?_; refine jo_l (ly_tt (ly_lt rfl rfl) (by omega)) (hd 12 rfl) ?_; refine jo_l (ly_mv rfl) (hd 13 rfl) ?_; refine jo_s 13 rfl rfl rfl (hd 14 rfl) ?_; refine jo_s 13 rfl rfl rfl (hd 15 rfl) ?_; refine jo_s 13 rfl rfl rfl (hd 16 rfl) ?_; refine jo_l (ly_pick_t rfl rfl) (hd 17 rfl) ?_; refine jo_nil ?_; refine jc_litt rfl ?_; refine jc_seq ?_; refine jc_draw (n := 7) _ rfl mixed ?_; refine ja_l 0 (lo_l (ly_mv rfl) (hd 18 rfl)) rfl (by kernel_rfl) (by kernel_rfl) (by kernel_rfl) (fun _ _ _ _ h => h) ?_; refine ja_l 1 (lo_l (ly_ldq one3 rfl rfl) (hd 19 rfl)) rfl (by kernel_rfl) (by kernel_rfl) (by kernel_rfl) (fun _ _ _ _ h => h) ?_; refine ja_l2 2 [3, 4, 5, 6] (lo_l (ly_mv rfl) (hd 20 rfl)) rfl (by kernel_rfl) (by kernel_rfl) (by kernel_rfl) (by kernel_rfl) (fun _ _ _ _ h => h) ?_; refine ja_l2 3 [4, 5, 6] (lo_l (ly_add rfl rfl (r := (0 : Int)) (by rw [wrap_i64 (by omega) (by omega)]; omega)) (hd 21 rfl)) rfl (by kernel_rfl) (by kernel_rfl) (by kernel_rfl) (by kernel_rfl) (fun _ _ _ _ h => h) ?_; refine ja_l 4 (lo_l (ly_is (ly_shl rfl rfl (by omega) rfl) (show V.i .i64 _ = V.i .i64 ((2 ^ 0 : Nat) : Int) from rfl)) (hd 22 rfl)) rfl (by kernel_rfl) (by kernel_rfl) (by kernel_rfl) (fun _ _ _ _ h => h) ?_
  refine ja_1 5 ?_ rfl (by kernel_rfl)
  refine js_callN Try.f109 (digits_n l b (2 ^ 0) hl hu hlb hb2 (by omega)) (fun o G ⟨_, h⟩ => h ▸ idless_cons ints_id idless_nil) rfl Try.func109 rfl rfl (ovL_cons rfl (ovL_cons rfl (ovL_cons rfl ovL_nil))) (.cons .n (.cons .i (.cons .i .nil))) (hd 23 rfl) ?_ (fun ch G hp => by simp at hp)
  rintro y G ⟨hy, rfl⟩; injection hy with hy; subst hy
  show JA _ _ _ _ _ ((23, .o 0 0 0 (hdg b (2 ^ 0) (vl l).toNat).length) :: _) _ _
  refine ja_l 6 (lo_l (ly_as rfl) (hd 7 rfl)) rfl (by kernel_rfl) (by kernel_rfl) (by kernel_rfl) (fun _ _ _ _ h => h) ?_; refine ja_nil (by kernel_rfl) ?_; refine jc_ret ?_
  refine ⟨[0], _, (.o 0 0 0 (hdg b (2 ^ 0) (vl l).toNat).length), (.cons rfl .nil), rfl, rfl, (by decide), (by first | exact idless_cons ints_id idless_nil | exact idless_cons (by show List.all (ints _ _ ++ ints _ _) _ = true; rw [ints_append]; exact ints_id) idless_nil), ?_⟩
  exact ⟨0, rfl, rfl⟩

set_option maxHeartbeats 4000000 in
theorem part_1 (b K j : Nat) (hlb : 2 ≤ b) (hb2 : b ≤ 36) (hK : ∀ k, k < K → lenV ((b ^ 2 ^ k : Nat) : Int) ≤ 67108864) (hK2 : K ≤ 40) (ih : ∀ (l : List Int) (n : Nat) (hl : l.length ≤ 1048576) (hu : u64s l) (hx : (vl l).toNat < b ^ 2 ^ j) (hn : j ≤ n) (hjK : j ≤ K), SpecM Try.prog 110 [.n false .u64 l, .i .i64 (((j : Nat) : Int) - 1), .q [.i .i64 (b : Int)], .q [.l true 1 (pwR b K)], .q [cyc 110 [.q [.i .i64 (b : Int)], .q [.l true 1 (pwR b K)]] [] n]] [] (fun o G => o = .ret (.o 0 0 0 (hdg b (2 ^ j) (vl l).toNat).length) ∧ G = [⟨3, 1, 0, true, ints .i64 (hdg b (2 ^ j) (vl l).toNat)⟩])) (l : List Int) (n : Nat) (hl : l.length ≤ 1048576) (hu : u64s l) (hx : (vl l).toNat < b ^ 2 ^ (j + 1)) (hn : (j + 1) ≤ n) (hjK : (j + 1) ≤ K) : SpecM Try.prog 110 [.n false .u64 l, .i .i64 ((((j + 1) : Nat) : Int) - 1), .q [.i .i64 (b : Int)], .q [.l true 1 (pwR b K)], .q [cyc 110 [.q [.i .i64 (b : Int)], .q [.l true 1 (pwR b K)]] [] n]] [] (fun o G => ∃ ver, o = .ret (.o 0 ver 0 (hdg b (2 ^ (j + 1)) (vl l).toNat).length) ∧ G = [⟨3, 1, ver, true, ints .i64 (hdg b (2 ^ (j + 1)) (vl l).toNat)⟩]) := by
  refine specS_of [(0, .n false .u64 l), (1, .i .i64 ((((j + 1) : Nat) : Int) - 1)), (2, .q [.i .i64 (b : Int)]), (3, .q [.l true 1 (pwR b K)]), (4, .q [cyc 110 [.q [.i .i64 (b : Int)], .q [.l true 1 (pwR b K)]] [] n])] rfl Try.func110 rfl (Nat.le_of_ble_eq_true rfl) fun Γ hN hds hL hR => ?_
  have hd : ∀ d, Nat.blt d 45 = true → d < Γ.N := fun d h => by rw [hN]; exact Nat.le_of_ble_eq_true h
  have hj40 : 2 ^ (j + 1) ≤ 2 ^ 40 := two_cap (by omega)
  obtain ⟨n, rfl⟩ : ∃ m, n = m + 1 := ⟨n - 1, by omega⟩
  have hp0 := pw_pos (b := b) (k := j) hlb
  have hxv := nat_of hu
  have hv : lenV (vl l) ≤ 67108864 := by have := lenV_64 (s := false) hu; have e : sv false l = vl l := rfl; rw [e] at this; omega
  have hpw : ((b ^ 2 ^ j : Nat) : Int) ≠ 0 := by omega
  have hQn := qn_nat2 (p := b ^ 2 ^ j) hxv.symm
  have hRn := rn_nat2 (p := b ^ 2 ^ j) hxv.symm
  have hQl := lenV_lm (Nat.le_trans (lenV_mono (qn_le (v := vl l) (w := ((b ^ 2 ^ j : Nat) : Int)))) hv)
  have hRl := lenV_lm (Nat.le_trans (lenV_mono (rn_le (v := vl l) hpw).1) (hK j (by omega)))
  have hQx := part_q hx
  have hRx := part_r (j := j) (x := (vl l).toNat) hlb
  have hlQ : (hdg b (2 ^ j) (vl (lm (qn (vl l) ((b ^ 2 ^ j : Nat) : Int)))).toNat).length ≤ 1099511627776 := by rw [hdg_le, hQn]; have h1 := digs_len hlb _ _ hQx; have h2 : 2 ^ j ≤ 2 ^ 40 := two_cap (by omega); omega
  have hlR : (hdg b (2 ^ j) (vl (lm (rn (vl l) ((b ^ 2 ^ j : Nat) : Int)))).toNat).length ≤ 1099511627776 := by rw [hdg_le, hRn]; have h1 := digs_len hlb _ _ hRx; have h2 : 2 ^ j ≤ 2 ^ 40 := two_cap (by omega); omega
  refine jc_seq ?_; refine jc_region ?_; refine jo_l (ly_as rfl) (hd 7 rfl) ?_; refine jo_nil ?_; refine jc_seq ?_; refine jc_seq ?_; refine jc_region ?_; refine jo_l (ly_mv rfl) (hd 11 rfl) ?_; refine jo_l (ly_ff (ly_lt rfl rfl) (by omega)) (hd 12 rfl) ?_; refine jo_l (ly_mv rfl) (hd 13 rfl) ?_; refine jo_g 13 rfl rfl (ly_mv rfl) (hd 14 rfl) ?_
  refine jo_callg Try.f15 13 rfl rfl (Length_s l (by omega) hu) rfl Try.func15 rfl rfl (ovL_cons rfl ovL_nil) (.cons .n .nil) (hd 15 rfl) ?_ (fun ch hp => by simp at hp)
  rintro y hy; injection hy with hy; subst hy; refine jo_g 13 rfl rfl (ly_le rfl rfl) (hd 16 rfl) ?_; refine jo_l (ly_pick_f rfl rfl) (hd 17 rfl) ?_; refine jo_nil ?_
  refine jc_if rfl (fun h1 => ?_) (fun h1 => ?_)
  · refine jc_seq ?_; refine jc_draw (n := 7) _ rfl mixed ?_; refine ja_l 0 (lo_l (ly_mv rfl) (hd 18 rfl)) rfl (by kernel_rfl) (by kernel_rfl) (by kernel_rfl) (fun _ _ _ _ h => h) ?_; refine ja_l 1 (lo_l (ly_ldq one3 rfl rfl) (hd 19 rfl)) rfl (by kernel_rfl) (by kernel_rfl) (by kernel_rfl) (fun _ _ _ _ h => h) ?_; refine ja_l2 2 [3, 4, 5, 6] (lo_l (ly_mv rfl) (hd 20 rfl)) rfl (by kernel_rfl) (by kernel_rfl) (by kernel_rfl) (by kernel_rfl) (fun _ _ _ _ h => h) ?_; refine ja_l2 3 [4, 5, 6] (lo_l (ly_add rfl rfl (r := (((j + 1 : Nat) : Int) : Int)) (by rw [wrap_i64 (by omega) (by omega)]; omega)) (hd 21 rfl)) rfl (by kernel_rfl) (by kernel_rfl) (by kernel_rfl) (by kernel_rfl) (fun _ _ _ _ h => h) ?_; refine ja_l 4 (lo_l (ly_is (ly_shl rfl rfl (by omega) rfl) (show V.i .i64 _ = V.i .i64 ((2 ^ (j + 1) : Nat) : Int) by rw [Int.one_mul, Int.toNat_natCast, Nat.min_eq_left (by have h : IntKind.i64.bits = 64 := rfl; omega), show (2 : Int) ^ (j + 1) = ((2 ^ (j + 1) : Nat) : Int) by simp]; generalize 2 ^ (j + 1) = q at *; exact congrArg (V.i .i64) (wrap_i64 (by omega) (by omega)))) (hd 22 rfl)) rfl (by kernel_rfl) (by kernel_rfl) (by kernel_rfl) (fun _ _ _ _ h => h) ?_
    refine ja_1 5 ?_ rfl (by kernel_rfl)
    refine js_callN Try.f109 (digits_n l b (2 ^ (j + 1)) hl hu hlb hb2 (by omega)) (fun o G ⟨_, h⟩ => h ▸ idless_cons ints_id idless_nil) rfl Try.func109 rfl rfl (ovL_cons rfl (ovL_cons rfl (ovL_cons rfl ovL_nil))) (.cons .n (.cons .i (.cons .i .nil))) (hd 23 rfl) ?_ (fun ch G hp => by simp at hp)
    rintro y G ⟨hy, rfl⟩; injection hy with hy; subst hy
    show JA _ _ _ _ _ ((23, .o 0 0 0 (hdg b (2 ^ (j + 1)) (vl l).toNat).length) :: _) _ _
    refine ja_l 6 (lo_l (ly_as rfl) (hd 7 rfl)) rfl (by kernel_rfl) (by kernel_rfl) (by kernel_rfl) (fun _ _ _ _ h => h) ?_; refine ja_nil (by kernel_rfl) ?_; refine jc_ret ?_
    refine ⟨[0], _, (.o 0 0 0 (hdg b (2 ^ (j + 1)) (vl l).toNat).length), (.cons rfl .nil), rfl, rfl, (by decide), (by first | exact idless_cons ints_id idless_nil | exact idless_cons (by show List.all (ints _ _ ++ ints _ _) _ = true; rw [ints_append]; exact ints_id) idless_nil), ?_⟩
    exact ⟨0, rfl, rfl⟩
  · refine jc_skip ?_; refine jc_seq ?_; refine jc_region ?_; refine jo_l (ly_mv rfl) (hd 25 rfl) ?_; refine jo_l (ly_ldq one1132 rfl rfl) (hd 26 rfl) ?_; refine jo_l (ly_mv rfl) (hd 27 rfl) ?_; refine jo_l (ly_ial (i := j) (row := [pwV b j]) sl1132 rfl rfl (by omega) (pw_at (by omega))) (hd 28 rfl) ?_; refine jo_l (ly_ldq one28 rfl rfl) (hd 29 rfl) ?_
    refine jo_call Try.f111 (Both_r l ((b ^ 2 ^ j : Nat) : Int) hl hu (hK j (by omega)) hpw) rfl Try.func111 rfl rfl (ovL_cons rfl (ovL_cons rfl ovL_nil)) (.cons .n (.cons .n .nil)) (hd 30 rfl) ?_ (fun ch hp => by simp at hp)
    rintro y hy; injection hy with hy; subst hy; refine jo_l (ly_mv rfl) (hd 24 rfl) ?_; refine jo_l (ly_ext rfl rfl) (hd 31 rfl) ?_; refine jo_l (ly_ext rfl rfl) (hd 32 rfl) ?_; refine jo_l (ly_ext rfl rfl) (hd 33 rfl) ?_; refine jo_l (ly_as rfl) (hd 8 rfl) ?_; refine jo_l (ly_as rfl) (hd 9 rfl) ?_; refine jo_l (ly_as rfl) (hd 10 rfl) ?_; refine jo_nil ?_; refine jc_seq ?_; refine jc_draw (n := 12) _ rfl mixed ?_; refine ja_l2 0 [4, 9, 10, 11] (lo_l (ly_ldqf one1112 rfl rfl) (hd 34 rfl)) rfl (by kernel_rfl) (by kernel_rfl) (by kernel_rfl) (by kernel_rfl) (fun _ _ _ _ h => h) ?_; refine ja_l2 1 [4, 9, 10, 11] (lo_l (ly_mv rfl) (hd 35 rfl)) rfl (by kernel_rfl) (by kernel_rfl) (by kernel_rfl) (by kernel_rfl) (fun _ _ _ _ h => h) ?_; refine ja_l2 2 [3, 4, 9, 10, 11] (lo_l (ly_mv rfl) (hd 36 rfl)) rfl (by kernel_rfl) (by kernel_rfl) (by kernel_rfl) (by kernel_rfl) (fun _ _ _ _ h => h) ?_; refine ja_l2 3 [4, 9, 10, 11] (lo_l (ly_is (ly_sub rfl rfl (wrap_i64 (by omega) (by omega))) (show V.i .i64 _ = V.i .i64 ((j : Int) - 1) by congr 1; omega)) (hd 37 rfl)) rfl (by kernel_rfl) (by kernel_rfl) (by kernel_rfl) (by kernel_rfl) (fun _ _ _ _ h => h) ?_; refine ja_l2 5 [9, 10, 11] (lo_l (ly_ldqf one1112 rfl rfl) (hd 39 rfl)) rfl (by kernel_rfl) (by kernel_rfl) (by kernel_rfl) (by kernel_rfl) (fun _ _ _ _ h => h) ?_; refine ja_l2 6 [9, 10, 11] (lo_l (ly_mv rfl) (hd 40 rfl)) rfl (by kernel_rfl) (by kernel_rfl) (by kernel_rfl) (by kernel_rfl) (fun _ _ _ _ h => h) ?_; refine ja_l2 7 [8, 9, 10, 11] (lo_l (ly_mv rfl) (hd 41 rfl)) rfl (by kernel_rfl) (by kernel_rfl) (by kernel_rfl) (by kernel_rfl) (fun _ _ _ _ h => h) ?_; refine ja_l2 8 [9, 10, 11] (lo_l (ly_is (ly_sub rfl rfl (wrap_i64 (by omega) (by omega))) (show V.i .i64 _ = V.i .i64 ((j : Int) - 1) by congr 1; omega)) (hd 42 rfl)) rfl (by kernel_rfl) (by kernel_rfl) (by kernel_rfl) (by kernel_rfl) (fun _ _ _ _ h => h) ?_
    refine ja_1 4 ?_ rfl (by kernel_rfl)
    refine js_callNC Try.f110 (ih (lm (qn (vl l) ((b ^ 2 ^ j : Nat) : Int))) n hQl (lm_u _) (by rw [hQn]; exact hQx) (by omega) (by omega)) (fun o G ⟨_, h⟩ => h ▸ idless_cons ints_id idless_nil) rfl Try.func110 rfl rfl (ovL_cons rfl (ovL_cons rfl ovL_nil)) (.cons .n (.cons .i (.cons .q (.cons .q (.cons .q .nil))))) (hd 38 rfl) ?_ (fun ch G hp => by simp at hp)
    rintro y G ⟨hy, rfl⟩; injection hy with hy; subst hy
    show JA _ _ _ _ _ ((38, .o 0 0 0 (hdg b (2 ^ j) (vl (lm (qn (vl l) ((b ^ 2 ^ j : Nat) : Int)))).toNat).length) :: _) _ _
    refine ja_1 9 ?_ rfl (by kernel_rfl)
    refine js_callNC Try.f110 (ih (lm (rn (vl l) ((b ^ 2 ^ j : Nat) : Int))) n hRl (lm_u _) (by rw [hRn]; exact hRx) (by omega) (by omega)) (fun o G ⟨_, h⟩ => h ▸ idless_cons ints_id idless_nil) rfl Try.func110 rfl rfl (ovL_cons rfl (ovL_cons rfl ovL_nil)) (.cons .n (.cons .i (.cons .q (.cons .q (.cons .q .nil))))) (hd 43 rfl) ?_ (fun ch G hp => by simp at hp)
    rintro y G ⟨hy, rfl⟩; injection hy with hy; subst hy
    show JA _ _ _ _ _ ((43, .o 1 0 0 (hdg b (2 ^ j) (vl (lm (rn (vl l) ((b ^ 2 ^ j : Nat) : Int)))).toNat).length) :: _) _ _
    refine ja_1 10 ?_ rfl (by kernel_rfl)
    refine js_app el1111 rfl rfl (by rw [ints_length, Nat.mul_one]) rfl (src_o rfl (by rw [ints_length, Nat.mul_one]) ints_one) (by show ((hdg b (2 ^ j) (vl (lm (qn (vl l) ((b ^ 2 ^ j : Nat) : Int)))).toNat).length + (hdg b (2 ^ j) (vl (lm (rn (vl l) ((b ^ 2 ^ j : Nat) : Int)))).toNat).length) * 8 ≤ _; omega) (by show (hdg b (2 ^ j) (vl (lm (qn (vl l) ((b ^ 2 ^ j : Nat) : Int)))).toNat).length + (hdg b (2 ^ j) (vl (lm (rn (vl l) ((b ^ 2 ^ j : Nat) : Int)))).toNat).length ≤ 9223372036854775807; omega) (hd 44 rfl) rfl ?_; refine ja_l 11 (lo_l (ly_as rfl) (hd 7 rfl)) rfl (by kernel_rfl) (by kernel_rfl) (by kernel_rfl) (fun _ _ _ _ h => h) ?_; refine ja_nil (by kernel_rfl) ?_; refine jc_ret ?_
    refine ⟨[0], _, (.o 0 1 0 ((hdg b (2 ^ j) (vl (lm (qn (vl l) ((b ^ 2 ^ j : Nat) : Int)))).toNat).length + (hdg b (2 ^ j) (vl (lm (rn (vl l) ((b ^ 2 ^ j : Nat) : Int)))).toNat).length)), (.cons rfl .nil), rfl, rfl, (by decide), (by first | exact idless_cons ints_id idless_nil | exact idless_cons (by show List.all (ints _ _ ++ ints _ _) _ = true; rw [ints_append]; exact ints_id) idless_nil), ?_⟩
    exact ⟨1, by show Out.ret (V.o _ _ _ ((hdg b (2 ^ j) (vl (lm (qn (vl l) ((b ^ 2 ^ j : Nat) : Int)))).toNat).length + (hdg b (2 ^ j) (vl (lm (rn (vl l) ((b ^ 2 ^ j : Nat) : Int)))).toNat).length)) = _; rw [← List.length_append, hQn, hRn, part_join hlb hx], by show [(⟨3, 1, 1, true, ints .i64 (hdg b (2 ^ j) (vl (lm (qn (vl l) ((b ^ 2 ^ j : Nat) : Int)))).toNat) ++ ints .i64 (hdg b (2 ^ j) (vl (lm (rn (vl l) ((b ^ 2 ^ j : Nat) : Int)))).toNat)⟩ : Ob)] = [⟨3, 1, 1, true, ints .i64 (hdg b (2 ^ (j + 1)) (vl l).toNat)⟩]; rw [ints_append, hQn, hRn, part_join hlb hx]⟩

theorem part_n (b K : Nat) (hlb : 2 ≤ b) (hb2 : b ≤ 36) (hK : ∀ k, k < K → lenV ((b ^ 2 ^ k : Nat) : Int) ≤ 67108864) (hK2 : K ≤ 40) : ∀ (j : Nat) (l : List Int) (n : Nat) (hl : l.length ≤ 1048576) (hu : u64s l) (hx : (vl l).toNat < b ^ 2 ^ j) (hn : j ≤ n) (hjK : j ≤ K), SpecM Try.prog 110 [.n false .u64 l, .i .i64 (((j : Nat) : Int) - 1), .q [.i .i64 (b : Int)], .q [.l true 1 (pwR b K)], .q [cyc 110 [.q [.i .i64 (b : Int)], .q [.l true 1 (pwR b K)]] [] n]] [] (fun o G => o = .ret (.o 0 0 0 (hdg b (2 ^ j) (vl l).toNat).length) ∧ G = [⟨3, 1, 0, true, ints .i64 (hdg b (2 ^ j) (vl l).toNat)⟩])
  | 0, l, n, hl, hu, hx, hn, hjK => (part_0 b K hlb hb2 hK hK2 l n hl hu hx hn hjK).ver0 ints_id
  | j + 1, l, n, hl, hu, hx, hn, hjK => (part_1 b K j hlb hb2 hK hK2 (fun l n hl hu hx hn hjK => part_n b K hlb hb2 hK hK2 j l n hl hu hx hn hjK) l n hl hu hx hn hjK).ver0 ints_id
end Go.Proofs.Ytaogaegchagbfaa.Vc

/- Contract of numeral.all. -/
namespace Go.Proofs.Ytaogaegchagbfaa.Vc
open Go Go.RowKit
set_option maxHeartbeats 4000000 in
theorem all_n (l : List Int) (b : Nat) (hl : l.length ≤ 1048576) (hu : u64s l) (hlb : 2 ≤ b) (hb2 : b ≤ 36) : SpecM Try.prog 80 [.n false .u64 l, .i .i64 (b : Int)] [] (fun o G => o = .ret (.o 0 0 0 (hdg b 1 (vl l).toNat).length) ∧ G = [⟨3, 1, 0, true, ints .i64 (hdg b 1 (vl l).toNat)⟩]) := by
  refine specS_of [(0, .n false .u64 l), (1, .i .i64 (b : Int))] rfl Try.func80 rfl (Nat.le_of_ble_eq_true rfl) fun Γ hN hds hL hR => ?_
  have hd : ∀ d, Nat.blt d 75 = true → d < Γ.N := fun d h => by rw [hN]; exact Nat.le_of_ble_eq_true h
  have hlenl := lenN_le l
  have hxv := nat_of hu
  have hv0 := vl_nonneg hu
  have hv : lenV (vl l) ≤ 67108864 := by have := lenV_64 (s := false) hu; have e : sv false l = vl l := rfl; rw [e] at this; omega
  have hxp := lenV_pow hv0 hv
  have hF : Spec Try.prog 43 [.i .u64 (b : Int)] (fun o => o = .ret (.n true .u64 (lm ((b ^ 2 ^ 0 : Nat) : Int)))) := by have h := From_s (b : Int); rwa [show (if (b : Int) = 0 then [] else [(b : Int)]) = lm ((b ^ 2 ^ 0 : Nat) : Int) from by rw [Nat.pow_zero, Nat.pow_one]; exact fl_lm (by omega) (by omega)] at h
  refine jc_seq ?_; refine jc_region ?_; refine jo_h (hy_box (id := 0) (n := 1) rfl rfl rfl (by decide) rfl) (hd 3 rfl) ?_; refine jo_l (ly_as rfl) (hd 4 rfl) ?_; refine jo_nil ?_; refine jc_seq ?_; refine jc_seq ?_; refine jc_region ?_; refine jo_l (ly_mv rfl) (hd 12 rfl) ?_
  refine jo_call Try.f15 (Length_s l (by omega) hu) rfl Try.func15 rfl rfl (ovL_cons rfl ovL_nil) (.cons .n .nil) (hd 13 rfl) ?_ (fun ch hp => by simp at hp)
  rintro y hy; injection hy with hy; subst hy; refine jo_l (ly_le rfl rfl) (hd 14 rfl) ?_; refine jo_l (ly_mv rfl) (hd 15 rfl) ?_
  refine jo_ifp 15 rfl (fun h1 => ?_) (fun h1 => ?_)
  · refine jo_s 15 rfl rfl rfl (hd 16 rfl) ?_; refine jo_s 15 rfl rfl rfl (hd 17 rfl) ?_; refine jo_s 15 rfl rfl rfl (hd 18 rfl) ?_; refine jo_l (ly_pick_t rfl rfl) (hd 19 rfl) ?_; refine jo_nil ?_; refine jc_litt rfl ?_; refine jc_seq ?_; refine jc_region ?_; refine jo_l (ly_mv rfl) (hd 20 rfl) ?_; refine jo_l (ly_ld one3 rfl rfl rfl) (hd 21 rfl) ?_
    refine jo_callN Try.f109 (digits_n l b 1 hl hu hlb hb2 (by decide)) (fun o G ⟨_, h⟩ => h ▸ idless_cons ints_id idless_nil) rfl Try.func109 rfl rfl (ovL_cons rfl (ovL_cons rfl (ovL_cons rfl ovL_nil))) (.cons .n (.cons .i (.cons .i .nil))) (hd 22 rfl) ?_ (fun ch G hp => by simp at hp)
    rintro y G ⟨hy, rfl⟩; injection hy with hy; subst hy
    show JO _ _ _ _ ((22, .o 1 0 0 (hdg b 1 (vl l).toNat).length) :: _) _ _
    refine jo_l (ly_as rfl) (hd 4 rfl) ?_; refine jo_nil ?_; refine jc_ret ?_
    refine ⟨[1], _, (.o 0 0 0 (hdg b 1 (vl l).toNat).length), (.cons rfl .nil), rfl, rfl, (by decide), (idless_cons ints_id idless_nil), ?_⟩
    exact ⟨rfl, rfl⟩
  · refine jo_g 15 rfl rfl (ly_mv rfl) (hd 16 rfl) ?_
    refine jo_callg Try.f15 15 rfl rfl (Length_s l (by omega) hu) rfl Try.func15 rfl rfl (ovL_cons rfl ovL_nil) (.cons .n .nil) (hd 17 rfl) ?_ (fun ch hp => by simp at hp)
    rintro y hy; injection hy with hy; subst hy; refine jo_g 15 rfl rfl (ly_ff (ly_gt rfl rfl) (by omega)) (hd 18 rfl) ?_; refine jo_l (ly_pick_f rfl rfl) (hd 19 rfl) ?_; refine jo_nil ?_; refine jc_litf rfl ?_; refine jc_skip ?_; refine jc_seq ?_; refine jc_region ?_; refine jo_l (ly_ld one3 rfl rfl rfl) (hd 23 rfl) ?_; refine jo_l (ly_conv und3 und82 rfl (r := (b : Int)) (wrap_u64 (by omega) (by omega))) (hd 24 rfl) ?_
    refine jo_call Try.f43 (hF) rfl Try.func43 rfl rfl (ovL_cons rfl ovL_nil) (.cons .i .nil) (hd 25 rfl) ?_ (fun ch hp => by simp at hp)
    rintro y hy; injection hy with hy; subst hy; refine jo_h (hy_lit (id := 1) (xs := [.tmp 25]) el1132 rfl (ovL_cons rfl ovL_nil) rfl (all2_of rfl) (by decide) rfl) (hd 26 rfl) ?_; refine jo_h (hy_alloc (id := 2) zero1132 (by decide) rfl (by decide) rfl) (hd 5 rfl) ?_; refine jo_st (sy_store rfl rfl rfl siz1132 rfl rfl (Nat.le_of_ble_eq_true rfl)) ?_; refine jo_nil ?_
    refine jc_meet (G := Nat) (fun k => k ≤ 26 ∧ lenV ((b ^ 2 ^ k : Nat) : Int) ≤ 67108864 ∧ (vl l).toNat < b ^ 2 ^ (k + 1)) (fun k => [(6, .u), (7, .u), (8, .u), (27, .u), (28, .u), (29, .u), (30, .u), (31, .u), (32, .u), (33, .u), (34, .u), (35, .u), (36, .u), (37, .u), (38, .u), (39, .u), (40, .u), (41, .u), (42, .u), (43, .u), (44, .u), (45, .u), (46, .u), (47, .u), (48, .u), (49, .u)]) (fun k => [⟨3, 1, 0, true, [.i .i64 (b : Int)]⟩, ⟨23, 1, k, true, (pwR b (k + 1)).flatten⟩, ⟨132, 1, 0, true, [.o 1 k 0 (k + 1)]⟩]) ?_ ?_
    · refine jc_block ?_; refine jc_H (H' := [⟨3, 1, 0, true, [.i .i64 (b : Int)]⟩, ⟨23, 1, 0, true, (pwR b (0 + 1)).flatten⟩, ⟨132, 1, 0, true, [.o 1 0 0 (0 + 1)]⟩]) (by rw [← pw_one]; rfl) ?_
      refine jc_loopD (G := Nat) 3 (fun k => k ≤ 26 ∧ lenV ((b ^ 2 ^ k : Nat) : Int) ≤ 67108864) (fun k => [(6, .u), (7, .u), (8, .u), (27, .u), (28, .u), (29, .u), (30, .u), (31, .u), (32, .u), (33, .u), (34, .u), (35, .u), (36, .u), (37, .u), (38, .u), (39, .u), (40, .u), (41, .u), (42, .u), (43, .u), (44, .u), (45, .u), (46, .u), (47, .u), (48, .u), (49, .u)]) (fun k => [⟨3, 1, 0, true, [.i .i64 (b : Int)]⟩, ⟨23, 1, k, true, (pwR b (k + 1)).flatten⟩, ⟨132, 1, 0, true, [.o 1 k 0 (k + 1)]⟩]) (fun k => 27 - k) 0 ?_ ?_ rfl hR rfl (fun _ _ => rfl) (fun k _ => .cons rfl (.cons pw_id (.cons rfl .nil))) ?_
      · exact ⟨by decide, Nat.le_trans (lenV_mono (w := 36) (by rw [Int.natAbs_natCast, Nat.pow_zero, Nat.pow_one]; omega)) (by decide)⟩
      · exact (.u (.u (.u (.u (.u (.u (.u (.u (.u (.u (.u (.u (.u (.u (.u (.u (.u (.u (.u (.u (.u (.u (.u (.u (.u (.u .nil))))))))))))))))))))))))))
      · rintro k ⟨hk26, hkl⟩
        have hkm := lenV_lm hkl
        refine jc_block ?_; refine jc_seq ?_; refine jc_region ?_; refine jo_l (ly_ld one1132 rfl rfl rfl) (hd 27 rfl) ?_; refine jo_l (ly_ld one1132 rfl rfl rfl) (hd 28 rfl) ?_; refine jo_l (ly_leno sl1132 rfl rfl) (hd 29 rfl) ?_; refine jo_l (ly_sub rfl rfl (wrap_i64 (by omega) (by omega))) (hd 30 rfl) ?_; refine jo_l (ly_ia (i := k) sl1132 rfl rfl rfl (by omega) (by omega) rfl) (hd 31 rfl) ?_; refine jo_l (ly_ld (y := pwV b k) one28 rfl rfl (by rw [Nat.zero_add, Nat.mul_one]; exact pw_fat (by omega))) (hd 32 rfl) ?_; refine jo_l (ly_as rfl) (hd 6 rfl) ?_; refine jo_nil ?_; refine jc_seq ?_; refine jc_region ?_; refine jo_l (ly_mv rfl) (hd 34 rfl) ?_
        refine jo_call Try.f13 (Square_l (lm ((b ^ 2 ^ k : Nat) : Int)) (by omega) (lm_u _)) rfl Try.func13 rfl rfl (ovL_cons rfl ovL_nil) (.cons .n .nil) (hd 35 rfl) ?_ (fun ch hp => by simp at hp)
        rintro y ⟨r2, e2, hy, he2⟩; injection hy with hy; subst hy
        rw [pw_sqI] at he2
        have hle2 := errL_len he2
        have hu2 := errL_u he2
        have hcv := cmpL_val hu2 hu
        refine jo_l (ly_mv rfl) (hd 33 rfl) ?_; refine jo_l (ly_ext rfl rfl) (hd 36 rfl) ?_; refine jo_l (ly_ext rfl rfl) (hd 37 rfl) ?_; refine jo_l (ly_as rfl) (hd 7 rfl) ?_; refine jo_l (ly_as rfl) (hd 8 rfl) ?_; refine jo_nil ?_; refine jc_seq ?_; refine jc_seq ?_; refine jc_region ?_; refine jo_l (ly_mv rfl) (hd 38 rfl) ?_; refine jo_l (ly_ne rfl rfl) (hd 39 rfl) ?_; refine jo_l (ly_mv rfl) (hd 40 rfl) ?_
        refine jo_ifp 40 rfl (fun h4 => ?_) (fun h4 => ?_)
        · refine jo_s 40 rfl rfl rfl (hd 41 rfl) ?_; refine jo_s 40 rfl rfl rfl (hd 42 rfl) ?_; refine jo_s 40 rfl rfl rfl (hd 43 rfl) ?_; refine jo_s 40 rfl rfl rfl (hd 44 rfl) ?_; refine jo_l (ly_pick_t rfl rfl) (hd 45 rfl) ?_; refine jo_nil ?_; refine jc_litt rfl ?_; refine jc_exit ?_
          refine ⟨k, ?_, rfl, cov_n 49 rfl rfl ?_⟩
          · exact ⟨hk26, hkl, pw_big hv hv0 (errL_ne he2 (by assumption))⟩
          · exact (.u (.u (.u (.u (.u (.u (.u (.u (.u (.u (.u (.u (.u (.u (.u (.u (.u (.u (.u (.u (.u (.u (.u (.u (.u (.u .nil))))))))))))))))))))))))))
        · obtain ⟨hr2, hle9⟩ := errL_eq he2 (Decidable.not_not.1 h4)
          have hvr : vl r2 = ((b ^ 2 ^ (k + 1) : Nat) : Int) := by rw [hr2, vl_lm (Int.natCast_nonneg _)]
          refine jo_g 40 rfl rfl (ly_mv rfl) (hd 41 rfl) ?_; refine jo_g 40 rfl rfl (ly_mv rfl) (hd 42 rfl) ?_
          refine jo_callg Try.f12 40 rfl rfl (Compare_s r2 l (by omega) (by omega)) rfl Try.func12 rfl rfl (ovL_cons rfl (ovL_cons rfl ovL_nil)) (.cons .n (.cons .n .nil)) (hd 43 rfl) ?_ (fun ch hp => by simp at hp)
          rintro y hy; injection hy with hy; subst hy; refine jo_g 40 rfl rfl (ly_gt rfl rfl) (hd 44 rfl) ?_; refine jo_l (ly_pick_f rfl rfl) (hd 45 rfl) ?_; refine jo_nil ?_
          refine jc_if rfl (fun h6 => ?_) (fun h6 => ?_)
          · refine jc_exit ?_
            refine ⟨k, ?_, rfl, cov_n 49 rfl rfl ?_⟩
            · exact ⟨hk26, hkl, by rcases hcv with ⟨c, v⟩ | ⟨c, v⟩ | ⟨c, v⟩ <;> omega⟩
            · exact (.u (.u (.u (.u (.u (.u (.u (.u (.u (.u (.u (.u (.u (.u (.u (.u (.u (.u (.u (.u (.u (.u (.u (.u (.u (.u .nil))))))))))))))))))))))))))
          · have hge : b ^ 2 ^ (k + 1) ≤ (vl l).toNat := by rcases hcv with ⟨c, v⟩ | ⟨c, v⟩ | ⟨c, v⟩ <;> omega
            have hkeep : k + 1 ≤ 26 ∧ lenV ((b ^ 2 ^ (k + 1) : Nat) : Int) ≤ 67108864 := ⟨pw_cap26 hlb hge hxp, hle9⟩
            refine jc_skip ?_; refine jc_region ?_; refine jo_l (ly_ld one1132 rfl rfl rfl) (hd 46 rfl) ?_; refine jo_l (ly_mv rfl) (hd 47 rfl) ?_; refine jo_h (hy_lit (id := 3) (xs := [.tmp 47]) el1132 rfl (ovL_cons rfl ovL_nil) rfl (all2_of rfl) (by decide) rfl) (hd 48 rfl) ?_; refine jo_app el1132 rfl rfl (by rw [pw_flen, Nat.mul_one]) rfl (src_o rfl rfl rfl) (by show (k + 1 + 1) * 24 ≤ _; omega) (by show k + 1 + 1 ≤ 9223372036854775807; omega) (hd 49 rfl) ?_; refine jo_st (sy_store rfl rfl rfl siz1132 rfl (by simp [cellsV, oneO]) (Nat.le_of_ble_eq_true rfl)) ?_; refine jo_nil ?_
            refine ⟨k + 1, ?_, ?_, (by show [_, (⟨23, 1, k + 1, true, (pwR b (k + 1)).flatten ++ [V.n true .u64 r2]⟩ : Ob), _] = [_, ⟨23, 1, k + 1, true, (pwR b (k + 1 + 1)).flatten⟩, _]; rw [hr2, ← pw_snoc (K := k + 1)]; rfl), cov_n 53 rfl rfl ?_⟩
            · exact hkeep
            · omega
            · exact (.u (.u (.u (.u (.u (.u (.u (.u (.u (.u (.u (.u (.u (.u (.u (.u (.u (.u (.u (.u (.u (.u (.u (.u (.u (.u .nil))))))))))))))))))))))))))
    · rintro k ⟨hk26, hkl, hx⟩
      have hK : ∀ j, j < k + 1 → lenV ((b ^ 2 ^ j : Nat) : Int) ≤ 67108864 := fun j hj => Nat.le_trans (pw_mono hlb (by omega)) hkl
      have hx0 : (vl l).toNat ≠ 0 := fun h0 => by have h1 := (lenN_zero hu).2 (by omega); omega
      have hdm := digs_len hlb _ _ hx
      have hlen : (hdg b (2 ^ (k + 1)) (vl l).toNat).length = 2 ^ (k + 1) := by rw [hdg_le]; omega
      have h27 : 2 ^ (k + 1) ≤ 2 ^ 27 := two_cap (by omega)
      refine jc_seq ?_; refine jc_region ?_; refine jo_h (hy_alloc (id := 3) zero1112 (by decide) rfl (by decide) rfl) (hd 9 rfl) ?_; refine jo_nil ?_; refine jc_seq ?_; refine jc_frzrc 0 (idB := 2) (id := 1) (pwR b (k + 1)) rfl rfl rfl rfl pw_length pw_sz pw_pure (by decide) hL ?_; refine jc_frzp 5 rfl rfl rfl rfl hL ?_; refine jc_frzp 3 rfl rfl rfl rfl hL ?_; refine jc_region ?_; refine jo_l (ly_mf (ovL_cons rfl (ovL_cons rfl (ovL_cons rfl ovL_nil)))) (hd 50 rfl) ?_; refine jo_st (sy_store rfl rfl rfl siz1112 rfl rfl (Nat.le_of_ble_eq_true rfl)) ?_; refine jo_nil ?_; refine jc_seq ?_; refine jc_cyc 9 [.q [.i .i64 (b : Int)], .q [.l true 1 (pwR b (k + 1))]] [] (k + 2) rfl rfl rfl rfl hL ?_; refine jc_region ?_; refine jo_l (ly_ldqf one1112 rfl rfl) (hd 51 rfl) ?_; refine jo_l (ly_mv rfl) (hd 52 rfl) ?_; refine jo_l (ly_ldq one1132 rfl rfl) (hd 53 rfl) ?_; refine jo_l (ly_is (ly_lenl sl1132 rfl) (show V.i .i64 _ = V.i .i64 ((k + 1 : Nat) : Int) by rw [pw_length])) (hd 54 rfl) ?_; refine jo_l (ly_sub rfl rfl (wrap_i64 (by omega) (by omega))) (hd 55 rfl) ?_
      refine jo_callNC Try.f110 (part_n b (k + 1) hlb hb2 hK (by omega) (k + 1) l (k + 1) hl hu hx (Nat.le_refl _) (Nat.le_refl _)) (fun o G ⟨_, h⟩ => h ▸ idless_cons ints_id idless_nil) rfl Try.func110 rfl rfl (ovL_cons rfl (ovL_cons rfl ovL_nil)) (.cons .n (.cons .i (.cons .q (.cons .q (.cons .q .nil))))) (hd 56 rfl) ?_ (fun ch G hp => by simp at hp)
      rintro y G ⟨hy, rfl⟩; injection hy with hy; subst hy
      show JO _ _ _ _ ((56, .o 4 0 0 (hdg b (2 ^ (k + 1)) (vl l).toNat).length) :: _) _ _
      refine jo_l (ly_as rfl) (hd 10 rfl) ?_; refine jo_nil ?_; refine jc_seq ?_; refine jc_region ?_; refine jo_l (ly_as rfl) (hd 11 rfl) ?_; refine jo_nil ?_
      refine jc_meetH (G := Nat) (fun i => i = (2 ^ (k + 1) - (digs b (vl l).toNat).length)) (fun i => [(11, .i .i64 (i : Int)), (57, .u), (58, .u), (59, .u), (60, .u), (61, .u), (62, .u), (63, .u), (64, .u), (65, .u), (66, .u), (67, .u), (68, .u), (69, .u), (70, .u)]) ?_ ?_
      · refine jc_block ?_
        refine jc_loopF (G := Nat) (fun i => i ≤ (2 ^ (k + 1) - (digs b (vl l).toNat).length)) (fun i => [(11, .i .i64 (i : Int)), (57, .u), (58, .u), (59, .u), (60, .u), (61, .u), (62, .u), (63, .u), (64, .u), (65, .u), (66, .u), (67, .u), (68, .u), (69, .u), (70, .u)]) (fun _ => _) (fun i => (2 ^ (k + 1) - (digs b (vl l).toNat).length) - i) 0 ?_ ?_ rfl ?_
        · exact Nat.zero_le _
        · exact (.cons rfl (.u (.u (.u (.u (.u (.u (.u (.u (.u (.u (.u (.u (.u (.u .nil)))))))))))))))
        · rintro i hiz; refine jc_seq ?_; refine jc_seq ?_; refine jc_region ?_; refine jo_l (ly_mv rfl) (hd 57 rfl) ?_; refine jo_l (ly_mv rfl) (hd 58 rfl) ?_; refine jo_l (ly_leno sl1111 rfl rfl) (hd 59 rfl) ?_; refine jo_l (ly_sub rfl rfl (wrap_i64 (by omega) (by omega))) (hd 60 rfl) ?_; refine jo_l (ly_lt rfl rfl) (hd 61 rfl) ?_; refine jo_l (ly_mv rfl) (hd 62 rfl) ?_
          refine jo_ifp 62 rfl (fun h7 => ?_) (fun h7 => ?_)
          · refine jo_g 62 rfl rfl (ly_mv rfl) (hd 63 rfl) ?_; refine jo_g 62 rfl rfl (ly_mv rfl) (hd 64 rfl) ?_; refine jo_g 62 rfl rfl (ly_ia (i := i) sl1111 rfl rfl rfl (by first | rfl | omega) (by omega) rfl) (hd 65 rfl) ?_; refine jo_g 62 rfl rfl (ly_is (ly_ldi one3 rfl rfl (by first | omega | (dsimp only; omega))) (show V.i .i64 _ = V.i .i64 ((hdg b (2 ^ (k + 1)) (vl l).toNat).getD i 0) by rw [Nat.zero_add, Nat.mul_one])) (hd 66 rfl) ?_; refine jo_g 62 rfl rfl (ly_eq rfl rfl) (hd 67 rfl) ?_; refine jo_l (ly_pick_t rfl rfl) (hd 68 rfl) ?_; refine jo_nil ?_
            refine jc_if rfl (fun h8 => ?_) (fun h8 => ?_)
            · have hz0 := h8
              refine jc_skip ?_; refine jc_block ?_; refine jc_region ?_; refine jo_l (ly_mv rfl) (hd 69 rfl) ?_; refine jo_l (ly_add rfl rfl (r := ((i + 1 : Nat) : Int)) (by rw [wrap_i64 (by omega) (by omega)]; omega)) (hd 70 rfl) ?_; refine jo_l (ly_as rfl) (hd 11 rfl) ?_; refine jo_nil ?_
              refine ⟨i + 1, ?_, ?_, rfl, cov_n 31 rfl rfl ?_⟩
              · exact cut_next hlb hx0 hdm hiz hz0
              · have := cut_next hlb hx0 hdm hiz hz0
                omega
              · exact (.cons rfl (.u (.u (.u (.u (.u (.u (.u (.u (.u (.u (.u (.u (.u (.u .nil)))))))))))))))
            · refine jc_exit ?_
              refine ⟨i, ?_, rfl, cov_n 28 rfl rfl ?_⟩
              · exact cut_at hlb hx0 hdm hiz (by first | (left; omega) | (right; assumption))
              · exact (.cons rfl (.u (.u (.u (.u (.u (.u (.u (.u (.u (.u (.u (.u (.u (.u .nil)))))))))))))))
          · refine jo_s 62 rfl rfl rfl (hd 63 rfl) ?_; refine jo_s 62 rfl rfl rfl (hd 64 rfl) ?_; refine jo_s 62 rfl rfl rfl (hd 65 rfl) ?_; refine jo_s 62 rfl rfl rfl (hd 66 rfl) ?_; refine jo_s 62 rfl rfl rfl (hd 67 rfl) ?_; refine jo_l (ly_pick_f rfl rfl) (hd 68 rfl) ?_; refine jo_nil ?_; refine jc_litf rfl ?_; refine jc_exit ?_
            refine ⟨i, ?_, rfl, cov_n 28 rfl rfl ?_⟩
            · exact cut_at hlb hx0 hdm hiz (by first | (left; omega) | (right; assumption))
            · exact (.cons rfl (.u (.u (.u (.u (.u (.u (.u (.u (.u (.u (.u (.u (.u (.u .nil)))))))))))))))
      · rintro i hiz
        have hdr := cut_drop (m := 2 ^ (k + 1)) hlb hx0
        have hR1l : (hdg b 1 (vl l).toNat).length = (hdg b (2 ^ (k + 1)) (vl l).toNat).length - i := by rw [← hdr, List.length_drop, hiz]
        refine jc_seq ?_; refine jc_region ?_; refine jo_l (ly_mv rfl) (hd 71 rfl) ?_; refine jo_l (ly_mv rfl) (hd 72 rfl) ?_; refine jo_l (ly_slo (l := i) (h := (hdg b (2 ^ (k + 1)) (vl l).toNat).length) (r := i) (n := (hdg b (2 ^ (k + 1)) (vl l).toNat).length - i) sl1111 rfl rfl (bnd_some' rfl rfl) bnd_none (by omega) (Nat.le_refl _) (by omega) rfl) (hd 73 rfl) ?_; refine jo_h (hy_app0 (id := 5) el1111 rfl rfl (src_oo rfl (by omega)) (by omega) (by show _ ≤ 9223372036854775807; omega) rfl) (hd 74 rfl) ?_; refine jo_l (ly_as rfl) (hd 4 rfl) ?_; refine jo_nil ?_; refine jc_ret ?_
        refine ⟨[5], _, (.o 0 0 0 ((hdg b (2 ^ (k + 1)) (vl l).toNat).length - i)), (.cons rfl .nil), rfl, rfl, (by decide), (idless_cons ints_id idless_nil), ?_⟩
        exact ⟨by rw [hR1l], by show [(⟨3, 1, 0, true, ints .i64 (((hdg b (2 ^ (k + 1)) (vl l).toNat).drop i).take ((hdg b (2 ^ (k + 1)) (vl l).toNat).length - i))⟩ : Ob)] = [⟨3, 1, 0, true, ints .i64 (hdg b 1 (vl l).toNat)⟩]; rw [List.take_of_length_le (by rw [List.length_drop]; exact Nat.le_refl _), hiz, hdr]⟩
end Go.Proofs.Ytaogaegchagbfaa.Vc

/- Contracts of numeral.text, good, Print. -/
namespace Go.Proofs.Ytaogaegchagbfaa.Vc
open Go Go.RowKit
set_option maxHeartbeats 4000000 in
theorem text_s (l : List Int) (hl : l.length < 1099511627776) (hr : rng 36 l) : Spec Try.prog 79 [.n false .i64 l] (fun o => o = .ret (.n true .u8 (bytesI (txt l)))) := by
  refine spec_of' [(0, .n false .i64 l)] rfl Try.func79 rfl (Nat.le_of_ble_eq_true rfl) fun Γ hN hds hL hR => ?_
  have hd : ∀ d, Nat.blt d 23 = true → d < Γ.N := fun d h => by rw [hN]; exact Nat.le_of_ble_eq_true h
  refine jc_seq ?_; refine jc_region ?_; refine jo_l (ly_as rfl) (hd 2 rfl) ?_; refine jo_nil ?_; refine jc_seq ?_; refine jc_region ?_; refine jo_l (ly_mv rfl) (hd 6 rfl) ?_; refine jo_l (ly_lenn sl1111 rfl) (hd 7 rfl) ?_; refine jo_h (hy_mk (m := l.length) el1109 rfl rfl rfl (by show 1 * l.length ≤ _; omega) (by unfold maxLen; omega) rfl) (hd 8 rfl) ?_; refine jo_l (ly_as rfl) (hd 3 rfl) ?_; refine jo_nil ?_; refine jc_seq ?_; refine jc_seq ?_; refine jc_H (H' := [⟨5, 1, 0, true, ints .u8 (cpI (l.map ltr) 0)⟩]) (by rw [← cpI_0, List.length_map]; rfl) ?_; refine jc_region ?_; refine jo_l (ly_mv rfl) (hd 9 rfl) ?_; refine jo_l (ly_lenn sl1111 rfl) (hd 10 rfl) ?_; refine jo_l (ly_mv rfl) (hd 11 rfl) ?_; refine jo_nil ?_; refine jc_block ?_
  refine jc_loopF (G := Nat) (fun i => i ≤ l.length) (fun i => [(11, .i .i64 (i : Int)), (4, .u), (5, .u), (12, .u), (13, .u), (14, .u), (15, .u), (16, .u), (17, .u), (18, .u), (19, .u), (20, .u), (21, .u)]) (fun i => [⟨5, 1, 0, true, ints .u8 (cpI (l.map ltr) i)⟩]) (fun i => l.length - i) 0 ?_ ?_ rfl ?_
  · exact Nat.zero_le _
  · exact (.cons rfl (.u (.u (.u (.u (.u (.u (.u (.u (.u (.u (.u (.u .nil)))))))))))))
  · rintro i hi
    have hcl := cpI_len (l := l.map ltr) (i := i) (by rw [List.length_map]; exact hi)
    rw [List.length_map] at hcl
    have hx := rng_getD (by decide) hr i
    refine jc_seq ?_; refine jc_region ?_; refine jo_l (ly_lt rfl rfl) (hd 12 rfl) ?_; refine jo_nil ?_; refine jc_seq ?_
    refine jc_if rfl (fun h1 => ?_) (fun h1 => ?_)
    · refine jc_skip ?_; refine jc_seq ?_; refine jc_block ?_; refine jc_seq ?_; refine jc_region ?_; refine jo_l (ly_mv rfl) (hd 13 rfl) ?_; refine jo_l (ly_ian (i := i) sl1111 rfl rfl (by first | rfl | omega) (by omega)) (hd 14 rfl) ?_; refine jo_l (ly_ldq one3 rfl rfl) (hd 15 rfl) ?_; refine jo_l (ly_as rfl) (hd 4 rfl) ?_; refine jo_l (ly_as rfl) (hd 5 rfl) ?_; refine jo_nil ?_; refine jc_region ?_; refine jo_l (ly_mv rfl) (hd 16 rfl) ?_; refine jo_l (ly_mv rfl) (hd 17 rfl) ?_; refine jo_l (ly_mv rfl) (hd 18 rfl) ?_; refine jo_l (ly_ixs (b := ltrTab) (i := (l.getD i 0).toNat) und9 (by kernel_rfl) rfl (by omega) (by show _ < 36; omega)) (hd 19 rfl) ?_; refine jo_l (ly_ia (i := i) sl1109 rfl rfl rfl (by first | rfl | omega) (by omega) rfl) (hd 20 rfl) ?_; refine jo_st (sy_storei rfl rfl rfl one5 (by first | omega | (dsimp only; omega))) ?_; refine jo_nil ?_; refine jc_region ?_; refine jo_l (ly_add rfl rfl (r := ((i + 1 : Nat) : Int)) (by rw [wrap_i64 (by omega) (by omega)]; omega)) (hd 21 rfl) ?_; refine jo_l (ly_mv rfl) (hd 11 rfl) ?_; refine jo_nil ?_
      refine ⟨i + 1, ?_, ?_, (by show [(⟨5, 1, 0, true, ints .u8 _⟩ : Ob)] = [⟨5, 1, 0, true, ints .u8 _⟩]; rw [← cpI_set (by rw [List.length_map]; omega), txt_getD (by omega)]; rfl), cov_n 26 rfl rfl ?_⟩
      · omega
      · omega
      · exact (.cons rfl (.u (.u (.u (.u (.u (.u (.u (.u (.u (.u (.u (.u .nil)))))))))))))
    · refine jc_exit ?_; refine jc_seq ?_
      obtain rfl : i = l.length := by omega
      refine jc_frz (k := .u8) (l := cpI (l.map ltr) l.length) (l' := bytesI (txt l)) 3 rfl rfl (by rw [hcl]; omega) (by rw [txt_I, List.drop_zero, List.take_of_length_le (by omega)]; have h := cpI_all (l.map ltr); rwa [List.length_map] at h) hL ?_; refine jc_region ?_; refine jo_l (ly_mv rfl) (hd 22 rfl) ?_; refine jo_l (ly_as rfl) (hd 2 rfl) ?_; refine jo_nil ?_; refine jc_ret ?_
      refine ⟨_, _, (.cons rfl .nil), .n, ?_⟩
      rfl

set_option maxHeartbeats 4000000 in
theorem good_y (b : Nat) (hb : 2 ≤ b) (hb2 : b ≤ 36) : Spec Try.prog 78 [.i .i64 (b : Int)] (fun o => o = .ret (.b true)) := by
  refine spec_of' [(0, .i .i64 (b : Int))] rfl Try.func78 rfl (Nat.le_of_ble_eq_true rfl) fun Γ hN hds hL hR => ?_
  have hd : ∀ d, Nat.blt d 9 = true → d < Γ.N := fun d h => by rw [hN]; exact Nat.le_of_ble_eq_true h
  refine jc_seq ?_; refine jc_region ?_; refine jo_l (ly_as rfl) (hd 2 rfl) ?_; refine jo_nil ?_; refine jc_seq ?_; refine jc_region ?_; refine jo_l (ly_mv rfl) (hd 3 rfl) ?_; refine jo_l (ly_tt (ly_ge rfl rfl) (by omega)) (hd 4 rfl) ?_; refine jo_l (ly_mv rfl) (hd 5 rfl) ?_; refine jo_g 5 rfl rfl (ly_mv rfl) (hd 6 rfl) ?_; refine jo_g 5 rfl rfl (ly_tt (ly_le rfl rfl) (by omega)) (hd 7 rfl) ?_; refine jo_l (ly_pick_t rfl rfl) (hd 8 rfl) ?_; refine jo_l (ly_as rfl) (hd 2 rfl) ?_; refine jo_nil ?_; refine jc_ret ?_
  refine ⟨_, _, (.cons rfl .nil), .b, ?_⟩
  exact rfl

set_option maxHeartbeats 4000000 in
theorem Print_s (l : List Int) (b : Nat) (hl : l.length ≤ 1048576) (hu : u64s l) (hlb : 2 ≤ b) (hb2 : b ≤ 36) : Spec Try.prog 37 [.n false .u64 l, .i .i64 (b : Int)] (fun o => o = .ret (.t [.s (txt (hdg b 1 (vl l).toNat)), .i .i64 0])) := by
  refine spec_of' [(0, .n false .u64 l), (1, .i .i64 (b : Int))] rfl Try.func37 rfl (Nat.le_of_ble_eq_true rfl) fun Γ hN hds hL hR => ?_
  have hd : ∀ d, Nat.blt d 14 = true → d < Γ.N := fun d h => by rw [hN]; exact Nat.le_of_ble_eq_true h
  have hRl : (hdg b 1 (vl l).toNat).length ≤ 67108864 := by rw [hdg_le]; have h1 := digs_le_len hu hlb; omega
  refine jc_seq ?_; refine jc_region ?_; refine jo_l (ly_as rfl) (hd 4 rfl) ?_; refine jo_l (ly_as rfl) (hd 5 rfl) ?_; refine jo_nil ?_; refine jc_seq ?_; refine jc_seq ?_; refine jc_region ?_; refine jo_l (ly_mv rfl) (hd 6 rfl) ?_
  refine jo_call Try.f78 (good_y b hlb hb2) rfl Try.func78 rfl rfl (ovL_cons rfl ovL_nil) (.cons .i .nil) (hd 7 rfl) ?_ (fun ch hp => by simp at hp)
  rintro y hy; injection hy with hy; subst hy; refine jo_l (ly_not rfl) (hd 8 rfl) ?_; refine jo_nil ?_; refine jc_litf rfl ?_; refine jc_skip ?_; refine jc_seq ?_; refine jc_region ?_; refine jo_l (ly_mv rfl) (hd 9 rfl) ?_; refine jo_l (ly_mv rfl) (hd 10 rfl) ?_
  refine jo_callN Try.f80 (all_n l b hl hu hlb hb2) (fun o G ⟨_, h⟩ => h ▸ idless_cons ints_id idless_nil) rfl Try.func80 rfl rfl (ovL_cons rfl (ovL_cons rfl ovL_nil)) (.cons .n (.cons .i .nil)) (hd 11 rfl) ?_ (fun ch G hp => by simp at hp)
  rintro y G ⟨hy, rfl⟩; injection hy with hy; subst hy
  show JO _ _ _ _ ((11, .o 0 0 0 (hdg b 1 (vl l).toNat).length) :: _) _ _
  refine jo_frz (k := .i64) (l := (hdg b 1 (vl l).toNat)) (l' := (hdg b 1 (vl l).toNat)) 11 rfl rfl (by omega) (by rw [List.drop_zero, List.take_length]) hL ?_
  refine jo_call Try.f79 (text_s (hdg b 1 (vl l).toNat) (by omega) (rng36 hb2 (hdg_rng hlb _ _))) rfl Try.func79 rfl rfl (ovL_cons rfl ovL_nil) (.cons .n .nil) (hd 12 rfl) ?_ (fun ch hp => by simp at hp)
  rintro y hy; injection hy with hy; subst hy; refine jo_l (ly_b2s undS1109 und5 und9 rfl) (hd 13 rfl) ?_; refine jo_l (ly_as rfl) (hd 4 rfl) ?_; refine jo_l (ly_as rfl) (hd 5 rfl) ?_; refine jo_nil ?_; refine jc_ret ?_
  refine ⟨_, _, (.cons rfl (.cons rfl .nil)), (.t1 .s (.t1 .i .t0)), ?_⟩
  exact rfl

end Go.Proofs.Ytaogaegchagbfaa.Vc

/- Contract of numeral.build of at most 12 digits. -/
namespace Go.Proofs.Ytaogaegchagbfaa.Vc
open Go Go.RowKit
end Go.Proofs.Ytaogaegchagbfaa.Vc

/- Contract of numeral.Parse where all are digits. -/
namespace Go.Proofs.Ytaogaegchagbfaa.Vc
open Go Go.RowKit
end Go.Proofs.Ytaogaegchagbfaa.Vc

/- Contracts of surdlaw05.lives, NumeralNames, right. -/
namespace Go.Proofs.Ytaogaegchagbfaa.Vc
open Go Go.RowKit
end Go.Proofs.Ytaogaegchagbfaa.Vc

/- Contract of mul.Pow. -/
namespace Go.Proofs.Ytaogaegchagbfaa.Vc
open Go Go.RowKit
set_option maxHeartbeats 4000000 in
theorem Pow_v (v n : Nat) (hv : 2 ≤ v) (hlv0 : lenV (v : Int) ≤ 67108864) (hf : lenV (PW v n) ≤ 67108864) : Spec Try.prog 10 [.n false .u64 (lm (v : Int)), .i .i64 (n : Int)] (fun o => o = .ret (.t [.n false .u64 (lm (PW v n)), .i .i64 0])) := by
  refine spec_of' [(0, .n false .u64 (lm (v : Int))), (1, .i .i64 (n : Int))] rfl Try.func10 rfl (Nat.le_of_ble_eq_true rfl) fun Γ hN hds hL hR => ?_
  have hd : ∀ d, Nat.blt d 63 = true → d < Γ.N := fun d h => by rw [hN]; exact Nat.le_of_ble_eq_true h
  have hF1 : Spec Try.prog 43 [.i .u64 1] (fun o => o = .ret (.n true .u64 (lm (PW v 0)))) := by have h := From_s 1; rwa [show (if (1 : Int) = 0 then [] else [(1 : Int)]) = lm (PW v 0) from by rw [PW_0]; exact fl_lm (by decide) (by decide)] at h
  have hlen := PW_len (n := n) hv
  have hn1 := PW_n (n := n) hv
  have hl2 := lenV_2 hv
  have hlmv := lenV_lm hlv0
  refine jc_seq ?_; refine jc_region ?_; refine jo_l (ly_as rfl) (hd 4 rfl) ?_; refine jo_l (ly_as rfl) (hd 5 rfl) ?_; refine jo_nil ?_; refine jc_seq ?_; refine jc_seq ?_; refine jc_region ?_; refine jo_l (ly_mv rfl) (hd 10 rfl) ?_; refine jo_l (ly_ff (ly_lt rfl rfl) (by omega)) (hd 11 rfl) ?_; refine jo_nil ?_; refine jc_litf rfl ?_; refine jc_skip ?_; refine jc_seq ?_; refine jc_region ?_; refine jo_l (ly_mv rfl) (hd 12 rfl) ?_
  refine jo_call Try.f42 (Norm_v (v : Int) (by omega)) rfl Try.func42 rfl rfl (ovL_cons rfl ovL_nil) (.cons .n .nil) (hd 13 rfl) ?_ (fun ch hp => by simp at hp)
  rintro y hy; injection hy with hy; subst hy; refine jo_l (ly_as rfl) (hd 0 rfl) ?_; refine jo_nil ?_; refine jc_seq ?_; refine jc_seq ?_; refine jc_region ?_; refine jo_l (ly_mv rfl) (hd 14 rfl) ?_; refine jo_l (ly_eq rfl rfl) (hd 15 rfl) ?_; refine jo_nil ?_
  refine jc_if rfl (fun h2 => ?_) (fun h2 => ?_)
  · obtain rfl : n = 0 := by omega
    refine jc_seq ?_; refine jc_region ?_
    refine jo_call Try.f43 (hF1) rfl Try.func43 rfl rfl (ovL_cons rfl ovL_nil) (.cons .i .nil) (hd 16 rfl) ?_ (fun ch hp => by simp at hp)
    rintro y hy; injection hy with hy; subst hy; refine jo_l (ly_as rfl) (hd 4 rfl) ?_; refine jo_l (ly_as rfl) (hd 5 rfl) ?_; refine jo_nil ?_; refine jc_ret ?_
    refine ⟨_, _, (.cons rfl (.cons rfl .nil)), (.t1 .nn (.t1 .i .t0)), ?_⟩
    rfl
  · refine jc_skip ?_; refine jc_seq ?_; refine jc_region ?_; refine jo_l (ly_mv rfl) (hd 17 rfl) ?_
    refine jo_call Try.f15 (Length_v (v : Int) (by omega)) rfl Try.func15 rfl rfl (ovL_cons rfl ovL_nil) (.cons .n .nil) (hd 18 rfl) ?_ (fun ch hp => by simp at hp)
    rintro y hy; injection hy with hy; subst hy; refine jo_l (ly_as rfl) (hd 6 rfl) ?_; refine jo_nil ?_; refine jc_seq ?_; refine jc_seq ?_; refine jc_region ?_; refine jo_l (ly_mv rfl) (hd 19 rfl) ?_; refine jo_l (ly_ff (ly_le rfl rfl) (by omega)) (hd 20 rfl) ?_; refine jo_nil ?_; refine jc_litf rfl ?_; refine jc_skip ?_; refine jc_seq ?_; refine jc_seq ?_; refine jc_region ?_; refine jo_l (ly_mv rfl) (hd 22 rfl) ?_; refine jo_l (ly_ff (ly_gt rfl rfl) (by omega)) (hd 23 rfl) ?_; refine jo_l (ly_mv rfl) (hd 24 rfl) ?_; refine jo_g 24 rfl rfl (ly_mv rfl) (hd 25 rfl) ?_; refine jo_g 24 rfl rfl (ly_sub rfl rfl (r := ((lenV (v : Int) - 1 : Nat) : Int)) (by rw [wrap_i64 (by omega) (by omega)]; omega)) (hd 26 rfl) ?_; refine jo_g 24 rfl rfl (ly_mv rfl) (hd 27 rfl) ?_; refine jo_g 24 rfl rfl (ly_mul rfl rfl (r := (((lenV (v : Int) - 1) * n : Nat) : Int)) (by rw [← Int.natCast_mul]; exact wrap_i64 (by omega) (by omega))) (hd 28 rfl) ?_; refine jo_g 24 rfl rfl (ly_add rfl rfl (r := (((lenV (v : Int) - 1) * n + 1 : Nat) : Int)) (by rw [show (((lenV (v : Int) - 1) * n : Nat) : Int) + 1 = (((lenV (v : Int) - 1) * n + 1 : Nat) : Int) from rfl]; exact wrap_i64 (by omega) (by omega))) (hd 29 rfl) ?_; refine jo_g 24 rfl rfl (ly_ff (ly_gt rfl rfl) (by omega)) (hd 30 rfl) ?_; refine jo_l (ly_pick_f rfl rfl) (hd 31 rfl) ?_; refine jo_nil ?_; refine jc_litf rfl ?_; refine jc_skip ?_; refine jc_seq ?_; refine jc_region ?_
    refine jo_call Try.f43 (hF1) rfl Try.func43 rfl rfl (ovL_cons rfl ovL_nil) (.cons .i .nil) (hd 32 rfl) ?_ (fun ch hp => by simp at hp)
    rintro y hy; injection hy with hy; subst hy; refine jo_l (ly_as rfl) (hd 7 rfl) ?_; refine jo_nil ?_; refine jc_seq ?_; refine jc_seq ?_; refine jc_region ?_; refine jo_l (ly_as rfl) (hd 8 rfl) ?_; refine jo_nil ?_; refine jc_block ?_
    refine jc_loopF (G := Nat) (fun k => k ≤ 63) (fun k => [(7, .n true .u64 (lm (PW v (n / 2 ^ k)))), (8, .i .i64 ((k : Int) - 1)), (4, .u), (5, .u), (9, .u), (33, .u), (34, .u), (35, .u), (36, .u), (37, .u), (38, .u), (39, .u), (40, .u), (41, .u), (42, .u), (43, .u), (44, .u), (45, .u), (46, .u), (47, .u), (48, .u), (49, .u), (50, .u), (51, .u), (52, .u), (53, .u), (54, .u), (55, .u), (56, .u), (57, .u), (58, .u), (59, .u), (60, .u), (61, .u)]) (fun _ => _) (fun k => k) 63 ?_ ?_ rfl ?_
    · exact Nat.le_refl _
    · exact (.cons (by show some (V.n _ _ _) = some (V.n _ _ _); rw [show n / 2 ^ 63 = 0 from Nat.div_eq_of_lt (by omega)]) (.cons rfl (.u (.u (.u (.u (.u (.u (.u (.u (.u (.u (.u (.u (.u (.u (.u (.u (.u (.u (.u (.u (.u (.u (.u (.u (.u (.u (.u (.u (.u (.u (.u (.u .nil))))))))))))))))))))))))))))))))))
    · rintro k hk; refine jc_seq ?_; refine jc_seq ?_; refine jc_region ?_; refine jo_l (ly_mv rfl) (hd 33 rfl) ?_; refine jo_l (ly_ge rfl rfl) (hd 34 rfl) ?_; refine jo_nil ?_
      refine jc_if rfl (fun h5 => ?_) (fun h5 => ?_)
      · have hk0 : 0 < k := by omega
        have hS : 2 * (n / 2 ^ k) ≤ n := by rw [pm_half hk0]; have := Nat.div_le_self n (2 ^ (k - 1)); omega
        have hO := Nat.le_trans (PW_mono (m := (n / 2 ^ k)) hv (by omega)) hf
        have hOl := lenV_lm hO
        have hO2 := Nat.le_trans (PW_mono hv hS) hf
        have hO2l := lenV_lm hO2
        have hone := lm_ne (PW_pos (n := (n / 2 ^ k)) hv)
        refine jc_skip ?_; refine jc_seq ?_; refine jc_block ?_; refine jc_seq ?_; refine jc_region ?_; refine jo_l (ly_as rfl) (hd 9 rfl) ?_; refine jo_nil ?_; refine jc_seq ?_; refine jc_seq ?_; refine jc_region ?_; refine jo_l (ly_mv rfl) (hd 37 rfl) ?_; refine jo_l (ly_lenn sl28 rfl) (hd 38 rfl) ?_; refine jo_l (ly_tt (ly_gt rfl rfl) (by have := List.length_pos_iff.2 hone; omega)) (hd 39 rfl) ?_; refine jo_nil ?_; refine jc_litt rfl ?_; refine jc_seq ?_; refine jc_region ?_; refine jo_l (ly_mv rfl) (hd 41 rfl) ?_
        refine jo_call Try.f13 (Square_l (lm (PW v (n / 2 ^ k))) (by omega) (lm_u _)) rfl Try.func13 rfl rfl (ovL_cons rfl ovL_nil) (.cons .n .nil) (hd 42 rfl) ?_ (fun ch hp => by simp at hp)
        rintro y ⟨r2, e2, hy, he2⟩; injection hy with hy; subst hy
        rw [PW_sq] at he2
        obtain ⟨rfl, rfl⟩ := errL_fit he2 hO2
        refine jo_l (ly_mv rfl) (hd 40 rfl) ?_; refine jo_l (ly_ext rfl rfl) (hd 43 rfl) ?_; refine jo_l (ly_ext rfl rfl) (hd 44 rfl) ?_; refine jo_l (ly_as rfl) (hd 7 rfl) ?_; refine jo_l (ly_as rfl) (hd 9 rfl) ?_; refine jo_nil ?_; refine jc_seq ?_; refine jc_region ?_; refine jo_l (ly_mv rfl) (hd 45 rfl) ?_; refine jo_l (ly_ff (ly_ne rfl rfl) (by decide)) (hd 46 rfl) ?_; refine jo_nil ?_; refine jc_litf rfl ?_; refine jc_skip ?_; refine jc_seq ?_; refine jc_region ?_; refine jo_l (ly_mv rfl) (hd 48 rfl) ?_; refine jo_l (ly_mv rfl) (hd 49 rfl) ?_; refine jo_l (ly_is (ly_shr rfl rfl (by omega) rfl) (show V.i .i64 _ = V.i .i64 ((n / 2 ^ (k - 1) : Nat) : Int) from congrArg (V.i .i64) (shr_nat (by rw [show ((k : Int) - 1).toNat = k - 1 by omega, Nat.min_eq_left (by have h : IntKind.i64.bits = 64 := rfl; omega)])))) (hd 50 rfl) ?_; refine jo_l (ly_is (ly_bit (by simp) rfl rfl rfl) (show V.i .i64 _ = V.i .i64 ((n / 2 ^ (k - 1) % 2 : Nat) : Int) from congrArg (V.i .i64) (and1i (by have := Nat.div_le_self n (2 ^ (k - 1)); omega)))) (hd 51 rfl) ?_; refine jo_l (ly_eq rfl rfl) (hd 52 rfl) ?_; refine jo_nil ?_
        refine jc_if rfl (fun h8 => ?_) (fun h8 => ?_)
        · have hb1 := pm_bit1 hk0 h8
          have hO3 := Nat.le_trans (PW_mono (m := n / 2 ^ (k - 1)) hv (Nat.div_le_self _ _)) hf
          refine jc_seq ?_; refine jc_region ?_; refine jo_l (ly_mv rfl) (hd 54 rfl) ?_; refine jo_l (ly_mv rfl) (hd 55 rfl) ?_
          refine jo_call Try.f36 (Mul_l (lm (PW v (2 * (n / 2 ^ k)))) (lm (v : Int)) (by omega) (by omega) (lm_u _) (lm_u _)) rfl Try.func36 rfl rfl (ovL_cons rfl (ovL_cons rfl ovL_nil)) (.cons .n (.cons .n .nil)) (hd 56 rfl) ?_ (fun ch hp => by simp at hp)
          rintro y ⟨r3, e3, hy, he3⟩; injection hy with hy; subst hy
          rw [PW_s, hb1] at he3
          obtain ⟨rfl, rfl⟩ := errL_fit he3 hO3
          refine jo_l (ly_mv rfl) (hd 53 rfl) ?_; refine jo_l (ly_ext rfl rfl) (hd 57 rfl) ?_; refine jo_l (ly_ext rfl rfl) (hd 58 rfl) ?_; refine jo_l (ly_as rfl) (hd 7 rfl) ?_; refine jo_l (ly_as rfl) (hd 9 rfl) ?_; refine jo_nil ?_; refine jc_seq ?_; refine jc_region ?_; refine jo_l (ly_mv rfl) (hd 59 rfl) ?_; refine jo_l (ly_ff (ly_ne rfl rfl) (by decide)) (hd 60 rfl) ?_; refine jo_nil ?_; refine jc_litf rfl ?_; refine jc_skip ?_; refine jc_region ?_; refine jo_l (ly_mv rfl) (hd 35 rfl) ?_; refine jo_l (ly_sub rfl rfl (wrap_i64 (by omega) (by omega))) (hd 36 rfl) ?_; refine jo_l (ly_as rfl) (hd 8 rfl) ?_; refine jo_nil ?_
          refine ⟨k - 1, ?_, ?_, rfl, cov_n 67 rfl rfl ?_⟩
          · omega
          · omega
          · exact (.cons (by show some (V.n _ _ _) = some (V.n _ _ _); first | rfl | rw [hb0]) (.cons (by show some (V.i .i64 _) = some (V.i .i64 _); congr 2; omega) (.u (.u (.u (.u (.u (.u (.u (.u (.u (.u (.u (.u (.u (.u (.u (.u (.u (.u (.u (.u (.u (.u (.u (.u (.u (.u (.u (.u (.u (.u (.u (.u .nil))))))))))))))))))))))))))))))))))
        · have hb0 := pm_bit0 hk0 h8
          refine jc_skip ?_; refine jc_region ?_; refine jo_l (ly_mv rfl) (hd 35 rfl) ?_; refine jo_l (ly_sub rfl rfl (wrap_i64 (by omega) (by omega))) (hd 36 rfl) ?_; refine jo_l (ly_as rfl) (hd 8 rfl) ?_; refine jo_nil ?_
          refine ⟨k - 1, ?_, ?_, rfl, cov_n 57 rfl rfl ?_⟩
          · omega
          · omega
          · exact (.cons (by show some (V.n _ _ _) = some (V.n _ _ _); first | rfl | rw [hb0]) (.cons (by show some (V.i .i64 _) = some (V.i .i64 _); congr 2; omega) (.u (.u (.u (.u (.u (.u (.u (.u (.u (.u (.u (.u (.u (.u (.u (.u (.u (.u (.u (.u (.u (.u (.u (.u (.u (.u (.u (.u (.u (.u (.u (.u .nil))))))))))))))))))))))))))))))))))
      · obtain rfl : k = 0 := by omega
        refine jc_exit ?_; refine jc_seq ?_; refine jc_region ?_; refine jo_l (ly_mv rfl) (hd 62 rfl) ?_; refine jo_l (ly_as rfl) (hd 4 rfl) ?_; refine jo_l (ly_as rfl) (hd 5 rfl) ?_; refine jo_nil ?_; refine jc_ret ?_
        refine ⟨_, _, (.cons rfl (.cons rfl .nil)), (.t1 .nn (.t1 .i .t0)), ?_⟩
        rw [Nat.pow_zero, Nat.div_one]
end Go.Proofs.Ytaogaegchagbfaa.Vc

/- Contract of surdref05.Digits. -/
namespace Go.Proofs.Ytaogaegchagbfaa.Vc
open Go Go.RowKit
end Go.Proofs.Ytaogaegchagbfaa.Vc

/- Contracts of surdlaw05.ints, surdref05.Print, numeral.Length, Digits. -/
namespace Go.Proofs.Ytaogaegchagbfaa.Vc
open Go Go.RowKit
end Go.Proofs.Ytaogaegchagbfaa.Vc

/- Contract of numeral.build. -/
namespace Go.Proofs.Ytaogaegchagbfaa.Vc
open Go Go.RowKit
theorem Mul_f (x y : Int) (hx : 0 ≤ x) (hy : 0 ≤ y) (fx : lenV x ≤ 67108864) (fy : lenV y ≤ 67108864) (f : lenV (x * y) ≤ 67108864) : Spec Try.prog 36 [.n false .u64 (lm x), .n false .u64 (lm y)] (fun o => o = .ret (.t [.n false .u64 (lm (x * y)), .i .i64 0])) := by
  have h1 := lenV_lm fx
  have h2 := lenV_lm fy
  refine (Mul_l (lm x) (lm y) (by omega) (by omega) (lm_u _) (lm_u _)).weak fun o ho => ?_
  obtain ⟨r, e, rfl, he⟩ := ho
  rw [vl_lm hx, vl_lm hy] at he
  obtain ⟨rfl, rfl⟩ := errL_fit he f
  exact ⟨_, rfl, fun _ _ _ _ h => end_nnT h⟩
theorem Add_f (x y : Int) (hx : 0 ≤ x) (hy : 0 ≤ y) (fx : lenV x ≤ 67108864) (fy : lenV y ≤ 67108864) (f : lenV (x + y) ≤ 67108864) : Spec Try.prog 11 [.n false .u64 (lm x), .n false .u64 (lm y)] (fun o => o = .ret (.t [.n false .u64 (lm (x + y)), .i .i64 0])) := by
  have h1 := lenV_lm fx
  have h2 := lenV_lm fy
  have ev : vl (sumL (lm x) (lm y)) = x + y := by rw [vl_sumL, vl_lm hx, vl_lm hy]
  have hc := adN_c (a := (swL (trm (lm x)) (trm (lm y))).1) (b := (swL (trm (lm x)) (trm (lm y))).2) (by unfold swL; split; exact u64s_trm (lm_u y); exact u64s_trm (lm_u x)) (by unfold swL; split; exact u64s_trm (lm_u x); exact u64s_trm (lm_u y)) (swL (trm (lm x)) (trm (lm y))).1.length
  have hu : u64s (sumL (lm x) (lm y)) := u64s_app1 (adN_u _) hc.1 (by omega)
  have e := trm_lm hu ev
  have h := Add_ok (lm x) (lm y) (by omega) (by omega) (lm_u x) (lm_u y) (by rw [e, lenN_lm]; exact f)
  rwa [e] at h
end Go.Proofs.Ytaogaegchagbfaa.Vc

/- The contract of surdlaw05.NumeralBack. -/
namespace Go.Proofs.Ytaogaegchagbfaa.Vc
open Go Go.RowKit
end Go.Proofs.Ytaogaegchagbfaa.Vc

/- Contracts of whole.Print, whole.Parse. -/
namespace Go.Proofs.Ytaogaegchagbfaa.Vc
open Go Go.RowKit
end Go.Proofs.Ytaogaegchagbfaa.Vc

/- The contract of surdlaw06.WholeBack. -/
namespace Go.Proofs.Ytaogaegchagbfaa.Vc
open Go Go.RowKit
end Go.Proofs.Ytaogaegchagbfaa.Vc

/- nat.Add with an own row. -/
namespace Go.Proofs.Ytaogaegchagbfaa.Vc
open Go Go.RowKit
end Go.Proofs.Ytaogaegchagbfaa.Vc

/- numeral.build with an own row. -/
namespace Go.Proofs.Ytaogaegchagbfaa.Vc
open Go Go.RowKit
end Go.Proofs.Ytaogaegchagbfaa.Vc

/- Contracts of surdlaw05.same, numeral.Build, surdref05.Build. -/
namespace Go.Proofs.Ytaogaegchagbfaa.Vc
open Go Go.RowKit
end Go.Proofs.Ytaogaegchagbfaa.Vc

/- Contracts of numeral.Parse with an own row, surdref05.Parse. -/
namespace Go.Proofs.Ytaogaegchagbfaa.Vc
open Go Go.RowKit
end Go.Proofs.Ytaogaegchagbfaa.Vc

/- Contracts of surdref06.Digits, Number. -/
namespace Go.Proofs.Ytaogaegchagbfaa.Vc
open Go Go.RowKit
end Go.Proofs.Ytaogaegchagbfaa.Vc

/- Contract of surdref06.Parse. -/
namespace Go.Proofs.Ytaogaegchagbfaa.Vc
open Go Go.RowKit
end Go.Proofs.Ytaogaegchagbfaa.Vc

/- Contract of surdref06.Print. -/
namespace Go.Proofs.Ytaogaegchagbfaa.Vc
open Go Go.RowKit
end Go.Proofs.Ytaogaegchagbfaa.Vc

/- Contracts of whole.Parse with an own row. -/
namespace Go.Proofs.Ytaogaegchagbfaa.Vc
open Go Go.RowKit
end Go.Proofs.Ytaogaegchagbfaa.Vc

/- The contract of surdlaw06.WholeTexts. -/
namespace Go.Proofs.Ytaogaegchagbfaa.Vc
open Go Go.RowKit
end Go.Proofs.Ytaogaegchagbfaa.Vc

/- Contract of nat.Times. -/
namespace Go.Proofs.Ytaogaegchagbfaa.Vc
open Go Go.RowKit
set_option maxHeartbeats 4000000 in
theorem Times_v (x m : Int) (hx0 : 0 ≤ x) (hx9 : lenV x ≤ 67108864) (hm0 : 0 ≤ m) (hm1 : m < 18446744073709551616) (hf9 : lenV (x * m) ≤ 67108864) : Spec Try.prog 82 [.n false .u64 (lm x), .i .u64 m] (fun o => o = .ret (.t [.n false .u64 (lm (x * m)), .i .i64 0])) := by
  refine spec_of' [(0, .n false .u64 (lm x)), (1, .i .u64 m)] rfl Try.func82 rfl (Nat.le_of_ble_eq_true rfl) fun Γ hN hds hL hR => ?_
  have hd : ∀ d, Nat.blt d 56 = true → d < Γ.N := fun d h => by rw [hN]; exact Nat.le_of_ble_eq_true h
  have hlx := lenV_lm hx9
  have ua := lm_u x
  have hTr : Spec Try.prog 44 [.n false .u64 (lm x)] (fun o => o = .ret (.n false .u64 (lm x))) := by have h := trim_s (lm x) (by omega); rwa [trm_id (lm_t x)] at h
  refine jc_seq ?_; refine jc_region ?_; refine jo_l (ly_as rfl) (hd 4 rfl) ?_; refine jo_l (ly_as rfl) (hd 5 rfl) ?_; refine jo_nil ?_; refine jc_seq ?_; refine jc_region ?_; refine jo_l (ly_mv rfl) (hd 14 rfl) ?_
  refine jo_call Try.f44 (hTr) rfl Try.func44 rfl rfl (ovL_cons rfl ovL_nil) (.cons .n .nil) (hd 15 rfl) ?_ (fun ch hp => by simp at hp)
  rintro y hy; injection hy with hy; subst hy; refine jo_l (ly_as rfl) (hd 0 rfl) ?_; refine jo_nil ?_; refine jc_seq ?_; refine jc_region ?_; refine jo_l (ly_mv rfl) (hd 16 rfl) ?_; refine jo_l (ly_lenn sl28 rfl) (hd 17 rfl) ?_; refine jo_l (ly_add rfl rfl (r := (((lm x).length + 1 : Nat) : Int)) (by rw [wrap_i64 (by omega) (by omega)]; omega)) (hd 18 rfl) ?_; refine jo_h (hy_mk (m := (lm x).length + 1) el28 rfl rfl rfl (by show 8 * ((lm x).length + 1) ≤ _; omega) (by unfold maxLen; omega) rfl) (hd 19 rfl) ?_; refine jo_l (ly_as rfl) (hd 6 rfl) ?_; refine jo_nil ?_; refine jc_seq ?_; refine jc_region ?_; refine jo_l (ly_as rfl) (hd 7 rfl) ?_; refine jo_nil ?_; refine jc_seq ?_; refine jc_seq ?_; refine jc_region ?_; refine jo_l (ly_mv rfl) (hd 20 rfl) ?_; refine jo_l (ly_lenn sl28 rfl) (hd 21 rfl) ?_; refine jo_l (ly_mv rfl) (hd 22 rfl) ?_; refine jo_nil ?_; refine jc_block ?_
  refine jc_loopF (G := Nat) (fun i => i ≤ (lm x).length) (fun i => [(7, .i .u64 (lbN (lm x) m i).2), (22, .i .i64 (i : Int)), (8, .u), (9, .u), (10, .u), (11, .u), (12, .u), (13, .u), (23, .u), (24, .u), (25, .u), (26, .u), (27, .u), (28, .u), (29, .u), (30, .u), (31, .u), (32, .u), (33, .u), (34, .u), (35, .u), (36, .u), (37, .u), (38, .u), (39, .u), (40, .u), (41, .u), (42, .u), (43, .u), (44, .u), (45, .u), (46, .u)]) (fun i => [⟨33, 1, 0, true, ints .u64 (fillI (lbN (lm x) m i).1 ((lm x).length + 1))⟩]) (fun i => (lm x).length - i) 0 ?_ ?_ rfl ?_
  · exact Nat.zero_le _
  · exact (.cons rfl (.cons rfl (.u (.u (.u (.u (.u (.u (.u (.u (.u (.u (.u (.u (.u (.u (.u (.u (.u (.u (.u (.u (.u (.u (.u (.u (.u (.u (.u (.u (.u (.u .nil))))))))))))))))))))))))))))))))
  · rintro i hc1
    have hf : (fillI (lbN (lm x) m i).1 ((lm x).length + 1)).length = (lm x).length + 1 := fillI_len (by rw [lbN_len]; omega)
    have hc := lbN_c ua hm0 hm1 i
    have hx := u64s_getD ua i
    have hp := mul_lt hx.1 hx.2 hm0 hm1
    refine jc_seq ?_; refine jc_region ?_; refine jo_l (ly_lt rfl rfl) (hd 23 rfl) ?_; refine jo_nil ?_; refine jc_seq ?_
    refine jc_if rfl (fun h1 => ?_) (fun h1 => ?_)
    · refine jc_skip ?_; refine jc_seq ?_; refine jc_block ?_; refine jc_seq ?_; refine jc_region ?_; refine jo_l (ly_mv rfl) (hd 24 rfl) ?_; refine jo_l (ly_ian (i := i) sl28 rfl rfl (by first | rfl | omega) (by omega)) (hd 25 rfl) ?_; refine jo_l (ly_ldq one82 rfl rfl) (hd 26 rfl) ?_; refine jo_l (ly_as rfl) (hd 8 rfl) ?_; refine jo_l (ly_as rfl) (hd 9 rfl) ?_; refine jo_nil ?_; refine jc_seq ?_; refine jc_region ?_; refine jo_l (ly_mv rfl) (hd 28 rfl) ?_; refine jo_l (ly_mv rfl) (hd 29 rfl) ?_
      refine jo_call Try.f113 (Mul64_s ((lm x).getD i 0) m hx.1 hx.2 hm0 hm1) rfl Try.func113 rfl rfl (ovL_cons rfl (ovL_cons rfl ovL_nil)) (.cons .i (.cons .i .nil)) (hd 30 rfl) ?_ (fun ch hp => by simp at hp)
      rintro y hy; injection hy with hy; subst hy; refine jo_l (ly_mv rfl) (hd 27 rfl) ?_; refine jo_l (ly_ext rfl rfl) (hd 31 rfl) ?_; refine jo_l (ly_ext rfl rfl) (hd 32 rfl) ?_; refine jo_l (ly_as rfl) (hd 10 rfl) ?_; refine jo_l (ly_as rfl) (hd 11 rfl) ?_; refine jo_nil ?_; refine jc_seq ?_; refine jc_region ?_; refine jo_l (ly_mv rfl) (hd 34 rfl) ?_; refine jo_l (ly_mv rfl) (hd 35 rfl) ?_; refine jo_h (hy_ext3 (e := add64Entry) Try.func45 rfl rfl (by kernel_rfl) (by kernel_rfl) rfl rfl rfl (fun w => run_add64 _ _ _ (Int.emod_nonneg _ (by decide)) hc.1 (by decide) (by decide) w) rel_pair) (hd 36 rfl) ?_; refine jo_l (ly_mv rfl) (hd 33 rfl) ?_; refine jo_l (ly_is (ly_ext rfl rfl) (show V.i .u64 _ = V.i .u64 ((((lm x).getD i 0 * m % 18446744073709551616 + (lbN (lm x) m i).2) % 18446744073709551616)) from congrArg (V.i .u64) (by rw [Int.add_zero]))) (hd 37 rfl) ?_; refine jo_l (ly_ext rfl rfl) (hd 38 rfl) ?_; refine jo_l (ly_as rfl) (hd 12 rfl) ?_; refine jo_l (ly_as rfl) (hd 13 rfl) ?_; refine jo_nil ?_; refine jc_seq ?_; refine jc_region ?_; refine jo_l (ly_mv rfl) (hd 39 rfl) ?_; refine jo_l (ly_mv rfl) (hd 40 rfl) ?_; refine jo_l (ly_mv rfl) (hd 41 rfl) ?_; refine jo_l (ly_ia (i := i) sl28 rfl rfl rfl (by first | rfl | omega) (by omega) rfl) (hd 42 rfl) ?_; refine jo_st (sy_storei rfl rfl rfl one82 (by omega)) ?_; refine jo_nil ?_; refine jc_region ?_; refine jo_l (ly_mv rfl) (hd 43 rfl) ?_; refine jo_l (ly_mv rfl) (hd 44 rfl) ?_; refine jo_l (ly_add rfl rfl (r := ((lm x).getD i 0 * m / 18446744073709551616 + ((lm x).getD i 0 * m % 18446744073709551616 + (lbN (lm x) m i).2) / 18446744073709551616)) (by rw [Int.add_zero]; exact wrap_u64 (by omega) (by omega))) (hd 45 rfl) ?_; refine jo_l (ly_as rfl) (hd 7 rfl) ?_; refine jo_nil ?_; refine jc_region ?_; refine jo_l (ly_add rfl rfl (wrap_i64 (by omega) (by omega))) (hd 46 rfl) ?_; refine jo_l (ly_mv rfl) (hd 22 rfl) ?_; refine jo_nil ?_
      refine ⟨i + 1, ?_, ?_, (by show [(⟨33, 1, 0, true, ints .u64 _⟩ : Ob)] = [⟨33, 1, 0, true, ints .u64 _⟩]; rw [lb_set (by omega)]), cov_n 64 rfl rfl ?_⟩
      · omega
      · omega
      · exact (.cons rfl (.cons rfl (.u (.u (.u (.u (.u (.u (.u (.u (.u (.u (.u (.u (.u (.u (.u (.u (.u (.u (.u (.u (.u (.u (.u (.u (.u (.u (.u (.u (.u (.u .nil))))))))))))))))))))))))))))))))
    · obtain rfl : i = (lm x).length := by omega
      refine jc_exit ?_; refine jc_seq ?_; refine jc_region ?_; refine jo_l (ly_mv rfl) (hd 47 rfl) ?_; refine jo_l (ly_mv rfl) (hd 48 rfl) ?_; refine jo_l (ly_lenn sl28 rfl) (hd 49 rfl) ?_; refine jo_l (ly_mv rfl) (hd 50 rfl) ?_; refine jo_l (ly_ia (i := (lm x).length) sl28 rfl rfl rfl (by first | rfl | omega) (by omega) rfl) (hd 51 rfl) ?_; refine jo_st (sy_storei rfl rfl rfl one82 (by omega)) ?_; refine jo_nil ?_; refine jc_seq ?_; refine jc_frz (k := .u64) (l' := lbL (lm x) m) 6 rfl rfl (by rw [fill_last (lbN_len _ _ _)]; simp [lbN_len]) (by rw [fill_last (lbN_len _ _ _), List.drop_zero, List.take_of_length_le (by simp [lbN_len])]; rfl) hL ?_
      have hlb := lb_trm ua hm0 hm1
      rw [vl_lm hx0] at hlb
      refine jc_region ?_; refine jo_l (ly_mv rfl) (hd 52 rfl) ?_
      refine jo_call Try.f46 (told_ok (lbL (lm x) m) (by unfold lbL; simp only [List.length_append, lbN_len, List.length_singleton]; omega) (by have hcc := lbN_c ua hm0 hm1 (lm x).length; exact u64s_app1 (lbN_u _ m _) hcc.1 hcc.2) (by rw [hlb, lenN_lm]; exact hf9)) rfl Try.func46 rfl rfl (ovL_cons rfl ovL_nil) (.cons .n .nil) (hd 53 rfl) ?_ (fun ch hp => by simp at hp)
      rintro y hy; injection hy with hy; subst hy; refine jo_l (ly_ext rfl rfl) (hd 54 rfl) ?_; refine jo_l (ly_ext rfl rfl) (hd 55 rfl) ?_; refine jo_l (ly_as rfl) (hd 4 rfl) ?_; refine jo_l (ly_as rfl) (hd 5 rfl) ?_; refine jo_nil ?_; refine jc_ret ?_
      refine ⟨_, _, (.cons rfl (.cons rfl .nil)), (.t1 .n (.t1 .i .t0)), ?_⟩
      rw [hlb]
end Go.Proofs.Ytaogaegchagbfaa.Vc

/- Contracts of nat.Left of 1, roots.newton. -/
namespace Go.Proofs.Ytaogaegchagbfaa.Vc
open Go Go.RowKit
set_option maxHeartbeats 4000000 in
theorem Left_p (n : Nat) (hn9 : n + 1 ≤ 67108864) : Spec Try.prog 112 [.n false .u64 [1], .i .i64 (n : Int)] (fun o => o = .ret (.t [.n false .u64 (lm ((2 ^ n : Nat) : Int)), .i .i64 0])) := by
  refine spec_of' [(0, .n false .u64 [1]), (1, .i .i64 (n : Int))] rfl Try.func112 rfl (Nat.le_of_ble_eq_true rfl) fun Γ hN hds hL hR => ?_
  have hd : ∀ d, Nat.blt d 73 = true → d < Γ.N := fun d h => by rw [hN]; exact Nat.le_of_ble_eq_true h
  have hp64 := two64 n
  have hT1 : Spec Try.prog 44 [.n false .u64 [1]] (fun o => o = .ret (.n false .u64 [1])) := by have h := trim_s [1] (by decide); rwa [show trm [1] = [1] by decide] at h
  have hT8 : Spec Try.prog 44 [.n false .u64 (twoL n)] (fun o => o = .ret (.n false .u64 (lm ((2 ^ n : Nat) : Int)))) := by have h := trim_s (twoL n) (by rw [twoL_len]; omega); rwa [twoL_trm] at h
  have hLn : Spec Try.prog 15 [.n false .u64 [1]] (fun o => o = .ret (.i .i64 1)) := by have h := Length_s [1] (by decide) (u64s1 (by decide) (by decide)); rwa [show ((lenN [1] : Nat) : Int) = 1 by decide +kernel] at h
  refine jc_seq ?_; refine jc_region ?_; refine jo_l (ly_as rfl) (hd 4 rfl) ?_; refine jo_l (ly_as rfl) (hd 5 rfl) ?_; refine jo_nil ?_; refine jc_seq ?_; refine jc_seq ?_; refine jc_region ?_; refine jo_l (ly_mv rfl) (hd 11 rfl) ?_; refine jo_l (ly_ff (ly_lt rfl rfl) (by omega)) (hd 12 rfl) ?_; refine jo_l (ly_mv rfl) (hd 13 rfl) ?_; refine jo_g 13 rfl rfl (ly_mv rfl) (hd 14 rfl) ?_; refine jo_g 13 rfl rfl (ly_ff (ly_gt rfl rfl) (by omega)) (hd 15 rfl) ?_; refine jo_l (ly_pick_f rfl rfl) (hd 16 rfl) ?_; refine jo_nil ?_; refine jc_litf rfl ?_; refine jc_skip ?_; refine jc_seq ?_; refine jc_region ?_; refine jo_l (ly_mv rfl) (hd 17 rfl) ?_
  refine jo_call Try.f44 (hT1) rfl Try.func44 rfl rfl (ovL_cons rfl ovL_nil) (.cons .n .nil) (hd 18 rfl) ?_ (fun ch hp => by simp at hp)
  rintro y hy; injection hy with hy; subst hy; refine jo_l (ly_as rfl) (hd 0 rfl) ?_; refine jo_nil ?_; refine jc_seq ?_; refine jc_seq ?_; refine jc_region ?_; refine jo_l (ly_mv rfl) (hd 19 rfl) ?_; refine jo_l (ly_lenn sl28 rfl) (hd 20 rfl) ?_; refine jo_l (ly_ff (ly_eq rfl rfl) (by decide)) (hd 21 rfl) ?_; refine jo_nil ?_; refine jc_litf rfl ?_; refine jc_skip ?_; refine jc_seq ?_; refine jc_seq ?_; refine jc_region ?_; refine jo_l (ly_mv rfl) (hd 22 rfl) ?_
  refine jo_call Try.f15 (hLn) rfl Try.func15 rfl rfl (ovL_cons rfl ovL_nil) (.cons .n .nil) (hd 23 rfl) ?_ (fun ch hp => by simp at hp)
  rintro y hy; injection hy with hy; subst hy; refine jo_l (ly_mv rfl) (hd 24 rfl) ?_; refine jo_l (ly_add rfl rfl (r := ((n + 1 : Nat) : Int)) (by rw [wrap_i64 (by omega) (by omega)]; omega)) (hd 25 rfl) ?_; refine jo_l (ly_ff (ly_gt rfl rfl) (by omega)) (hd 26 rfl) ?_; refine jo_nil ?_; refine jc_litf rfl ?_; refine jc_skip ?_; refine jc_seq ?_; refine jc_region ?_; refine jo_l (ly_mv rfl) (hd 27 rfl) ?_; refine jo_l (ly_quo rfl rfl (by decide) (r := ((n / 64 : Nat) : Int)) (by rw [show ((n : Int).tdiv 64) = ((n / 64 : Nat) : Int) from rfl, wrap_i64 (by omega) (by omega)])) (hd 28 rfl) ?_; refine jo_l (ly_mv rfl) (hd 29 rfl) ?_; refine jo_l (ly_is (ly_rem rfl rfl (by decide) rfl) (show V.i .i64 ((n : Int).tmod 64) = V.i .i64 ((n % 64 : Nat) : Int) from rfl)) (hd 30 rfl) ?_; refine jo_l (ly_conv und3 und116 rfl (r := ((n % 64 : Nat) : Int)) (wrap_u64 (by omega) (by omega))) (hd 31 rfl) ?_; refine jo_l (ly_as rfl) (hd 6 rfl) ?_; refine jo_l (ly_as rfl) (hd 7 rfl) ?_; refine jo_nil ?_; refine jc_seq ?_; refine jc_region ?_; refine jo_l (ly_mv rfl) (hd 32 rfl) ?_; refine jo_l (ly_mv rfl) (hd 33 rfl) ?_; refine jo_l (ly_lenn sl28 rfl) (hd 34 rfl) ?_; refine jo_l (ly_add rfl rfl (r := ((n / 64 + 1 : Nat) : Int)) (by show IntKind.i64.wrap (((n / 64 : Nat) : Int) + 1) = _; rw [wrap_i64 (by omega) (by omega)]; omega)) (hd 35 rfl) ?_; refine jo_l (ly_add rfl rfl (r := ((n / 64 + 2 : Nat) : Int)) (by rw [wrap_i64 (by omega) (by omega)]; omega)) (hd 36 rfl) ?_; refine jo_h (hy_mk (m := n / 64 + 2) el28 rfl rfl rfl (by show 8 * (n / 64 + 2) ≤ _; omega) (by unfold maxLen; omega) rfl) (hd 37 rfl) ?_; refine jo_l (ly_as rfl) (hd 8 rfl) ?_; refine jo_nil ?_; refine jc_seq ?_; refine jc_seq ?_; refine jc_H (H' := [⟨33, 1, 0, true, ints .u64 (twoS n 0)⟩]) (by show [(⟨33, 1, 0, true, ints .u64 _⟩ : Ob)] = [⟨33, 1, 0, true, ints .u64 _⟩]; rw [twoS_00]) ?_; refine jc_region ?_; refine jo_l (ly_mv rfl) (hd 38 rfl) ?_; refine jo_l (ly_lenn sl28 rfl) (hd 39 rfl) ?_; refine jo_l (ly_mv rfl) (hd 40 rfl) ?_; refine jo_nil ?_; refine jc_block ?_
  refine jc_loopF (G := Nat) (fun i => i ≤ 1) (fun i => [(40, .i .i64 (i : Int)), (9, .u), (10, .u), (41, .u), (42, .u), (43, .u), (44, .u), (45, .u), (46, .u), (47, .u), (48, .u), (49, .u), (50, .u), (51, .u), (52, .u), (53, .u), (54, .u), (55, .u), (56, .u), (57, .u), (58, .u), (59, .u), (60, .u), (61, .u), (62, .u), (63, .u), (64, .u), (65, .u), (66, .u), (67, .u), (68, .u), (69, .u), (70, .u)]) (fun i => [⟨33, 1, 0, true, ints .u64 (twoS n i)⟩]) (fun i => 1 - i) 0 ?_ ?_ rfl ?_
  · exact Nat.zero_le _
  · exact (.cons rfl (.u (.u (.u (.u (.u (.u (.u (.u (.u (.u (.u (.u (.u (.u (.u (.u (.u (.u (.u (.u (.u (.u (.u (.u (.u (.u (.u (.u (.u (.u (.u (.u .nil)))))))))))))))))))))))))))))))))
  · rintro i hi; refine jc_seq ?_; refine jc_region ?_; refine jo_l (ly_lt rfl rfl) (hd 41 rfl) ?_; refine jo_nil ?_; refine jc_seq ?_
    refine jc_if rfl (fun h4 => ?_) (fun h4 => ?_)
    · obtain rfl : i = 0 := (by have h9 : (i : Int) < (([1] : List Int).length : Int) := h4; simp at h9; omega)
      refine jc_skip ?_; refine jc_seq ?_; refine jc_block ?_; refine jc_seq ?_; refine jc_region ?_; refine jo_l (ly_mv rfl) (hd 42 rfl) ?_; refine jo_l (ly_ian (i := 0) sl28 rfl rfl (by first | rfl | omega) (by omega)) (hd 43 rfl) ?_; refine jo_l (ly_ldq one82 rfl rfl) (hd 44 rfl) ?_; refine jo_l (ly_as rfl) (hd 9 rfl) ?_; refine jo_l (ly_as rfl) (hd 10 rfl) ?_; refine jo_nil ?_; refine jc_seq ?_; refine jc_region ?_; refine jo_l (ly_mv rfl) (hd 45 rfl) ?_; refine jo_l (ly_mv rfl) (hd 46 rfl) ?_; refine jo_l (ly_mv rfl) (hd 47 rfl) ?_; refine jo_l (ly_add rfl rfl (r := ((n / 64 : Nat) : Int)) (by show IntKind.i64.wrap (((n / 64 : Nat) : Int) + 0) = _; rw [wrap_i64 (by omega) (by omega)]; omega)) (hd 48 rfl) ?_; refine jo_l (ly_ia (i := n / 64) sl28 rfl rfl rfl (by first | rfl | omega) (by omega) rfl) (hd 49 rfl) ?_; refine jo_l (ly_is (ly_ldi one82 rfl rfl (by rw [twoS_len]; omega)) (show V.i .u64 _ = V.i .u64 (0) from congrArg (V.i .u64) twoS_0)) (hd 50 rfl) ?_; refine jo_l (ly_mv rfl) (hd 51 rfl) ?_; refine jo_l (ly_mv rfl) (hd 52 rfl) ?_; refine jo_l (ly_is (ly_shl rfl rfl (by omega) rfl) (show V.i .u64 _ = V.i .u64 (((2 ^ (n % 64) : Nat) : Int)) from congrArg (V.i .u64) ((shl_sym (by omega)).trans (by rw [show ([1] : List Int).getD ((0 + 0) * 1) 0 = 1 from rfl, Int.one_mul, ← p2cast]; omega)))) (hd 53 rfl) ?_; refine jo_l (ly_is (ly_bit (by simp) rfl rfl rfl) (show V.i .u64 _ = V.i .u64 (((2 ^ (n % 64) : Nat) : Int)) from congrArg (V.i .u64) (or_z hp64.1 hp64.2))) (hd 54 rfl) ?_; refine jo_l (ly_ia (i := n / 64) sl28 rfl rfl rfl (by first | rfl | omega) (by omega) rfl) (hd 55 rfl) ?_; refine jo_st (sy_storei rfl rfl rfl one82 (by rw [twoS_len]; omega)) ?_; refine jo_nil ?_; refine jc_region ?_; refine jo_l (ly_mv rfl) (hd 56 rfl) ?_; refine jo_l (ly_mv rfl) (hd 57 rfl) ?_; refine jo_l (ly_mv rfl) (hd 58 rfl) ?_; refine jo_l (ly_add rfl rfl (r := ((n / 64 : Nat) : Int)) (by show IntKind.i64.wrap (((n / 64 : Nat) : Int) + 0) = _; rw [wrap_i64 (by omega) (by omega)]; omega)) (hd 59 rfl) ?_; refine jo_l (ly_add rfl rfl (r := ((n / 64 + 1 : Nat) : Int)) (by rw [wrap_i64 (by omega) (by omega)]; omega)) (hd 60 rfl) ?_; refine jo_l (ly_ia (i := n / 64 + 1) sl28 rfl rfl rfl (by first | rfl | omega) (by omega) rfl) (hd 61 rfl) ?_; refine jo_l (ly_is (ly_ldi one82 rfl rfl (by rw [List.length_set, twoS_len]; omega)) (show V.i .u64 _ = V.i .u64 (0) from congrArg (V.i .u64) twoS_at)) (hd 62 rfl) ?_; refine jo_l (ly_mv rfl) (hd 63 rfl) ?_; refine jo_l (ly_is (ly_shr rfl rfl (by decide) rfl) (show V.i .u64 _ = V.i .u64 (0) from congrArg (V.i .u64) (by decide))) (hd 64 rfl) ?_; refine jo_l (ly_mv rfl) (hd 65 rfl) ?_; refine jo_l (ly_sub rfl rfl (r := ((63 - n % 64 : Nat) : Int)) (by rw [wrap_u64 (by omega) (by omega)]; omega)) (hd 66 rfl) ?_; refine jo_l (ly_is (ly_shr rfl rfl (by omega) rfl) (show V.i .u64 _ = V.i .u64 (0) from congrArg (V.i .u64) (Int.zero_fdiv _))) (hd 67 rfl) ?_; refine jo_l (ly_is (ly_bit (by simp) rfl rfl rfl) (show V.i .u64 _ = V.i .u64 0 from congrArg (V.i .u64) (by decide +kernel))) (hd 68 rfl) ?_; refine jo_l (ly_ia (i := n / 64 + 1) sl28 rfl rfl rfl (by first | rfl | omega) (by omega) rfl) (hd 69 rfl) ?_; refine jo_st (sy_storei rfl rfl rfl one82 (by rw [List.length_set, twoS_len]; omega)) ?_; refine jo_nil ?_; refine jc_region ?_; refine jo_l (ly_add rfl rfl (r := 1) rfl) (hd 70 rfl) ?_; refine jo_l (ly_mv rfl) (hd 40 rfl) ?_; refine jo_nil ?_
      refine ⟨0 + 1, ?_, ?_, (by show [(⟨33, 1, 0, true, ints .u64 _⟩ : Ob)] = [⟨33, 1, 0, true, ints .u64 _⟩]; first | rw [twoS_set] | rw [twoS_00]), cov_n 66 rfl rfl ?_⟩
      · decide
      · decide
      · exact (.cons rfl (.u (.u (.u (.u (.u (.u (.u (.u (.u (.u (.u (.u (.u (.u (.u (.u (.u (.u (.u (.u (.u (.u (.u (.u (.u (.u (.u (.u (.u (.u (.u (.u .nil)))))))))))))))))))))))))))))))))
    · obtain rfl : i = 1 := (by have h9 : ¬ (i : Int) < (([1] : List Int).length : Int) := h4; simp at h9; omega)
      refine jc_exit ?_; refine jc_seq ?_; refine jc_frz (k := .u64) (l' := twoL n) 8 rfl rfl (by rw [twoS_len]; omega) (by rw [twoS_1, List.drop_zero, List.take_of_length_le (by rw [twoL_len]; omega)]) hL ?_; refine jc_region ?_; refine jo_l (ly_mv rfl) (hd 71 rfl) ?_
      refine jo_call Try.f44 (hT8) rfl Try.func44 rfl rfl (ovL_cons rfl ovL_nil) (.cons .n .nil) (hd 72 rfl) ?_ (fun ch hp => by simp at hp)
      rintro y hy; injection hy with hy; subst hy; refine jo_l (ly_as rfl) (hd 4 rfl) ?_; refine jo_l (ly_as rfl) (hd 5 rfl) ?_; refine jo_nil ?_; refine jc_ret ?_
      refine ⟨_, _, (.cons rfl (.cons rfl .nil)), (.t1 .nn (.t1 .i .t0)), ?_⟩
      exact rfl

set_option maxHeartbeats 4000000 in
theorem power_v (n : Nat) (hn9 : n + 1 ≤ 67108864) : Spec Try.prog 81 [.i .i64 (n : Int)] (fun o => o = .ret (.n false .u64 (lm ((2 ^ n : Nat) : Int)))) := by
  refine spec_of' [(0, .i .i64 (n : Int))] rfl Try.func81 rfl (Nat.le_of_ble_eq_true rfl) fun Γ hN hds hL hR => ?_
  have hd : ∀ d, Nat.blt d 12 = true → d < Γ.N := fun d h => by rw [hN]; exact Nat.le_of_ble_eq_true h
  have hF1 : Spec Try.prog 43 [.i .u64 1] (fun o => o = .ret (.n true .u64 [1])) := by have h := From_s 1; rwa [if_neg (by decide)] at h
  have hLf := Left_p n hn9
  refine jc_seq ?_; refine jc_region ?_; refine jo_l (ly_as rfl) (hd 2 rfl) ?_; refine jo_nil ?_; refine jc_seq ?_; refine jc_region ?_
  refine jo_call Try.f43 (hF1) rfl Try.func43 rfl rfl (ovL_cons rfl ovL_nil) (.cons .i .nil) (hd 6 rfl) ?_ (fun ch hp => by simp at hp)
  rintro y hy; injection hy with hy; subst hy; refine jo_l (ly_mv rfl) (hd 7 rfl) ?_
  refine jo_call Try.f112 (hLf) rfl Try.func112 rfl rfl (ovL_cons rfl (ovL_cons rfl ovL_nil)) (.cons .n (.cons .i .nil)) (hd 8 rfl) ?_ (fun ch hp => by simp at hp)
  rintro y hy; injection hy with hy; subst hy; refine jo_l (ly_mv rfl) (hd 5 rfl) ?_; refine jo_l (ly_ext rfl rfl) (hd 9 rfl) ?_; refine jo_l (ly_ext rfl rfl) (hd 10 rfl) ?_; refine jo_l (ly_as rfl) (hd 3 rfl) ?_; refine jo_l (ly_as rfl) (hd 4 rfl) ?_; refine jo_nil ?_; refine jc_seq ?_; refine jc_region ?_; refine jo_l (ly_mv rfl) (hd 11 rfl) ?_; refine jo_l (ly_as rfl) (hd 2 rfl) ?_; refine jo_nil ?_; refine jc_ret ?_
  refine ⟨_, _, (.cons rfl .nil), .n, ?_⟩
  exact rfl

theorem Cmp_n (v w : Int) (hv : 0 ≤ v) (hw : 0 ≤ w) (hlv : (lm v).length < 4294967296) (hlw : (lm w).length < 4294967296) : Spec Try.prog 12 [.n false .u64 (lm v), .n false .u64 (lm w)] (fun o => o = .ret (.i .i64 (cmpI v w))) := by
  have h := Compare_s (lm v) (lm w) hlv hlw
  have e : cmpL (trm (lm v)) (trm (lm w)) = cmpI v w := by
    have h1 := cmpL_val (lm_u v) (lm_u w)
    rw [vl_lm hv, vl_lm hw] at h1
    unfold cmpI
    rcases h1 with ⟨h1, h2⟩ | ⟨h1, h2⟩ | ⟨h1, h2⟩ <;> rw [h1]
    · rw [if_neg (by omega), if_neg (by omega)]
    · rw [if_pos h2]
    · rw [if_neg (by omega), if_pos h2]
  rwa [e] at h

set_option maxHeartbeats 4000000 in
theorem newton_v (a n r mm : Nat) (hk : n + 1 < lenV (a : Int)) (hRt : RootIs a (n + 1) r) (hst : (lenV (a : Int) + (n + 1) - 1) / (n + 1) = mm) (hf : 2 * lenV (a : Int) + 200 ≤ 67108864) : Spec Try.prog 40 [.n false .u64 (lm (a : Int)), .i .i64 ((n + 1 : Nat) : Int)] (fun o => o = .ret (.n false .u64 (lm (r : Int)))) := by
  refine spec_of' [(0, .n false .u64 (lm (a : Int))), (1, .i .i64 ((n + 1 : Nat) : Int))] rfl Try.func40 rfl (Nat.le_of_ble_eq_true rfl) fun Γ hN hds hL hR => ?_
  have hd : ∀ d, Nat.blt d 72 = true → d < Γ.N := fun d h => by rw [hN]; exact Nat.le_of_ble_eq_true h
  have hr2 := root_2 hRt hk
  have hrm := root_start hRt (by omega) hst
  have hmk := start_mul hst
  rw [Nat.add_sub_cancel] at hmk
  have hml := start_le (k := n + 1) (by omega) (by omega) hst
  have hla := lenV_lm (v := (a : Int)) (by omega)
  have hpw := power_v mm (by omega)
  refine jc_seq ?_; refine jc_region ?_; refine jo_l (ly_as rfl) (hd 4 rfl) ?_; refine jo_nil ?_; refine jc_seq ?_; refine jc_region ?_; refine jo_l (ly_mv rfl) (hd 18 rfl) ?_
  refine jo_call Try.f15 (Length_v (a : Int) (by omega)) rfl Try.func15 rfl rfl (ovL_cons rfl ovL_nil) (.cons .n .nil) (hd 19 rfl) ?_ (fun ch hp => by simp at hp)
  rintro y hy; injection hy with hy; subst hy; refine jo_l (ly_as rfl) (hd 5 rfl) ?_; refine jo_nil ?_; refine jc_seq ?_; refine jc_seq ?_; refine jc_region ?_; refine jo_l (ly_mv rfl) (hd 20 rfl) ?_; refine jo_l (ly_mv rfl) (hd 21 rfl) ?_; refine jo_l (ly_ff (ly_ge rfl rfl) (by omega)) (hd 22 rfl) ?_; refine jo_nil ?_; refine jc_litf rfl ?_; refine jc_skip ?_; refine jc_seq ?_; refine jc_region ?_; refine jo_l (ly_mv rfl) (hd 24 rfl) ?_; refine jo_l (ly_mv rfl) (hd 25 rfl) ?_; refine jo_l (ly_add rfl rfl (r := ((lenV (a : Int) + (n + 1) : Nat) : Int)) (by rw [wrap_i64 (by omega) (by omega)]; omega)) (hd 26 rfl) ?_; refine jo_l (ly_sub rfl rfl (r := ((lenV (a : Int) + (n + 1) - 1 : Nat) : Int)) (by rw [wrap_i64 (by omega) (by omega)]; omega)) (hd 27 rfl) ?_; refine jo_l (ly_mv rfl) (hd 28 rfl) ?_; refine jo_l (ly_quo rfl rfl (by omega) (r := (mm : Int)) (by rw [show (((lenV (a : Int) + (n + 1) - 1 : Nat) : Int)).tdiv ((n + 1 : Nat) : Int) = (((lenV (a : Int) + (n + 1) - 1) / (n + 1) : Nat) : Int) from rfl, hst]; exact wrap_i64 (by omega) (by omega))) (hd 29 rfl) ?_
  refine jo_call Try.f81 (hpw) rfl Try.func81 rfl rfl (ovL_cons rfl ovL_nil) (.cons .i .nil) (hd 30 rfl) ?_ (fun ch hp => by simp at hp)
  rintro y hy; injection hy with hy; subst hy; refine jo_l (ly_as rfl) (hd 6 rfl) ?_; refine jo_nil ?_; refine jc_block ?_
  refine jc_loopF (G := Nat) (fun x => r ≤ x ∧ x ≤ 2 ^ mm) (fun x => [(6, .n false .u64 (lm (x : Int))), (4, .u), (7, .u), (8, .u), (9, .u), (10, .u), (11, .u), (12, .u), (13, .u), (14, .u), (15, .u), (16, .u), (17, .u), (31, .u), (32, .u), (33, .u), (34, .u), (35, .u), (36, .u), (37, .u), (38, .u), (39, .u), (40, .u), (41, .u), (42, .u), (43, .u), (44, .u), (45, .u), (46, .u), (47, .u), (48, .u), (49, .u), (50, .u), (51, .u), (52, .u), (53, .u), (54, .u), (55, .u), (56, .u), (57, .u), (58, .u), (59, .u), (60, .u), (61, .u), (62, .u), (63, .u), (64, .u), (65, .u), (66, .u), (67, .u), (68, .u), (69, .u), (70, .u), (71, .u)]) (fun _ => _) (fun x => x) (2 ^ mm) ?_ ?_ rfl ?_
  · exact ⟨hrm, Nat.le_refl _⟩
  · exact (.cons rfl (.u (.u (.u (.u (.u (.u (.u (.u (.u (.u (.u (.u (.u (.u (.u (.u (.u (.u (.u (.u (.u (.u (.u (.u (.u (.u (.u (.u (.u (.u (.u (.u (.u (.u (.u (.u (.u (.u (.u (.u (.u (.u (.u (.u (.u (.u (.u (.u (.u (.u (.u (.u (.u .nil))))))))))))))))))))))))))))))))))))))))))))))))))))))
  · rintro x ⟨hc1, hc2⟩
    have hx2 : 2 ≤ x := by omega
    have hu0 : (0 : Int) ≤ ((a / x ^ n : Nat) : Int) := Int.natCast_nonneg _
    have hPn : 0 ≤ PW x n := PW_nn
    have hlx := len_2m hc2
    have hpl := pw_len2 (n := n) hc2
    have hp0 := PW_pos (n := n) hx2
    have hq9 : lenV ((a / x ^ n : Nat) : Int) ≤ lenV (a : Int) := lenV_mono (by have := Nat.div_le_self a (x ^ n); omega)
    have hxn := lenV_mul (x : Int) (n : Int)
    have hn6 : lenV (n : Int) ≤ 64 := len64.2 (by omega)
    have hsm := lenV_add ((x : Int) * (n : Int)) ((a / x ^ n : Nat) : Int)
    have hxn0 : 0 ≤ (x : Int) * (n : Int) := Int.mul_nonneg (by omega) (by omega)
    have hQu : Spec Try.prog 59 [.n false .u64 (lm (a : Int)), .n false .u64 (lm (PW x n))] (fun o => o = .ret (.t [.n false .u64 (lm ((a / x ^ n : Nat) : Int)), .i .i64 0])) := by have h := Quo_v (a : Int) (PW x n) (by omega) (by omega) hp0; rwa [qn_pw] at h
    have hls := lenV_lm (v := ((x : Int) * (n : Int) + ((a / x ^ n : Nat) : Int))) (by omega)
    have hTh : Spec Try.prog 83 [.n false .u64 (lm ((x : Int) * (n : Int) + ((a / x ^ n : Nat) : Int))), .i .u64 ((n + 1 : Nat) : Int)] (fun o => o = .ret (.t [.n false .u64 (lm ((nwt a x n : Nat) : Int)), .i .u64 (((x : Int) * (n : Int) + ((a / x ^ n : Nat) : Int)) % ((n + 1 : Nat) : Int)), .i .i64 0])) := by have h := Through_s (lm ((x : Int) * (n : Int) + ((a / x ^ n : Nat) : Int))) ((n + 1 : Nat) : Int) (by omega) (lm_u _) (by omega) (by omega) (by rw [lenN_lm]; omega); rwa [vl_lm (by omega), nwt_i] at h
    have hly : lenV ((nwt a x n : Nat) : Int) ≤ lenV ((x : Int) * (n : Int) + ((a / x ^ n : Nat) : Int)) := lenV_mono (by rw [← nwt_i, Int.natAbs_ediv_of_nonneg (by omega)]; exact Nat.div_le_self _ _)
    have hmy := lenV_lm (v := ((nwt a x n : Nat) : Int)) (by omega)
    have hmx := lenV_lm (v := (x : Int)) (by omega)
    refine jc_block ?_; refine jc_seq ?_; refine jc_region ?_; refine jo_l (ly_mv rfl) (hd 32 rfl) ?_; refine jo_l (ly_mv rfl) (hd 33 rfl) ?_; refine jo_l (ly_sub rfl rfl (r := (n : Int)) (by rw [wrap_i64 (by omega) (by omega)]; omega)) (hd 34 rfl) ?_
    refine jo_call Try.f10 (Pow_v x n hx2 (by omega) (by omega)) rfl Try.func10 rfl rfl (ovL_cons rfl (ovL_cons rfl ovL_nil)) (.cons .n (.cons .i .nil)) (hd 35 rfl) ?_ (fun ch hp => by simp at hp)
    rintro y hy; injection hy with hy; subst hy; refine jo_l (ly_mv rfl) (hd 31 rfl) ?_; refine jo_l (ly_ext rfl rfl) (hd 36 rfl) ?_; refine jo_l (ly_ext rfl rfl) (hd 37 rfl) ?_; refine jo_l (ly_as rfl) (hd 7 rfl) ?_; refine jo_l (ly_as rfl) (hd 8 rfl) ?_; refine jo_nil ?_; refine jc_seq ?_; refine jc_region ?_; refine jo_l (ly_mv rfl) (hd 39 rfl) ?_; refine jo_l (ly_mv rfl) (hd 40 rfl) ?_
    refine jo_call Try.f59 (hQu) rfl Try.func59 rfl rfl (ovL_cons rfl (ovL_cons rfl ovL_nil)) (.cons .n (.cons .n .nil)) (hd 41 rfl) ?_ (fun ch hp => by simp at hp)
    rintro y hy; injection hy with hy; subst hy; refine jo_l (ly_mv rfl) (hd 38 rfl) ?_; refine jo_l (ly_ext rfl rfl) (hd 42 rfl) ?_; refine jo_l (ly_ext rfl rfl) (hd 43 rfl) ?_; refine jo_l (ly_as rfl) (hd 9 rfl) ?_; refine jo_l (ly_as rfl) (hd 10 rfl) ?_; refine jo_nil ?_; refine jc_seq ?_; refine jc_region ?_; refine jo_l (ly_mv rfl) (hd 45 rfl) ?_; refine jo_l (ly_mv rfl) (hd 46 rfl) ?_; refine jo_l (ly_sub rfl rfl (r := (n : Int)) (by rw [wrap_i64 (by omega) (by omega)]; omega)) (hd 47 rfl) ?_; refine jo_l (ly_conv und3 und82 rfl (r := (n : Int)) (wrap_u64 (by omega) (by omega))) (hd 48 rfl) ?_
    refine jo_call Try.f82 (Times_v (x : Int) (n : Int) (by omega) (by omega) (by omega) (by omega) (by omega)) rfl Try.func82 rfl rfl (ovL_cons rfl (ovL_cons rfl ovL_nil)) (.cons .n (.cons .i .nil)) (hd 49 rfl) ?_ (fun ch hp => by simp at hp)
    rintro y hy; injection hy with hy; subst hy; refine jo_l (ly_mv rfl) (hd 44 rfl) ?_; refine jo_l (ly_ext rfl rfl) (hd 50 rfl) ?_; refine jo_l (ly_ext rfl rfl) (hd 51 rfl) ?_; refine jo_l (ly_as rfl) (hd 11 rfl) ?_; refine jo_l (ly_as rfl) (hd 12 rfl) ?_; refine jo_nil ?_; refine jc_seq ?_; refine jc_region ?_; refine jo_l (ly_mv rfl) (hd 53 rfl) ?_; refine jo_l (ly_mv rfl) (hd 54 rfl) ?_
    refine jo_call Try.f11 (Add_f ((x : Int) * (n : Int)) ((a / x ^ n : Nat) : Int) hxn0 (by omega) (by omega) (by omega) (by omega)) rfl Try.func11 rfl rfl (ovL_cons rfl (ovL_cons rfl ovL_nil)) (.cons .n (.cons .n .nil)) (hd 55 rfl) ?_ (fun ch hp => by simp at hp)
    rintro y hy; injection hy with hy; subst hy; refine jo_l (ly_mv rfl) (hd 52 rfl) ?_; refine jo_l (ly_ext rfl rfl) (hd 56 rfl) ?_; refine jo_l (ly_ext rfl rfl) (hd 57 rfl) ?_; refine jo_l (ly_as rfl) (hd 13 rfl) ?_; refine jo_l (ly_as rfl) (hd 14 rfl) ?_; refine jo_nil ?_; refine jc_seq ?_; refine jc_region ?_; refine jo_l (ly_mv rfl) (hd 59 rfl) ?_; refine jo_l (ly_mv rfl) (hd 60 rfl) ?_; refine jo_l (ly_conv und3 und82 rfl (r := ((n + 1 : Nat) : Int)) (wrap_u64 (by omega) (by omega))) (hd 61 rfl) ?_
    refine jo_call Try.f83 (hTh) rfl Try.func83 rfl rfl (ovL_cons rfl (ovL_cons rfl ovL_nil)) (.cons .n (.cons .i .nil)) (hd 62 rfl) ?_ (fun ch hp => by simp at hp)
    rintro y hy; injection hy with hy; subst hy; refine jo_l (ly_mv rfl) (hd 58 rfl) ?_; refine jo_l (ly_ext rfl rfl) (hd 63 rfl) ?_; refine jo_l (ly_ext rfl rfl) (hd 64 rfl) ?_; refine jo_l (ly_ext rfl rfl) (hd 65 rfl) ?_; refine jo_l (ly_as rfl) (hd 15 rfl) ?_; refine jo_l (ly_as rfl) (hd 16 rfl) ?_; refine jo_l (ly_as rfl) (hd 17 rfl) ?_; refine jo_nil ?_; refine jc_seq ?_; refine jc_seq ?_; refine jc_region ?_; refine jo_l (ly_mv rfl) (hd 66 rfl) ?_; refine jo_l (ly_mv rfl) (hd 67 rfl) ?_
    refine jo_call Try.f12 (Cmp_n ((nwt a x n : Nat) : Int) (x : Int) (by omega) (by omega) (by omega) (by omega)) rfl Try.func12 rfl rfl (ovL_cons rfl (ovL_cons rfl ovL_nil)) (.cons .n (.cons .n .nil)) (hd 68 rfl) ?_ (fun ch hp => by simp at hp)
    rintro y hy; injection hy with hy; subst hy; refine jo_l (ly_ge rfl rfl) (hd 69 rfl) ?_; refine jo_nil ?_
    refine jc_if rfl (fun h2 => ?_) (fun h2 => ?_)
    · have hxr := hRt.is hc1 (nw_exit (by omega) (cmp_le h2))
      refine jc_seq ?_; refine jc_region ?_; refine jo_l (ly_mv rfl) (hd 70 rfl) ?_; refine jo_l (ly_as rfl) (hd 4 rfl) ?_; refine jo_nil ?_; refine jc_ret ?_
      refine ⟨_, _, (.cons rfl .nil), .n, ?_⟩
      rw [hxr]
    · have hyx := cmp_lt' h2
      refine jc_skip ?_; refine jc_region ?_; refine jo_l (ly_mv rfl) (hd 71 rfl) ?_; refine jo_l (ly_as rfl) (hd 6 rfl) ?_; refine jo_nil ?_
      refine ⟨nwt a x n, ?_, ?_, rfl, cov_n 106 (by kernel_rfl) (by kernel_rfl) ?_⟩
      · exact ⟨nw_low (by omega) hRt.le, by omega⟩
      · omega
      · exact (.cons rfl (.u (.u (.u (.u (.u (.u (.u (.u (.u (.u (.u (.u (.u (.u (.u (.u (.u (.u (.u (.u (.u (.u (.u (.u (.u (.u (.u (.u (.u (.u (.u (.u (.u (.u (.u (.u (.u (.u (.u (.u (.u (.u (.u (.u (.u (.u (.u (.u (.u (.u (.u (.u (.u .nil))))))))))))))))))))))))))))))))))))))))))))))))))))))
end Go.Proofs.Ytaogaegchagbfaa.Vc

/- Contracts of roots.Root, surdtop.works. -/
namespace Go.Proofs.Ytaogaegchagbfaa.Vc
open Go Go.RowKit
set_option maxHeartbeats 4000000 in
theorem rfits_s (l : List Int) (hl : l.length ≤ 1048576) (hu : u64s l) (hf : lenN l ≤ 67108864) : Spec Try.prog 39 [.n false .u64 l] (fun o => o = .ret (.t [.n true .u64 (trm l), .i .i64 0])) := by
  refine spec_of' [(0, .n false .u64 l)] rfl Try.func39 rfl (Nat.le_of_ble_eq_true rfl) fun Γ hN hds hL hR => ?_
  have hd : ∀ d, Nat.blt d 9 = true → d < Γ.N := fun d h => by rw [hN]; exact Nat.le_of_ble_eq_true h
  refine jc_seq ?_; refine jc_region ?_; refine jo_l (ly_as rfl) (hd 2 rfl) ?_; refine jo_l (ly_as rfl) (hd 3 rfl) ?_; refine jo_nil ?_; refine jc_seq ?_; refine jc_seq ?_; refine jc_region ?_; refine jo_l (ly_mv rfl) (hd 4 rfl) ?_
  refine jo_call Try.f15 (Length_s l (by omega) hu) rfl Try.func15 rfl rfl (ovL_cons rfl ovL_nil) (.cons .n .nil) (hd 5 rfl) ?_ (fun ch hp => by simp at hp)
  rintro y hy; injection hy with hy; subst hy; refine jo_l (ly_ff (ly_gt rfl rfl) (by omega)) (hd 6 rfl) ?_; refine jo_nil ?_; refine jc_litf rfl ?_; refine jc_skip ?_; refine jc_seq ?_; refine jc_region ?_; refine jo_l (ly_mv rfl) (hd 7 rfl) ?_
  refine jo_call Try.f42 (Norm_s l (by omega)) rfl Try.func42 rfl rfl (ovL_cons rfl ovL_nil) (.cons .n .nil) (hd 8 rfl) ?_ (fun ch hp => by simp at hp)
  rintro y hy; injection hy with hy; subst hy; refine jo_l (ly_as rfl) (hd 2 rfl) ?_; refine jo_l (ly_as rfl) (hd 3 rfl) ?_; refine jo_nil ?_; refine jc_ret ?_
  refine ⟨_, _, (.cons rfl (.cons rfl .nil)), (.t1 .n (.t1 .i .t0)), ?_⟩
  exact rfl

set_option maxHeartbeats 4000000 in
theorem rless_v (v x : Int) (h0 : 0 ≤ x) (hle : x ≤ v) (hv : lenV v ≤ 67108864) : Spec Try.prog 41 [.n false .u64 (lm v), .n false .u64 (lm x)] (fun o => o = .ret (.n false .u64 (lm (v - x)))) := by
  refine spec_of' [(0, .n false .u64 (lm v)), (1, .n false .u64 (lm x))] rfl Try.func41 rfl (Nat.le_of_ble_eq_true rfl) fun Γ hN hds hL hR => ?_
  have hd : ∀ d, Nat.blt d 14 = true → d < Γ.N := fun d h => by rw [hN]; exact Nat.le_of_ble_eq_true h
  refine jc_seq ?_; refine jc_region ?_; refine jo_l (ly_as rfl) (hd 4 rfl) ?_; refine jo_nil ?_; refine jc_seq ?_; refine jc_region ?_; refine jo_l (ly_mv rfl) (hd 8 rfl) ?_; refine jo_l (ly_mv rfl) (hd 9 rfl) ?_
  refine jo_call Try.f84 (Sub_v v x h0 hle hv) rfl Try.func84 rfl rfl (ovL_cons rfl (ovL_cons rfl ovL_nil)) (.cons .n (.cons .n .nil)) (hd 10 rfl) ?_ (fun ch hp => by simp at hp)
  rintro y hy; injection hy with hy; subst hy; refine jo_l (ly_mv rfl) (hd 7 rfl) ?_; refine jo_l (ly_ext rfl rfl) (hd 11 rfl) ?_; refine jo_l (ly_ext rfl rfl) (hd 12 rfl) ?_; refine jo_l (ly_as rfl) (hd 5 rfl) ?_; refine jo_l (ly_as rfl) (hd 6 rfl) ?_; refine jo_nil ?_; refine jc_seq ?_; refine jc_region ?_; refine jo_l (ly_mv rfl) (hd 13 rfl) ?_; refine jo_l (ly_as rfl) (hd 4 rfl) ?_; refine jo_nil ?_; refine jc_ret ?_
  refine ⟨_, _, (.cons rfl .nil), .n, ?_⟩
  exact rfl

set_option maxHeartbeats 4000000 in
theorem Root_s (l : List Int) (a n r : Nat) (hl : l.length ≤ 1048576) (hu : u64s l) (hv : vl l = (a : Int)) (ha : 0 < a) (hn : 2 ≤ n) (hRt : RootIs a n r) (hf : lenV (a : Int) ≤ 67108864) (hNw : Spec Try.prog 40 [.n false .u64 (lm (a : Int)), .i .i64 (n : Int)] (fun o => o = .ret (.n false .u64 (lm (r : Int))))) (hPw : Spec Try.prog 10 [.n false .u64 (lm (r : Int)), .i .i64 (n : Int)] (fun o => o = .ret (.t [.n false .u64 (lm (PW r n)), .i .i64 0]))) : Spec Try.prog 9 [.n false .u64 l, .i .i64 (n : Int)] (fun o => o = .ret (.t [.n false .u64 (lm (r : Int)), .n false .u64 (lm ((a : Int) - PW r n)), .i .i64 0])) := by
  refine spec_of' [(0, .n false .u64 l), (1, .i .i64 (n : Int))] rfl Try.func9 rfl (Nat.le_of_ble_eq_true rfl) fun Γ hN hds hL hR => ?_
  have hd : ∀ d, Nat.blt d 42 = true → d < Γ.N := fun d h => by rw [hN]; exact Nat.le_of_ble_eq_true h
  have hfi := rfits_s l hl hu (by rw [lenN_lenV hu hv]; omega)
  rw [trm_lm hu hv] at hfi
  have hla := lenV_lm (v := (a : Int)) (by omega)
  have hle : PW r n ≤ (a : Int) := by have := hRt.le; unfold PW; omega
  have hlp : lenV (PW r n) ≤ lenV (a : Int) := lenV_mono (by have : 0 ≤ PW r n := PW_nn; omega)
  have hls := rless_v (a : Int) (PW r n) PW_nn hle (by omega)
  have ha1 : 0 < lenV (a : Int) := by have := @lenV_0 (a : Int); omega
  refine jc_seq ?_; refine jc_region ?_; refine jo_l (ly_as rfl) (hd 4 rfl) ?_; refine jo_l (ly_as rfl) (hd 5 rfl) ?_; refine jo_l (ly_as rfl) (hd 6 rfl) ?_; refine jo_nil ?_; refine jc_seq ?_; refine jc_seq ?_; refine jc_region ?_; refine jo_l (ly_mv rfl) (hd 11 rfl) ?_; refine jo_l (ly_ff (ly_lt rfl rfl) (by omega)) (hd 12 rfl) ?_; refine jo_nil ?_; refine jc_litf rfl ?_; refine jc_skip ?_; refine jc_seq ?_; refine jc_region ?_; refine jo_l (ly_mv rfl) (hd 14 rfl) ?_
  refine jo_call Try.f39 (hfi) rfl Try.func39 rfl rfl (ovL_cons rfl ovL_nil) (.cons .n .nil) (hd 15 rfl) ?_ (fun ch hp => by simp at hp)
  rintro y hy; injection hy with hy; subst hy; refine jo_l (ly_mv rfl) (hd 13 rfl) ?_; refine jo_l (ly_ext rfl rfl) (hd 16 rfl) ?_; refine jo_l (ly_ext rfl rfl) (hd 17 rfl) ?_; refine jo_l (ly_as rfl) (hd 0 rfl) ?_; refine jo_l (ly_as rfl) (hd 7 rfl) ?_; refine jo_nil ?_; refine jc_seq ?_; refine jc_seq ?_; refine jc_region ?_; refine jo_l (ly_mv rfl) (hd 18 rfl) ?_; refine jo_l (ly_ff (ly_ne rfl rfl) (by decide)) (hd 19 rfl) ?_; refine jo_nil ?_; refine jc_litf rfl ?_; refine jc_skip ?_; refine jc_seq ?_; refine jc_seq ?_; refine jc_region ?_; refine jo_l (ly_mv rfl) (hd 21 rfl) ?_; refine jo_l (ly_ff (ly_eq rfl rfl) (by omega)) (hd 22 rfl) ?_; refine jo_l (ly_mv rfl) (hd 23 rfl) ?_; refine jo_g 23 rfl rfl (ly_mv rfl) (hd 24 rfl) ?_
  refine jo_callg Try.f15 23 rfl rfl (Length_v (a : Int) (by omega)) rfl Try.func15 rfl rfl (ovL_cons rfl ovL_nil) (.cons .n .nil) (hd 25 rfl) ?_ (fun ch hp => by simp at hp)
  rintro y hy; injection hy with hy; subst hy; refine jo_g 23 rfl rfl (ly_ff (ly_eq rfl rfl) (by omega)) (hd 26 rfl) ?_; refine jo_l (ly_pick_f rfl rfl) (hd 27 rfl) ?_; refine jo_nil ?_; refine jc_litf rfl ?_; refine jc_skip ?_; refine jc_seq ?_; refine jc_region ?_; refine jo_l (ly_mv rfl) (hd 29 rfl) ?_; refine jo_l (ly_mv rfl) (hd 30 rfl) ?_
  refine jo_call Try.f40 (hNw) rfl Try.func40 rfl rfl (ovL_cons rfl (ovL_cons rfl ovL_nil)) (.cons .n (.cons .i .nil)) (hd 31 rfl) ?_ (fun ch hp => by simp at hp)
  rintro y hy; injection hy with hy; subst hy; refine jo_l (ly_as rfl) (hd 8 rfl) ?_; refine jo_nil ?_; refine jc_seq ?_; refine jc_region ?_; refine jo_l (ly_mv rfl) (hd 33 rfl) ?_; refine jo_l (ly_mv rfl) (hd 34 rfl) ?_
  refine jo_call Try.f10 (hPw) rfl Try.func10 rfl rfl (ovL_cons rfl (ovL_cons rfl ovL_nil)) (.cons .n (.cons .i .nil)) (hd 35 rfl) ?_ (fun ch hp => by simp at hp)
  rintro y hy; injection hy with hy; subst hy; refine jo_l (ly_mv rfl) (hd 32 rfl) ?_; refine jo_l (ly_ext rfl rfl) (hd 36 rfl) ?_; refine jo_l (ly_ext rfl rfl) (hd 37 rfl) ?_; refine jo_l (ly_as rfl) (hd 9 rfl) ?_; refine jo_l (ly_as rfl) (hd 10 rfl) ?_; refine jo_nil ?_; refine jc_seq ?_; refine jc_region ?_; refine jo_l (ly_mv rfl) (hd 38 rfl) ?_; refine jo_l (ly_mv rfl) (hd 39 rfl) ?_; refine jo_l (ly_mv rfl) (hd 40 rfl) ?_
  refine jo_call Try.f41 (hls) rfl Try.func41 rfl rfl (ovL_cons rfl (ovL_cons rfl ovL_nil)) (.cons .n (.cons .n .nil)) (hd 41 rfl) ?_ (fun ch hp => by simp at hp)
  rintro y hy; injection hy with hy; subst hy; refine jo_l (ly_as rfl) (hd 4 rfl) ?_; refine jo_l (ly_as rfl) (hd 5 rfl) ?_; refine jo_l (ly_as rfl) (hd 6 rfl) ?_; refine jo_nil ?_; refine jc_ret ?_
  refine ⟨_, _, (.cons rfl (.cons rfl (.cons rfl .nil))), (.t1 .nn (.t1 .nn (.t1 .i .t0))), ?_⟩
  exact rfl

set_option maxHeartbeats 4000000 in
theorem Sqrt_49  : Spec Try.prog 14 [.n false .u64 [49]] (fun o => o = .ret (.t [.n false .u64 [7], .n false .u64 [], .i .i64 0])) := by
  refine spec_of' [(0, .n false .u64 [49])] rfl Try.func14 rfl (Nat.le_of_ble_eq_true rfl) fun Γ hN hds hL hR => ?_
  have hd : ∀ d, Nat.blt d 10 = true → d < Γ.N := fun d h => by rw [hN]; exact Nat.le_of_ble_eq_true h
  have hRo : Spec Try.prog 9 [.n false .u64 [49], .i .i64 2] (fun o => o = .ret (.t [.n false .u64 [7], .n false .u64 [], .i .i64 0])) := by
      have e49 : lenV ((49 : Nat) : Int) = 6 := by decide +kernel
      have hN := newton_v 49 1 7 3 (by rw [e49]; decide) ⟨by decide, by decide⟩ (by rw [e49]) (by rw [e49]; decide)
      have hP := Pow_v 7 2 (by decide) (by decide +kernel) (by decide +kernel)
      have h := Root_s [49] 49 2 7 (by decide) (u64s1 (by decide) (by decide)) (by decide) (by decide) (by decide) ⟨by decide, by decide⟩ (by rw [e49]; decide) hN hP
      rwa [show lm ((7 : Nat) : Int) = [7] by rw [← fl_lm (by decide) (by decide)]; rfl, show ((49 : Nat) : Int) - PW 7 2 = 0 by decide, lm_0] at h
  refine jc_seq ?_; refine jc_region ?_; refine jo_l (ly_as rfl) (hd 2 rfl) ?_; refine jo_l (ly_as rfl) (hd 3 rfl) ?_; refine jo_l (ly_as rfl) (hd 4 rfl) ?_; refine jo_nil ?_; refine jc_seq ?_; refine jc_region ?_; refine jo_l (ly_mv rfl) (hd 5 rfl) ?_
  refine jo_call Try.f9 (hRo) rfl Try.func9 rfl rfl (ovL_cons rfl (ovL_cons rfl ovL_nil)) (.cons .n (.cons .i .nil)) (hd 6 rfl) ?_ (fun ch hp => by simp at hp)
  rintro y hy; injection hy with hy; subst hy; refine jo_l (ly_ext rfl rfl) (hd 7 rfl) ?_; refine jo_l (ly_ext rfl rfl) (hd 8 rfl) ?_; refine jo_l (ly_ext rfl rfl) (hd 9 rfl) ?_; refine jo_l (ly_as rfl) (hd 2 rfl) ?_; refine jo_l (ly_as rfl) (hd 3 rfl) ?_; refine jo_l (ly_as rfl) (hd 4 rfl) ?_; refine jo_nil ?_; refine jc_ret ?_
  refine ⟨_, _, (.cons rfl (.cons rfl (.cons rfl .nil))), (.t1 .nn (.t1 .nn (.t1 .i .t0))), ?_⟩
  exact rfl

set_option maxHeartbeats 4000000 in
theorem works_s  : Spec Try.prog 7 [] (fun o => o = .ret (.b true)) := by
  refine spec_of' [] rfl Try.func7 rfl (Nat.le_of_ble_eq_true rfl) fun Γ hN hds hL hR => ?_
  have hd : ∀ d, Nat.blt d 51 = true → d < Γ.N := fun d h => by rw [hN]; exact Nat.le_of_ble_eq_true h
  have hMu : Spec Try.prog 36 [.n false .u64 [6], .n false .u64 [7]] (fun o => o = .ret (.t [.n false .u64 [42], .i .i64 0])) := by
      have h := Mul_f 6 7 (by decide) (by decide) (by decide +kernel) (by decide +kernel) (by decide +kernel)
      rwa [show lm 6 = [6] by rw [← fl_lm (by decide) (by decide)]; rfl, show lm 7 = [7] by rw [← fl_lm (by decide) (by decide)]; rfl, show lm (6 * 7) = [42] by rw [← fl_lm (by decide) (by decide)]; rfl] at h
  have hSq := Sqrt_49
  have hPr : Spec Try.prog 37 [.n false .u64 [42], .i .i64 10] (fun o => o = .ret (.t [.s ⟨#[52, 50]⟩, .i .i64 0])) := by
      have h := Print_s [42] 10 (by decide) (u64s1 (by decide) (by decide)) (by decide) (by decide)
      rwa [show (txt (hdg 10 1 (vl [42]).toNat)) = ⟨#[52, 50]⟩ by decide +kernel] at h
  have hCm : Spec Try.prog 12 [.n false .u64 [7], .n false .u64 [7]] (fun o => o = .ret (.i .i64 0)) := by have h := Compare_s [7] [7] (by decide) (by decide); rwa [show cmpL (trm [7]) (trm [7]) = 0 by decide +kernel] at h
  have hSg : Spec Try.prog 38 [.a [.b true, .n false .u64 [1]]] (fun o => o = .ret (.i .i64 (-1))) := by have h := WSign_s true [1] (by decide) (u64s1 (by decide) (by decide)); rwa [show sgnI (sv true [1]) = -1 by decide +kernel] at h
  refine jc_seq ?_; refine jc_region ?_; refine jo_l (ly_as rfl) (hd 0 rfl) ?_; refine jo_nil ?_; refine jc_seq ?_; refine jc_region ?_; refine jo_h (hy_lit (id := 0) (xs := [.const (.int .u64 6)]) el28 rfl (ovL_cons rfl ovL_nil) rfl (all2_of rfl) (by decide) rfl) (hd 9 rfl) ?_; refine jo_h (hy_lit (id := 1) (xs := [.const (.int .u64 7)]) el28 rfl (ovL_cons rfl ovL_nil) rfl (all2_of rfl) (by decide) rfl) (hd 10 rfl) ?_; refine jo_frz (k := .u64) (l := [6]) (l' := [6]) 9 rfl rfl (by decide) rfl hL ?_; refine jo_frz (k := .u64) (l := [7]) (l' := [7]) 10 rfl rfl (by decide) rfl hL ?_
  refine jo_call Try.f36 (hMu) rfl Try.func36 rfl rfl (ovL_cons rfl (ovL_cons rfl ovL_nil)) (.cons .n (.cons .n .nil)) (hd 11 rfl) ?_ (fun ch hp => by simp at hp)
  rintro y hy; injection hy with hy; subst hy; refine jo_l (ly_mv rfl) (hd 8 rfl) ?_; refine jo_l (ly_ext rfl rfl) (hd 12 rfl) ?_; refine jo_l (ly_ext rfl rfl) (hd 13 rfl) ?_; refine jo_l (ly_as rfl) (hd 1 rfl) ?_; refine jo_l (ly_as rfl) (hd 2 rfl) ?_; refine jo_nil ?_; refine jc_seq ?_; refine jc_region ?_; refine jo_h (hy_lit (id := 2) (xs := [.const (.int .u64 49)]) el28 rfl (ovL_cons rfl ovL_nil) rfl (all2_of rfl) (by decide) rfl) (hd 15 rfl) ?_; refine jo_frz (k := .u64) (l := [49]) (l' := [49]) 15 rfl rfl (by decide) rfl hL ?_
  refine jo_call Try.f14 (hSq) rfl Try.func14 rfl rfl (ovL_cons rfl ovL_nil) (.cons .n .nil) (hd 16 rfl) ?_ (fun ch hp => by simp at hp)
  rintro y hy; injection hy with hy; subst hy; refine jo_l (ly_mv rfl) (hd 14 rfl) ?_; refine jo_l (ly_ext rfl rfl) (hd 17 rfl) ?_; refine jo_l (ly_ext rfl rfl) (hd 18 rfl) ?_; refine jo_l (ly_ext rfl rfl) (hd 19 rfl) ?_; refine jo_l (ly_as rfl) (hd 3 rfl) ?_; refine jo_l (ly_as rfl) (hd 4 rfl) ?_; refine jo_l (ly_as rfl) (hd 5 rfl) ?_; refine jo_nil ?_; refine jc_seq ?_; refine jc_region ?_; refine jo_l (ly_mv rfl) (hd 21 rfl) ?_
  refine jo_call Try.f37 (hPr) rfl Try.func37 rfl rfl (ovL_cons rfl (ovL_cons rfl ovL_nil)) (.cons .n (.cons .i .nil)) (hd 22 rfl) ?_ (fun ch hp => by simp at hp)
  rintro y hy; injection hy with hy; subst hy; refine jo_l (ly_mv rfl) (hd 20 rfl) ?_; refine jo_l (ly_ext rfl rfl) (hd 23 rfl) ?_; refine jo_l (ly_ext rfl rfl) (hd 24 rfl) ?_; refine jo_l (ly_as rfl) (hd 6 rfl) ?_; refine jo_l (ly_as rfl) (hd 7 rfl) ?_; refine jo_nil ?_; refine jc_seq ?_; refine jc_region ?_; refine jo_l (ly_mv rfl) (hd 25 rfl) ?_; refine jo_l (ly_tt (ly_eq rfl rfl) rfl) (hd 26 rfl) ?_; refine jo_l (ly_mv rfl) (hd 27 rfl) ?_; refine jo_g 27 rfl rfl (ly_mv rfl) (hd 28 rfl) ?_; refine jo_g 27 rfl rfl (ly_tt (ly_eq rfl rfl) rfl) (hd 29 rfl) ?_; refine jo_l (ly_pick_t rfl rfl) (hd 30 rfl) ?_; refine jo_l (ly_mv rfl) (hd 31 rfl) ?_; refine jo_g 31 rfl rfl (ly_mv rfl) (hd 32 rfl) ?_; refine jo_g 31 rfl rfl (ly_tt (ly_eq rfl rfl) rfl) (hd 33 rfl) ?_; refine jo_l (ly_pick_t rfl rfl) (hd 34 rfl) ?_; refine jo_l (ly_mv rfl) (hd 35 rfl) ?_; refine jo_g 35 rfl rfl (ly_mv rfl) (hd 36 rfl) ?_; refine jo_g 35 rfl rfl (ly_tt (ly_eqS rfl rfl) rfl) (hd 37 rfl) ?_; refine jo_l (ly_pick_t rfl rfl) (hd 38 rfl) ?_; refine jo_l (ly_mv rfl) (hd 39 rfl) ?_; refine jo_g 39 rfl rfl (ly_mv rfl) (hd 40 rfl) ?_; refine jo_hg 39 rfl rfl (hy_lit (id := 3) (xs := [.const (.int .u64 7)]) el28 rfl (ovL_cons rfl ovL_nil) rfl (all2_of rfl) (by decide) rfl) (hd 41 rfl) ?_; refine jo_frz (k := .u64) (l := [7]) (l' := [7]) 41 rfl rfl (by decide) rfl hL ?_
  refine jo_callg Try.f12 39 rfl rfl (hCm) rfl Try.func12 rfl rfl (ovL_cons rfl (ovL_cons rfl ovL_nil)) (.cons .n (.cons .n .nil)) (hd 42 rfl) ?_ (fun ch hp => by simp at hp)
  rintro y hy; injection hy with hy; subst hy; refine jo_g 39 rfl rfl (ly_tt (ly_eq rfl rfl) rfl) (hd 43 rfl) ?_; refine jo_l (ly_pick_t rfl rfl) (hd 44 rfl) ?_; refine jo_l (ly_mv rfl) (hd 45 rfl) ?_; refine jo_hg 45 rfl rfl (hy_lit (id := 4) (xs := [.const (.int .u64 1)]) el28 rfl (ovL_cons rfl ovL_nil) rfl (all2_of rfl) (by decide) rfl) (hd 46 rfl) ?_; refine jo_frz (k := .u64) (l := [1]) (l' := [1]) 46 rfl rfl (by decide) rfl hL ?_; refine jo_g 45 rfl rfl (ly_build (is := [0, 1]) (xs := [.const (.bool true), .tmp 46]) zero30 pls30_0_1 rfl (ovL_cons rfl (ovL_cons rfl ovL_nil)) rfl (by first | (simp [plsOk, cellsV]; done) | (simp [plsOk, cellsV, old]; done)) (all_of rfl) rfl) (hd 47 rfl) ?_
  refine jo_callg Try.f38 45 rfl rfl (hSg) rfl Try.func38 rfl rfl (ovL_cons rfl ovL_nil) (.cons (.a1 .b (.a1 .n .a0)) .nil) (hd 48 rfl) ?_ (fun ch hp => by simp at hp)
  rintro y hy; injection hy with hy; subst hy; refine jo_g 45 rfl rfl (ly_tt (ly_eq rfl rfl) rfl) (hd 49 rfl) ?_; refine jo_l (ly_pick_t rfl rfl) (hd 50 rfl) ?_; refine jo_l (ly_as rfl) (hd 0 rfl) ?_; refine jo_nil ?_; refine jc_ret ?_
  refine ⟨_, _, (.cons rfl .nil), .b, ?_⟩
  exact rfl
end Go.Proofs.Ytaogaegchagbfaa.Vc

/- Contracts of surdtop.small, div.Gcd, Divides. -/
namespace Go.Proofs.Ytaogaegchagbfaa.Vc
open Go Go.RowKit
set_option maxHeartbeats 4000000 in
theorem small_s (K : Nat) (rows : List (List Int)) (hr : ∀ l ∈ rows, l.length < 4294967296 ∧ u64s l) (hrl : rows.length ≤ 1000) : Spec Try.prog 6 [.i .i64 (K : Int), .l false 1 (rowsV rows)] (fun o => o = .ret (.b (smallB K rows))) := by
  refine spec_of' [(0, .i .i64 (K : Int)), (1, .l false 1 (rowsV rows))] rfl Try.func6 rfl (Nat.le_of_ble_eq_true rfl) fun Γ hN hds hL hR => ?_
  have hd : ∀ d, Nat.blt d 19 = true → d < Γ.N := fun d h => by rw [hN]; exact Nat.le_of_ble_eq_true h
  refine jc_seq ?_; refine jc_region ?_; refine jo_l (ly_as rfl) (hd 4 rfl) ?_; refine jo_nil ?_; refine jc_seq ?_; refine jc_seq ?_; refine jc_region ?_; refine jo_l (ly_mv rfl) (hd 7 rfl) ?_; refine jo_l (ly_lenl sl81 rfl) (hd 8 rfl) ?_; refine jo_l (ly_mv rfl) (hd 9 rfl) ?_; refine jo_nil ?_; refine jc_block ?_
  refine jc_loopF (G := Nat) (fun i => i ≤ rows.length ∧ ∀ j < i, lenV (vl (rows.getD j [])) ≤ K) (fun i => [(9, .i .i64 (i : Int)), (4, .u), (6, .u), (10, .u), (11, .u), (12, .u), (13, .u), (14, .u), (15, .u), (16, .u), (17, .u), (18, .u)]) (fun _ => _) (fun i => rows.length - i) 0 ?_ ?_ rfl ?_
  · exact ⟨Nat.zero_le _, fun j h => absurd h (Nat.not_lt_zero _)⟩
  · exact (.cons rfl (.u (.u (.u (.u (.u (.u (.u (.u (.u (.u (.u .nil))))))))))))
  · rintro i ⟨hi, hj⟩; refine jc_seq ?_; refine jc_region ?_; refine jo_l (ly_lt rfl rfl) (hd 10 rfl) ?_; refine jo_nil ?_; refine jc_seq ?_
    refine jc_if rfl (fun h1 => ?_) (fun h1 => ?_)
    · have hil : i < rows.length := by have h9 : (i : Int) < ((rowsV rows).length : Int) := h1; rw [rowsV_len] at h9; omega
      have hru := rows_u hr hil
      have hOf := rOf_s (rows.getD i []) (by omega) hru.2
      rw [rOf_v hru.2, digs_dg (vl_nonneg hru.2)] at hOf
      have hdl := dg_lenN (s := false) hru.2 rfl
      have hLe := Len_s (vl (rows.getD i [])) (by have h9 : sv false (rows.getD i []) = vl (rows.getD i []) := rfl; rw [← h9]; omega)
      refine jc_skip ?_; refine jc_seq ?_; refine jc_block ?_; refine jc_seq ?_; refine jc_region ?_; refine jo_l (ly_ial (i := i) (row := [.n false .u64 (rows.getD i [])]) sl81 rfl rfl (by omega) (rowsV_at hil)) (hd 11 rfl) ?_; refine jo_l (ly_ldq one25 rfl rfl) (hd 12 rfl) ?_; refine jo_l (ly_as rfl) (hd 6 rfl) ?_; refine jo_nil ?_; refine jc_seq ?_; refine jc_region ?_; refine jo_l (ly_mv rfl) (hd 13 rfl) ?_
      refine jo_call Try.f31 (hOf) rfl Try.func31 rfl rfl (ovL_cons rfl ovL_nil) (.cons .n .nil) (hd 14 rfl) ?_ (fun ch hp => by simp at hp)
      rintro y hy; injection hy with hy; subst hy
      refine jo_call Try.f20 (hLe) rfl Try.func20 rfl rfl (ovL_cons rfl ovL_nil) (.cons .n .nil) (hd 15 rfl) ?_ (fun ch hp => by simp at hp)
      rintro y hy; injection hy with hy; subst hy; refine jo_l (ly_mv rfl) (hd 16 rfl) ?_; refine jo_l (ly_gt rfl rfl) (hd 17 rfl) ?_; refine jo_nil ?_
      refine jc_if rfl (fun h2 => ?_) (fun h2 => ?_)
      · refine jc_seq ?_; refine jc_region ?_; refine jo_l (ly_as rfl) (hd 4 rfl) ?_; refine jo_nil ?_; refine jc_ret ?_
        refine ⟨_, _, (.cons rfl .nil), .b, ?_⟩
        rw [smallB_n hil (by omega)]
      · refine jc_skip ?_; refine jc_region ?_; refine jo_l (ly_add rfl rfl (r := ((i + 1 : Nat) : Int)) (by rw [wrap_i64 (by omega) (by omega)]; omega)) (hd 18 rfl) ?_; refine jo_l (ly_mv rfl) (hd 9 rfl) ?_; refine jo_nil ?_
        refine ⟨i + 1, ?_, ?_, rfl, cov_n 23 rfl rfl ?_⟩
        · exact ⟨by omega, fun j hjj => by rcases Nat.lt_or_ge j i with h9 | h9; exact hj j h9; rw [show j = i by omega]; omega⟩
        · omega
        · exact (.cons rfl (.u (.u (.u (.u (.u (.u (.u (.u (.u (.u (.u .nil))))))))))))
    · obtain rfl : i = rows.length := by have h9 : ¬ (i : Int) < ((rowsV rows).length : Int) := h1; rw [rowsV_len] at h9; omega
      refine jc_exit ?_; refine jc_seq ?_; refine jc_region ?_; refine jo_l (ly_as rfl) (hd 4 rfl) ?_; refine jo_nil ?_; refine jc_ret ?_
      refine ⟨_, _, (.cons rfl .nil), .b, ?_⟩
      rw [smallB_y hj]

end Go.Proofs.Ytaogaegchagbfaa.Vc
