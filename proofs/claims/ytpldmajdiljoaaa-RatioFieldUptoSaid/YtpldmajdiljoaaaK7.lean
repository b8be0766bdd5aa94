/- RatioField: for every three rationals of bulk at most 1048576 it returns true Texts joined: Qd, Qe, Xa, Xz, Za, Qf, Zb, Zc, Zd, Zf, Zg, Zh, Zi, Zj, Zo, Qg, Qh, Qi, Qj, Qk, Ql, Qn, Qo, Qp, Qs, Qt, Qu, Qv, Qw, Qx, Sa, Sc, Se, Sf, Sg, Sh, Si, Sk, Sm, Sn, So, Sp, Xb. -/
import Derived.Test.YtpldmajdiljoaaaK6
set_option linter.unusedVariables false
set_option linter.unusedSimpArgs false
/- Contracts of numeral.word, nat.Through. -/
namespace Go.Proofs.Ytpldmajdiljoaaa.Vc
open Go Go.RowKit
set_option maxHeartbeats 4000000 in
theorem word_s (b : Nat) (hb : 2 ≤ b) (hb2 : b ≤ 36) : Spec Try.prog 144 [.i .i64 (b : Int)] (fun o => ∃ n : Nat, o = .ret (.t [.i .u64 ((b ^ n : Nat) : Int), .i .i64 (n : Int)]) ∧ 1 ≤ n ∧ n ≤ 63 ∧ b ^ n ≤ 9223372036854775808) := by
  refine spec_of' [(0, .i .i64 (b : Int))] rfl Try.func144 rfl (Nat.le_of_ble_eq_true rfl) fun Γ hN hds hL hR => ?_
  have hd : ∀ d, Nat.blt d 19 = true → d < Γ.N := fun d h => by rw [hN]; exact Nat.le_of_ble_eq_true h
  refine jc_seq ?_; refine jc_region ?_; refine jo_l (ly_as rfl) (hd 2 rfl) ?_; refine jo_l (ly_as rfl) (hd 3 rfl) ?_; refine jo_nil ?_; refine jc_seq ?_; refine jc_region ?_; refine jo_l (ly_as rfl) (hd 4 rfl) ?_; refine jo_l (ly_as rfl) (hd 5 rfl) ?_; refine jo_nil ?_; refine jc_seq ?_; refine jc_block ?_
  refine jc_loopF (G := Nat × Nat) (fun g => g.2 = b ^ g.1 ∧ 2 ^ g.1 ≤ g.2 ∧ g.2 ≤ 9223372036854775808 ∧ g.1 ≤ 63) (fun g => [(4, .i .u64 (g.2 : Int)), (5, .i .i64 (g.1 : Int)), (6, .u), (7, .u), (8, .u), (9, .u), (10, .u), (11, .u), (12, .u), (13, .u), (14, .u), (15, .u), (16, .u)]) (fun _ => _) (fun g => 64 - g.1) (0, 1) ?_ ?_ rfl ?_
  · exact ⟨rfl, Nat.le_refl _, by decide, by decide⟩
  · exact (.cons rfl (.cons rfl (.u (.u (.u (.u (.u (.u (.u (.u (.u (.u (.u .nil)))))))))))))
  · rintro ⟨n, p⟩ ⟨hc1, hc2, hc3, hc4⟩
    dsimp only at hc1 hc2 hc3 hc4
    refine jc_seq ?_; refine jc_seq ?_; refine jc_region ?_; refine jo_l (ly_mv rfl) (hd 6 rfl) ?_; refine jo_l (ly_mv rfl) (hd 7 rfl) ?_; refine jo_l (ly_conv und3 und82 rfl (r := (b : Int)) (wrap_u64 (by omega) (by omega))) (hd 8 rfl) ?_; refine jo_l (ly_quo rfl rfl (by omega) (r := ((9223372036854775808 / b : Nat) : Int)) (by rw [show ((9223372036854775808 : Int).tdiv (b : Int)) = ((9223372036854775808 / b : Nat) : Int) from rfl]; exact wrap_u64 (Int.natCast_nonneg _) (by have := Nat.div_le_self 9223372036854775808 b; generalize 9223372036854775808 / b = q at *; omega))) (hd 9 rfl) ?_; refine jo_l (ly_le rfl rfl) (hd 10 rfl) ?_; refine jo_nil ?_
    refine jc_if rfl (fun h1 => ?_) (fun h1 => ?_)
    · obtain ⟨hs1, hs2, hs3⟩ := w_step hb hc1 hc2 (by omega : p ≤ 9223372036854775808 / b)
      refine jc_skip ?_; refine jc_block ?_; refine jc_seq ?_; refine jc_region ?_; refine jo_l (ly_mv rfl) (hd 11 rfl) ?_; refine jo_l (ly_mv rfl) (hd 12 rfl) ?_; refine jo_l (ly_conv und3 und82 rfl (r := (b : Int)) (wrap_u64 (by omega) (by omega))) (hd 13 rfl) ?_; refine jo_l (ly_mul rfl rfl (r := ((p * b : Nat) : Int)) (by dsimp only; rw [← Int.natCast_mul]; exact wrap_u64 (by omega) (by omega))) (hd 14 rfl) ?_; refine jo_l (ly_as rfl) (hd 4 rfl) ?_; refine jo_nil ?_; refine jc_region ?_; refine jo_l (ly_mv rfl) (hd 15 rfl) ?_; refine jo_l (ly_add rfl rfl (r := ((n + 1 : Nat) : Int)) (by rw [wrap_i64 (by omega) (by omega)]; omega)) (hd 16 rfl) ?_; refine jo_l (ly_as rfl) (hd 5 rfl) ?_; refine jo_nil ?_
      refine ⟨(n + 1, p * b), ?_, ?_, rfl, cov_n 26 rfl rfl ?_⟩
      · exact ⟨hs1, hs2, hs3, w63 hs2 hs3⟩
      · show 64 - (n + 1) < 64 - n
        omega
      · exact (.cons rfl (.cons rfl (.u (.u (.u (.u (.u (.u (.u (.u (.u (.u (.u .nil)))))))))))))
    · have hn1 := w_exit hb hb2 hc1 (by omega : ¬ p ≤ 9223372036854775808 / b)
      refine jc_exit ?_; refine jc_seq ?_; refine jc_region ?_; refine jo_l (ly_mv rfl) (hd 17 rfl) ?_; refine jo_l (ly_mv rfl) (hd 18 rfl) ?_; refine jo_l (ly_as rfl) (hd 2 rfl) ?_; refine jo_l (ly_as rfl) (hd 3 rfl) ?_; refine jo_nil ?_; refine jc_ret ?_
      refine ⟨_, _, (.cons rfl (.cons rfl .nil)), (.t1 .i (.t1 .i .t0)), ?_⟩
      exact ⟨n, by rw [hc1], hn1, hc4, by omega⟩

set_option maxHeartbeats 4000000 in
theorem Through_s (l : List Int) (d : Int) (hl : l.length < 1073741824) (hu : u64s l) (hd0 : 0 < d) (hd1 : d < 18446744073709551616) (hf : lenN l ≤ 67108864) : Spec Try.prog 145 [.n false .u64 l, .i .u64 d] (fun o => o = .ret (.t [.n false .u64 (lm (vl l / d)), .i .u64 (vl l % d), .i .i64 0])) := by
  refine spec_of' [(0, .n false .u64 l), (1, .i .u64 d)] rfl Try.func145 rfl (Nat.le_of_ble_eq_true rfl) fun Γ hN hds hL hR => ?_
  have hd : ∀ d, Nat.blt d 48 = true → d < Γ.N := fun d h => by rw [hN]; exact Nat.le_of_ble_eq_true h
  have hm := trm_len l
  have uT := u64s_trm hu
  have hde := dv_end (d := d) uT hd0
  rw [vl_trm] at hde
  have hv0 := vl_nonneg hu
  have hq : (vl l / d).natAbs ≤ (vl l).natAbs := by have := Int.ediv_nonneg hv0 (show 0 ≤ d by omega); have := Int.ediv_le_self d hv0; omega
  have hfq : lenV (vl l / d) ≤ 67108864 := Nat.le_trans (lenV_mono hq) (by rw [← lenN_lenV hu rfl]; exact hf)
  refine jc_seq ?_; refine jc_region ?_; refine jo_l (ly_as rfl) (hd 4 rfl) ?_; refine jo_l (ly_as rfl) (hd 5 rfl) ?_; refine jo_l (ly_as rfl) (hd 6 rfl) ?_; refine jo_nil ?_; refine jc_seq ?_; refine jc_seq ?_; refine jc_region ?_; refine jo_l (ly_mv rfl) (hd 11 rfl) ?_; refine jo_l (ly_ff (ly_eq rfl rfl) (by omega)) (hd 12 rfl) ?_; refine jo_nil ?_; refine jc_litf rfl ?_; refine jc_skip ?_; refine jc_seq ?_; refine jc_region ?_; refine jo_l (ly_mv rfl) (hd 13 rfl) ?_
  refine jo_call Try.f105 (trim_s l (by omega)) rfl Try.func105 rfl rfl (ovL_cons rfl ovL_nil) (.cons .n .nil) (hd 14 rfl) ?_ (fun ch hp => by simp at hp)
  rintro y hy; injection hy with hy; subst hy; refine jo_l (ly_as rfl) (hd 0 rfl) ?_; refine jo_nil ?_; refine jc_seq ?_; refine jc_region ?_; refine jo_l (ly_mv rfl) (hd 15 rfl) ?_; refine jo_l (ly_lenn sl28 rfl) (hd 16 rfl) ?_; refine jo_h (hy_mk (m := (trm l).length) el28 rfl rfl rfl (by show 8 * (trm l).length ≤ _; omega) (by unfold maxLen; omega) rfl) (hd 17 rfl) ?_; refine jo_l (ly_as rfl) (hd 7 rfl) ?_; refine jo_nil ?_; refine jc_seq ?_; refine jc_region ?_; refine jo_l (ly_as rfl) (hd 8 rfl) ?_; refine jo_nil ?_; refine jc_seq ?_; refine jc_seq ?_; refine jc_region ?_; refine jo_l (ly_mv rfl) (hd 18 rfl) ?_; refine jo_l (ly_lenn sl28 rfl) (hd 19 rfl) ?_; refine jo_l (ly_sub rfl rfl (wrap_i64 (by omega) (by omega))) (hd 20 rfl) ?_; refine jo_l (ly_as rfl) (hd 9 rfl) ?_; refine jo_nil ?_; refine jc_block ?_; refine jc_H (H' := [⟨67, 1, 0, true, ints .u64 (List.replicate (trm l).length 0 ++ (dvN (trm l) d ((trm l).length - (trm l).length)).1)⟩]) (by rw [Nat.sub_self]; show _ = [(⟨67, 1, 0, true, ints .u64 (List.replicate (trm l).length 0 ++ [])⟩ : Ob)]; rw [List.append_nil]; rfl) ?_
  refine jc_loopF (G := Nat) (fun k => k ≤ (trm l).length) (fun k => [(8, .i .u64 (dvN (trm l) d ((trm l).length - k)).2), (9, .i .i64 ((k : Int) - 1)), (21, .u), (22, .u), (23, .u), (24, .u), (25, .u), (26, .u), (27, .u), (28, .u), (29, .u), (30, .u), (31, .u), (32, .u), (33, .u), (34, .u), (35, .u), (36, .u), (37, .u)]) (fun k => [⟨67, 1, 0, true, ints .u64 (List.replicate k 0 ++ (dvN (trm l) d ((trm l).length - k)).1)⟩]) (fun k => k) (trm l).length ?_ ?_ rfl ?_
  · exact Nat.le_refl _
  · exact (.cons (by show some (V.i .u64 0) = some (V.i .u64 (dvN (trm l) d ((trm l).length - (trm l).length)).2); rw [Nat.sub_self]; rfl) (.cons rfl (.u (.u (.u (.u (.u (.u (.u (.u (.u (.u (.u (.u (.u (.u (.u (.u (.u .nil)))))))))))))))))))
  · rintro k hc1
    have hr := dvN_r (a := trm l) hd0 ((trm l).length - k)
    have hx := u64s_getD uT (k - 1)
    refine jc_seq ?_; refine jc_seq ?_; refine jc_region ?_; refine jo_l (ly_mv rfl) (hd 21 rfl) ?_; refine jo_l (ly_ge rfl rfl) (hd 22 rfl) ?_; refine jo_nil ?_
    refine jc_if rfl (fun h2 => ?_) (fun h2 => ?_)
    · refine jc_skip ?_; refine jc_seq ?_; refine jc_block ?_; refine jc_region ?_; refine jo_l (ly_mv rfl) (hd 26 rfl) ?_; refine jo_l (ly_mv rfl) (hd 27 rfl) ?_; refine jo_l (ly_mv rfl) (hd 28 rfl) ?_; refine jo_l (ly_mv rfl) (hd 29 rfl) ?_; refine jo_l (ly_mv rfl) (hd 30 rfl) ?_; refine jo_l (ly_ian (i := k - 1) sl28 rfl rfl (by omega) (by omega)) (hd 31 rfl) ?_; refine jo_l (ly_ldq one82 rfl rfl) (hd 32 rfl) ?_; refine jo_l (ly_mv rfl) (hd 33 rfl) ?_
      refine jo_call Try.f122 (Div64_s (dvN (trm l) d ((trm l).length - k)).2 ((trm l).getD (k - 1) 0) d hr.1 hr.2 hx.1 hx.2 hd1) rfl Try.func122 rfl rfl (ovL_cons rfl (ovL_cons rfl (ovL_cons rfl ovL_nil))) (.cons .i (.cons .i (.cons .i .nil))) (hd 34 rfl) ?_ (fun ch hp => by simp at hp)
      rintro y hy; injection hy with hy; subst hy; refine jo_l (ly_mv rfl) (hd 25 rfl) ?_; refine jo_l (ly_ext rfl rfl) (hd 35 rfl) ?_; refine jo_l (ly_ext rfl rfl) (hd 36 rfl) ?_; refine jo_l (ly_ia (i := k - 1) sl28 rfl rfl rfl (by omega) (by omega) rfl) (hd 37 rfl) ?_; refine jo_st (sy_storei rfl rfl rfl one82 (by simp only [List.length_append, List.length_replicate, dvN_len]; omega)) ?_; refine jo_l (ly_as rfl) (hd 8 rfl) ?_; refine jo_nil ?_; refine jc_region ?_; refine jo_l (ly_mv rfl) (hd 23 rfl) ?_; refine jo_l (ly_sub rfl rfl (wrap_i64 (by omega) (by omega))) (hd 24 rfl) ?_; refine jo_l (ly_as rfl) (hd 9 rfl) ?_; refine jo_nil ?_
      refine ⟨k - 1, ?_, ?_, (by show [(⟨67, 1, 0, true, ints .u64 _⟩ : Ob)] = [⟨67, 1, 0, true, ints .u64 _⟩]; rw [dv_row (by omega), dv_step (by omega) hc1]), cov_n 38 rfl rfl ?_⟩
      · omega
      · omega
      · exact (.cons (by show some (V.i .u64 _) = some (V.i .u64 _); rw [dv_step (by omega) hc1]) (.cons (by show some (V.i .i64 _) = some (V.i .i64 _); congr 2; omega) (.u (.u (.u (.u (.u (.u (.u (.u (.u (.u (.u (.u (.u (.u (.u (.u (.u .nil)))))))))))))))))))
    · obtain rfl : k = 0 := by omega
      refine jc_exit ?_; refine jc_seq ?_; refine jc_frz (k := .u64) (l := List.replicate 0 0 ++ (dvN (trm l) d ((trm l).length - 0)).1) (l' := (dvN (trm l) d (trm l).length).1) 7 rfl rfl (by simp [dvN_len]) (by rw [Nat.sub_zero, List.drop_zero]; show List.take _ (dvN (trm l) d (trm l).length).1 = _; rw [List.take_of_length_le (by rw [dvN_len]; exact Nat.le_refl _)]) hL ?_; refine jc_region ?_; refine jo_l (ly_mv rfl) (hd 39 rfl) ?_
      refine jo_call Try.f129 (told_ok (dvN (trm l) d (trm l).length).1 (by rw [dvN_len]; omega) (dvN_u uT hd0 _) (by rw [hde.1, lenN_lm]; exact hfq)) rfl Try.func129 rfl rfl (ovL_cons rfl ovL_nil) (.cons .n .nil) (hd 40 rfl) ?_ (fun ch hp => by simp at hp)
      rintro y hy; injection hy with hy; subst hy; refine jo_l (ly_mv rfl) (hd 38 rfl) ?_; refine jo_l (ly_ext rfl rfl) (hd 41 rfl) ?_; refine jo_l (ly_ext rfl rfl) (hd 42 rfl) ?_; refine jo_l (ly_as rfl) (hd 7 rfl) ?_; refine jo_l (ly_as rfl) (hd 10 rfl) ?_; refine jo_nil ?_; refine jc_seq ?_; refine jc_seq ?_; refine jc_region ?_; refine jo_l (ly_mv rfl) (hd 43 rfl) ?_; refine jo_l (ly_ff (ly_ne rfl rfl) (by decide)) (hd 44 rfl) ?_; refine jo_nil ?_; refine jc_litf rfl ?_; refine jc_skip ?_; refine jc_seq ?_; refine jc_region ?_; refine jo_l (ly_mv rfl) (hd 46 rfl) ?_; refine jo_l (ly_mv rfl) (hd 47 rfl) ?_; refine jo_l (ly_as rfl) (hd 4 rfl) ?_; refine jo_l (ly_as rfl) (hd 5 rfl) ?_; refine jo_l (ly_as rfl) (hd 6 rfl) ?_; refine jo_nil ?_; refine jc_ret ?_
      refine ⟨_, _, (.cons rfl (.cons rfl (.cons rfl .nil))), (.t1 .nn (.t1 .i (.t1 .i .t0))), ?_⟩
      rw [Nat.sub_zero, hde.1, hde.2]
end Go.Proofs.Ytpldmajdiljoaaa.Vc

/- Contract of numeral.digits. -/
namespace Go.Proofs.Ytpldmajdiljoaaa.Vc
open Go Go.RowKit
set_option maxHeartbeats 4000000 in
theorem digits_n (l : List Int) (b m : Nat) (hl : l.length ≤ 1048576) (hu : u64s l) (hb : 2 ≤ b) (hb2 : b ≤ 36) (hm : m ≤ 1099511627776) : SpecM Try.prog 141 [.n false .u64 l, .i .i64 (b : Int), .i .i64 (m : Int)] [] (fun o G => o = .ret (.o 0 0 0 (hdg b m (vl l).toNat).length) ∧ G = [⟨3, 1, 0, true, ints .i64 (hdg b m (vl l).toNat)⟩]) := by
  refine specS_of [(0, .n false .u64 l), (1, .i .i64 (b : Int)), (2, .i .i64 (m : Int))] rfl Try.func141 rfl (Nat.le_of_ble_eq_true rfl) fun Γ hN hds hL hR => ?_
  have hd : ∀ d, Nat.blt d 102 = true → d < Γ.N := fun d h => by rw [hN]; exact Nat.le_of_ble_eq_true h
  have hlenl := lenN_le l
  have hv0 := vl_nonneg hu
  refine jc_seq ?_; refine jc_region ?_; refine jo_l (ly_as rfl) (hd 6 rfl) ?_; refine jo_nil ?_; refine jc_seq ?_; refine jc_region ?_; refine jo_l (ly_as rfl) (hd 7 rfl) ?_; refine jo_nil ?_; refine jc_seq ?_; refine jc_own0 (id := 0) 7 3 1 rfl rfl ?_; refine jc_region ?_; refine jo_l (ly_mv rfl) (hd 17 rfl) ?_
  refine jo_call Try.f144 (word_s b hb hb2) rfl Try.func144 rfl rfl (ovL_cons rfl ovL_nil) (.cons .i .nil) (hd 18 rfl) ?_ (fun ch hp => by simp at hp)
  rintro y ⟨n, hy, hn1, hn2, hn3⟩; injection hy with hy; subst hy; refine jo_l (ly_mv rfl) (hd 16 rfl) ?_; refine jo_l (ly_ext rfl rfl) (hd 19 rfl) ?_; refine jo_l (ly_ext rfl rfl) (hd 20 rfl) ?_; refine jo_l (ly_as rfl) (hd 8 rfl) ?_; refine jo_l (ly_as rfl) (hd 9 rfl) ?_; refine jo_nil ?_; refine jc_seq ?_; refine jc_block ?_
  refine jc_loopD (G := List Int × Nat × List Int × List Int) 1 (fun g => u64s g.1 ∧ g.1.length ≤ 1048576 ∧ rng b g.2.2.1 ∧ vb b g.2.2.1 + (b : Int) ^ g.2.2.1.length * vl g.1 = vl l ∧ g.2.2.1.length ≤ 67108928 ∧ g.2.2.1.length ≤ g.2.2.2.length ∧ g.2.2.2.take g.2.2.1.length = g.2.2.1) (fun g => [(0, .n false .u64 g.1), (7, .o 0 g.2.1 0 g.2.2.1.length), (10, .u), (11, .u), (12, .u), (21, .u), (22, .u), (23, .u), (24, .u), (25, .u), (26, .u), (27, .u), (28, .u), (29, .u), (30, .u), (31, .u), (32, .u), (33, .u), (34, .u), (35, .u), (36, .u), (37, .u), (38, .u), (39, .u), (40, .u), (41, .u), (42, .u), (43, .u), (44, .u), (45, .u), (46, .u), (47, .u), (48, .u), (49, .u), (50, .u), (51, .u), (52, .u), (53, .u), (54, .u), (55, .u), (56, .u), (57, .u)]) (fun g => [⟨3, 1, g.2.1, true, ints .i64 g.2.2.2⟩]) (fun g => (vl g.1).toNat) (l, 0, [], []) ?_ ?_ rfl hR rfl (fun _ _ => rfl) (fun g _ => .cons ints_id .nil) ?_
  · exact ⟨hu, hl, (fun x hx => by simp at hx), by simp [vb], Nat.zero_le _, Nat.le_refl _, rfl⟩
  · exact (.cons rfl (.cons rfl (.u (.u (.u (.u (.u (.u (.u (.u (.u (.u (.u (.u (.u (.u (.u (.u (.u (.u (.u (.u (.u (.u (.u (.u (.u (.u (.u (.u (.u (.u (.u (.u (.u (.u (.u (.u (.u (.u (.u (.u .nil))))))))))))))))))))))))))))))))))))))))))
  · rintro ⟨A, ver, acc, C⟩ ⟨uA, hA, hr, hI, hal, hC1, hC2⟩
    dsimp only at uA hA hr hI hal hC1 hC2
    have hlA := lenN_le A
    have hvA := vl_nonneg uA
    refine jc_seq ?_; refine jc_seq ?_; refine jc_region ?_; refine jo_l (ly_mv rfl) (hd 21 rfl) ?_
    refine jo_call Try.f66 (Length_s A (by omega) uA) rfl Try.func66 rfl rfl (ovL_cons rfl ovL_nil) (.cons .n .nil) (hd 22 rfl) ?_ (fun ch hp => by simp at hp)
    rintro y hy; injection hy with hy; subst hy; refine jo_l (ly_gt rfl rfl) (hd 23 rfl) ?_; refine jo_nil ?_
    refine jc_if rfl (fun h1 => ?_) (fun h1 => ?_)
    · have hvp : 0 < vl A := by
        rcases Int.lt_or_le 0 (vl A) with h | h
        · exact h
        · have h2 := (lenN_zero uA).2 (by omega)
          omega
      have hcap := dg_cap (L := 1048576) hb hr hvp hu hl hI
      have hbn : (0 : Int) < ((b ^ n : Nat) : Int) := by exact_mod_cast Nat.pow_pos (by omega)
      have hbn2 : ((b ^ n : Nat) : Int) ≤ 9223372036854775808 := by omega
      have hq0 : 0 ≤ vl A / ((b ^ n : Nat) : Int) := Int.ediv_nonneg hvA (by omega)
      have hrl : vl A % ((b ^ n : Nat) : Int) < 18446744073709551616 := by have := Int.emod_lt_of_pos (vl A) hbn; omega
      have hfA : lenV (vl A) ≤ 67108864 := by rw [← lenN_lenV uA rfl]; omega
      have hlq : (lm (vl A / ((b ^ n : Nat) : Int))).length ≤ 1048576 := lenV_lm (Nat.le_trans (lenV_mono (w := vl A) (by have := Int.ediv_le_self ((b ^ n : Nat) : Int) hvA; omega)) hfA)
      refine jc_skip ?_; refine jc_block ?_; refine jc_seq ?_; refine jc_region ?_; refine jo_l (ly_mv rfl) (hd 25 rfl) ?_; refine jo_l (ly_mv rfl) (hd 26 rfl) ?_
      refine jo_call Try.f145 (Through_s A ((b ^ n : Nat) : Int) (by omega) uA hbn (by omega) (by omega)) rfl Try.func145 rfl rfl (ovL_cons rfl (ovL_cons rfl ovL_nil)) (.cons .n (.cons .i .nil)) (hd 27 rfl) ?_ (fun ch hp => by simp at hp)
      rintro y hy; injection hy with hy; subst hy; refine jo_l (ly_mv rfl) (hd 24 rfl) ?_; refine jo_l (ly_ext rfl rfl) (hd 28 rfl) ?_; refine jo_l (ly_ext rfl rfl) (hd 29 rfl) ?_; refine jo_l (ly_ext rfl rfl) (hd 30 rfl) ?_; refine jo_l (ly_as rfl) (hd 10 rfl) ?_; refine jo_l (ly_as rfl) (hd 11 rfl) ?_; refine jo_l (ly_as rfl) (hd 12 rfl) ?_; refine jo_nil ?_; refine jc_seq ?_; refine jc_seq ?_; refine jc_region ?_; refine jo_l (ly_mv rfl) (hd 31 rfl) ?_; refine jo_l (ly_ff (ly_ne rfl rfl) (by decide)) (hd 32 rfl) ?_; refine jo_nil ?_; refine jc_litf rfl ?_; refine jc_skip ?_; refine jc_seq ?_; refine jc_seq ?_; refine jc_region ?_; refine jo_l (ly_mv rfl) (hd 41 rfl) ?_; refine jo_l (ly_mv rfl) (hd 42 rfl) ?_; refine jo_nil ?_; refine jc_block ?_
      refine jc_loopD (G := Nat × Nat × List Int × List Int × Int) 1 (fun g => g.1 ≤ n ∧ rng b g.2.2.1 ∧ g.2.2.1.length = acc.length + g.1 ∧ vb b g.2.2.1 + (b : Int) ^ g.2.2.1.length * g.2.2.2.2 = vb b acc + (b : Int) ^ acc.length * (vl A % ((b ^ n : Nat) : Int)) ∧ 0 ≤ g.2.2.2.2 ∧ g.2.2.2.2 < (b : Int) ^ (n - g.1) ∧ g.2.2.1.length ≤ g.2.2.2.1.length ∧ g.2.2.2.1.take g.2.2.1.length = g.2.2.1 ∧ g.2.2.2.2 < 18446744073709551616) (fun g => [(7, .o 0 g.2.1 0 g.2.2.1.length), (11, .i .u64 g.2.2.2.2), (42, .i .i64 (g.1 : Int)), (43, .u), (44, .u), (45, .u), (46, .u), (47, .u), (48, .u), (49, .u), (50, .u), (51, .u), (52, .u), (53, .u), (54, .u), (55, .u), (56, .u)]) (fun g => [⟨3, 1, g.2.1, true, ints .i64 g.2.2.2.1⟩]) (fun g => n - g.1) (0, ver, acc, C, vl A % ((b ^ n : Nat) : Int)) ?_ ?_ rfl hR rfl (fun _ _ => rfl) (fun g _ => .cons ints_id .nil) ?_
      · exact ⟨Nat.zero_le _, hr, rfl, rfl, (dg_rlt hb).1, (dg_rlt hb).2, hC1, hC2, hrl⟩
      · exact (.cons rfl (.cons rfl (.cons rfl (.u (.u (.u (.u (.u (.u (.u (.u (.u (.u (.u (.u (.u (.u .nil)))))))))))))))))
      · rintro ⟨i, ver2, acc2, C2, r⟩ ⟨hi, hr2, hal2, hI2, h0, h1r, hD1, hD2, hr64⟩
        dsimp only at hi hr2 hal2 hI2 h0 h1r hD1 hD2 hr64
        refine jc_seq ?_; refine jc_region ?_; refine jo_l (ly_lt rfl rfl) (hd 43 rfl) ?_; refine jo_nil ?_; refine jc_seq ?_
        refine jc_if rfl (fun h3 => ?_) (fun h3 => ?_)
        · have hilt : i < n := by omega
          refine jc_skip ?_; refine jc_seq ?_; refine jc_block ?_; refine jc_seq ?_; refine jc_region ?_; refine jo_l (ly_mv rfl) (hd 44 rfl) ?_; refine jo_l (ly_mv rfl) (hd 45 rfl) ?_; refine jo_l (ly_mv rfl) (hd 46 rfl) ?_; refine jo_l (ly_conv und3 und82 rfl (r := (b : Int)) (wrap_u64 (by omega) (by omega))) (hd 47 rfl) ?_; refine jo_l (ly_is (ly_rem rfl rfl (by omega) rfl) (show V.i .u64 _ = V.i .u64 (r % (b : Int)) from congrArg (V.i .u64) (Int.tmod_eq_emod_of_nonneg h0))) (hd 48 rfl) ?_; refine jo_l (ly_conv und82 und3 rfl (r := r % (b : Int)) (wrap_i64 (by have := Int.emod_nonneg r (show (b : Int) ≠ 0 by omega); omega) (by have := Int.emod_lt_of_pos r (show (0 : Int) < b by omega); omega))) (hd 49 rfl) ?_; refine jo_h (hy_lit (id := 1) (xs := [.tmp 49]) el1140 rfl (ovL_cons rfl ovL_nil) rfl (all2_of rfl) (by decide) rfl) (hd 50 rfl) ?_
          refine jo_appI (C := C2) (v := (r % (b : Int))) el1140 rfl rfl hD1 rfl (src_o (cs := ints .i64 [(r % (b : Int))]) rfl rfl rfl) (by show (_ + 1) * 8 ≤ _; first | omega | (dsimp only; omega)) (by show _ + 1 ≤ 9223372036854775807; first | omega | (dsimp only; omega)) (hd 51 rfl) (fun ver' C' hE1 hE2 => ?_)
          refine jo_l (ly_as rfl) (hd 7 rfl) ?_; refine jo_nil ?_; refine jc_region ?_; refine jo_l (ly_mv rfl) (hd 52 rfl) ?_; refine jo_l (ly_mv rfl) (hd 53 rfl) ?_; refine jo_l (ly_conv und3 und82 rfl (r := (b : Int)) (wrap_u64 (by omega) (by omega))) (hd 54 rfl) ?_; refine jo_l (ly_quo rfl rfl (by omega) (r := r / (b : Int)) (by rw [Int.tdiv_eq_ediv_of_nonneg h0]; exact wrap_u64 (Int.ediv_nonneg h0 (by omega)) (by have := Int.ediv_le_self (b : Int) h0; omega))) (hd 55 rfl) ?_; refine jo_l (ly_as rfl) (hd 11 rfl) ?_; refine jo_nil ?_; refine jc_region ?_; refine jo_l (ly_add rfl rfl (r := ((i + 1 : Nat) : Int)) (by rw [wrap_i64 (by omega) (by omega)]; omega)) (hd 56 rfl) ?_; refine jo_l (ly_mv rfl) (hd 42 rfl) ?_; refine jo_nil ?_
          refine ⟨(i + 1, ver', acc2 ++ [r % (b : Int)], C', r / (b : Int)), ?_, ?_, rfl, cov_n 34 rfl rfl ?_⟩
          · exact ⟨by omega, rng_app hr2 (rng_one (Int.emod_nonneg _ (by omega)) (Int.emod_lt_of_pos _ (by omega))), by simp only [List.length_append, List.length_singleton]; omega, by simp only [List.length_append, List.length_singleton]; rw [dg_in]; exact hI2, (dgr_lt hb hilt h0 h1r).1, (dgr_lt hb hilt h0 h1r).2, by simp only [List.length_append, List.length_singleton]; exact hE1, by simp only [List.length_append, List.length_singleton]; rw [hE2, hD2], by have := Int.ediv_le_self (b : Int) h0; dsimp only; omega⟩
          · show n - (i + 1) < n - i
            omega
          · exact (.cons (by show some _ = some _; rw [List.length_append]; rfl) (.cons rfl (.cons rfl (.u (.u (.u (.u (.u (.u (.u (.u (.u (.u (.u (.u (.u (.u .nil)))))))))))))))))
        · obtain rfl : n = i := by omega
          have hr0 := dg_zero h0 h1r
          refine jc_exit ?_; refine jc_region ?_; refine jo_l (ly_mv rfl) (hd 57 rfl) ?_; refine jo_l (ly_as rfl) (hd 0 rfl) ?_; refine jo_nil ?_
          refine ⟨(lm (vl A / ((b ^ n : Nat) : Int)), ver2, acc2, C2), ?_, ?_, rfl, cov_n 79 rfl rfl ?_⟩
          · exact ⟨lm_u _, hlq, hr2, by dsimp only; rw [vl_lm hq0, dg_out hal2 hI2 hr0, hI], by dsimp only; omega, hD1, hD2⟩
          · show (vl (lm _)).toNat < (vl A).toNat
            rw [vl_lm hq0]
            exact dg_less hvp hb hn1
          · exact (.cons rfl (.cons rfl (.u (.u (.u (.u (.u (.u (.u (.u (.u (.u (.u (.u (.u (.u (.u (.u (.u (.u (.u (.u (.u (.u (.u (.u (.u (.u (.u (.u (.u (.u (.u (.u (.u (.u (.u (.u (.u (.u (.u (.u .nil))))))))))))))))))))))))))))))))))))))))))
    · have hv00 : vl A = 0 := (lenN_zero uA).1 (by omega)
      have hvacc : vb b acc = vl l := by rw [hv00, Int.mul_zero, Int.add_zero] at hI; exact hI
      refine jc_exit ?_
      refine jc_meetH (G := Nat) (fun k => k ≤ acc.length ∧ acc.take k = (digs b (vl l).toNat)) (fun k => [(7, .o 0 ver 0 k), (58, .u), (59, .u), (60, .u), (61, .u), (62, .u), (63, .u), (64, .u), (65, .u), (66, .u), (67, .u), (68, .u), (69, .u), (70, .u), (71, .u), (72, .u), (73, .u), (74, .u)]) ?_ ?_
      · refine jc_block ?_
        refine jc_loopF (G := Nat) (fun k => k ≤ acc.length ∧ vb b (acc.take k) = vb b acc) (fun k => [(7, .o 0 ver 0 k), (58, .u), (59, .u), (60, .u), (61, .u), (62, .u), (63, .u), (64, .u), (65, .u), (66, .u), (67, .u), (68, .u), (69, .u), (70, .u), (71, .u), (72, .u), (73, .u), (74, .u)]) (fun _ => _) (fun k => k) acc.length ?_ ?_ rfl ?_
        · exact ⟨Nat.le_refl _, by rw [List.take_length]⟩
        · exact (.cons rfl (.u (.u (.u (.u (.u (.u (.u (.u (.u (.u (.u (.u (.u (.u (.u (.u (.u .nil))))))))))))))))))
        · rintro k ⟨hk, hkv⟩; refine jc_seq ?_; refine jc_seq ?_; refine jc_region ?_; refine jo_l (ly_mv rfl) (hd 58 rfl) ?_; refine jo_l (ly_leno sl1140 rfl rfl) (hd 59 rfl) ?_; refine jo_l (ly_gt rfl rfl) (hd 60 rfl) ?_; refine jo_l (ly_mv rfl) (hd 61 rfl) ?_
          refine jo_ifp 61 rfl (fun h4 => ?_) (fun h4 => ?_)
          · refine jo_g 61 rfl rfl (ly_mv rfl) (hd 62 rfl) ?_; refine jo_g 61 rfl rfl (ly_mv rfl) (hd 63 rfl) ?_; refine jo_g 61 rfl rfl (ly_leno sl1140 rfl rfl) (hd 64 rfl) ?_; refine jo_g 61 rfl rfl (ly_sub rfl rfl (wrap_i64 (by omega) (by omega))) (hd 65 rfl) ?_; refine jo_g 61 rfl rfl (ly_ia (i := k - 1) sl1140 rfl rfl rfl (by omega) (by omega) rfl) (hd 66 rfl) ?_; refine jo_g 61 rfl rfl (ly_is (ly_ldi one3 rfl rfl (by first | omega | (dsimp only; omega))) (show V.i .i64 _ = V.i .i64 (acc.getD (k - 1) 0) by rw [getT hC2 (by omega)])) (hd 67 rfl) ?_; refine jo_g 61 rfl rfl (ly_eq rfl rfl) (hd 68 rfl) ?_; refine jo_l (ly_pick_t rfl rfl) (hd 69 rfl) ?_; refine jo_nil ?_
            refine jc_if rfl (fun h5 => ?_) (fun h5 => ?_)
            · have hz0 := h5
              refine jc_skip ?_; refine jc_block ?_; refine jc_region ?_; refine jo_l (ly_mv rfl) (hd 70 rfl) ?_; refine jo_l (ly_mv rfl) (hd 71 rfl) ?_; refine jo_l (ly_leno sl1140 rfl rfl) (hd 72 rfl) ?_; refine jo_l (ly_sub rfl rfl (wrap_i64 (by omega) (by omega))) (hd 73 rfl) ?_; refine jo_l (ly_slo (l := 0) (h := k - 1) (r := 0) (n := k - 1) sl1140 rfl rfl bnd_none (bnd_some' rfl (by omega)) (by omega) (by omega) rfl (by omega)) (hd 74 rfl) ?_; refine jo_l (ly_as rfl) (hd 7 rfl) ?_; refine jo_nil ?_
              refine ⟨k - 1, ?_, ?_, rfl, cov_n 37 rfl rfl ?_⟩
              · exact ⟨by omega, by rw [cut_step (by omega) hk hz0]; exact hkv⟩
              · omega
              · exact (.cons rfl (.u (.u (.u (.u (.u (.u (.u (.u (.u (.u (.u (.u (.u (.u (.u (.u (.u .nil))))))))))))))))))
            · refine jc_exit ?_
              refine ⟨k, ?_, rfl, cov_n 31 rfl rfl ?_⟩
              · exact ⟨hk, cut_digs hb hk hr (by rw [hkv, hvacc]; exact (Int.toNat_of_nonneg hv0).symm) (by first | (left; omega) | (right; assumption))⟩
              · exact (.cons rfl (.u (.u (.u (.u (.u (.u (.u (.u (.u (.u (.u (.u (.u (.u (.u (.u (.u .nil))))))))))))))))))
          · refine jo_s 61 rfl rfl rfl (hd 62 rfl) ?_; refine jo_s 61 rfl rfl rfl (hd 63 rfl) ?_; refine jo_s 61 rfl rfl rfl (hd 64 rfl) ?_; refine jo_s 61 rfl rfl rfl (hd 65 rfl) ?_; refine jo_s 61 rfl rfl rfl (hd 66 rfl) ?_; refine jo_s 61 rfl rfl rfl (hd 67 rfl) ?_; refine jo_s 61 rfl rfl rfl (hd 68 rfl) ?_; refine jo_l (ly_pick_f rfl rfl) (hd 69 rfl) ?_; refine jo_nil ?_; refine jc_litf rfl ?_; refine jc_exit ?_
            refine ⟨k, ?_, rfl, cov_n 31 rfl rfl ?_⟩
            · exact ⟨hk, cut_digs hb hk hr (by rw [hkv, hvacc]; exact (Int.toNat_of_nonneg hv0).symm) (by first | (left; omega) | (right; assumption))⟩
            · exact (.cons rfl (.u (.u (.u (.u (.u (.u (.u (.u (.u (.u (.u (.u (.u (.u (.u (.u (.u .nil))))))))))))))))))
      · rintro k ⟨hk, hdk⟩
        have hdl : (digs b (vl l).toNat).length = k := by rw [← hdk, List.length_take]; omega
        have hck : C.take k = (digs b (vl l).toNat) := by rw [takeT hC2 hk, hdk]
        refine jc_seq ?_; refine jc_block ?_
        refine jc_loopD (G := Nat × List Int × Nat) 1 (fun g => (digs b (vl l).toNat).length ≤ g.2.2 ∧ g.2.2 ≤ max m (digs b (vl l).toNat).length ∧ g.2.2 ≤ g.2.1.length ∧ g.2.1.take g.2.2 = (digs b (vl l).toNat) ++ List.replicate (g.2.2 - (digs b (vl l).toNat).length) 0) (fun g => [(7, .o 0 g.1 0 g.2.2), (75, .u), (76, .u), (77, .u), (78, .u), (79, .u), (80, .u), (81, .u)]) (fun g => [⟨3, 1, g.1, true, ints .i64 g.2.1⟩]) (fun g => m - g.2.2) (ver, C, k) ?_ ?_ rfl hR rfl (fun _ _ => rfl) (fun g _ => .cons ints_id .nil) ?_
        · exact ⟨by rw [hdl]; exact Nat.le_refl _, by dsimp only; omega, by dsimp only; omega, by dsimp only; rw [hck, hdl, Nat.sub_self]; simp⟩
        · exact (.cons rfl (.u (.u (.u (.u (.u (.u (.u .nil))))))))
        · rintro ⟨ver3, C3, k3⟩ ⟨hp1, hp2, hp3, hp4⟩
          dsimp only at hp1 hp2 hp3 hp4
          refine jc_seq ?_; refine jc_seq ?_; refine jc_region ?_; refine jo_l (ly_mv rfl) (hd 75 rfl) ?_; refine jo_l (ly_leno sl1140 rfl rfl) (hd 76 rfl) ?_; refine jo_l (ly_mv rfl) (hd 77 rfl) ?_; refine jo_l (ly_lt rfl rfl) (hd 78 rfl) ?_; refine jo_nil ?_
          refine jc_if rfl (fun h7 => ?_) (fun h7 => ?_)
          · dsimp only at h7
            refine jc_skip ?_; refine jc_block ?_; refine jc_region ?_; refine jo_l (ly_mv rfl) (hd 79 rfl) ?_; refine jo_h (hy_lit (id := 1) (xs := [.const (.int .i64 0)]) el1140 rfl (ovL_cons rfl ovL_nil) rfl (all2_of rfl) (by decide) rfl) (hd 80 rfl) ?_
            refine jo_appI (C := C3) (v := 0) el1140 rfl rfl hp3 rfl (src_o (cs := ints .i64 [0]) rfl rfl rfl) (by show (_ + 1) * 8 ≤ _; first | omega | (dsimp only; omega)) (by show _ + 1 ≤ 9223372036854775807; first | omega | (dsimp only; omega)) (hd 81 rfl) (fun ver' C' hE1 hE2 => ?_)
            refine jo_l (ly_as rfl) (hd 7 rfl) ?_; refine jo_nil ?_
            refine ⟨(ver', C', k3 + 1), ?_, ?_, rfl, cov_n 16 rfl rfl ?_⟩
            · exact ⟨by dsimp only; omega, by dsimp only; omega, hE1, pad_step hp1 hp4 hE2⟩
            · show m - (k3 + 1) < m - k3
              omega
            · exact (.cons rfl (.u (.u (.u (.u (.u (.u (.u .nil))))))))
          · dsimp only at h7 ⊢
            have hB : (C3.take k3).length = k3 := by rw [List.length_take]; omega
            have hpd := pad_end hp4 hp1 (by omega) hp2
            refine jc_exit ?_; refine jc_seq ?_; refine jc_region ?_; refine jo_l (ly_mv rfl) (hd 82 rfl) ?_; refine jo_l (ly_leno sl1140 rfl rfl) (hd 83 rfl) ?_; refine jo_h (hy_mk (m := k3) el1140 rfl rfl rfl (by show 8 * k3 ≤ _; omega) (by unfold maxLen; omega) rfl) (hd 84 rfl) ?_; refine jo_l (ly_as rfl) (hd 13 rfl) ?_; refine jo_nil ?_; refine jc_seq ?_; refine jc_seq ?_; refine jc_region ?_; refine jo_l (ly_mv rfl) (hd 85 rfl) ?_; refine jo_l (ly_leno sl1140 rfl rfl) (hd 86 rfl) ?_; refine jo_l (ly_mv rfl) (hd 87 rfl) ?_; refine jo_nil ?_; refine jc_block ?_; refine jc_H (H' := [⟨3, 1, ver3, true, ints .i64 C3⟩, ⟨3, 1, 0, true, ints .i64 (revI (C3.take k3) 0)⟩]) (by rw [revI_0, hB]; rfl) ?_
            refine jc_loopF (G := Nat) (fun i => i ≤ k3) (fun i => [(87, .i .i64 (i : Int)), (14, .u), (15, .u), (88, .u), (89, .u), (90, .u), (91, .u), (92, .u), (93, .u), (94, .u), (95, .u), (96, .u), (97, .u), (98, .u), (99, .u), (100, .u)]) (fun i => [⟨3, 1, ver3, true, ints .i64 C3⟩, ⟨3, 1, 0, true, ints .i64 (revI (C3.take k3) i)⟩]) (fun i => k3 - i) 0 ?_ ?_ rfl ?_
            · exact Nat.zero_le _
            · exact (.cons rfl (.u (.u (.u (.u (.u (.u (.u (.u (.u (.u (.u (.u (.u (.u (.u .nil))))))))))))))))
            · rintro i hi9
              have hrl9 := revI_len (B := (C3.take k3)) (i := i) (by rw [hB]; exact hi9)
              refine jc_seq ?_; refine jc_region ?_; refine jo_l (ly_lt rfl rfl) (hd 88 rfl) ?_; refine jo_nil ?_; refine jc_seq ?_
              refine jc_if rfl (fun h8 => ?_) (fun h8 => ?_)
              · refine jc_skip ?_; refine jc_seq ?_; refine jc_block ?_; refine jc_seq ?_; refine jc_region ?_; refine jo_l (ly_mv rfl) (hd 89 rfl) ?_; refine jo_l (ly_ia (i := i) sl1140 rfl rfl rfl (by first | rfl | omega) (by omega) rfl) (hd 90 rfl) ?_; refine jo_l (ly_is (ly_ldi one3 rfl rfl (by first | omega | (dsimp only; omega))) (show V.i .i64 _ = V.i .i64 ((C3.take k3).getD i 0) by rw [getT (acc := (C3.take k3)) (by rw [hB]) (by rw [hB]; omega)])) (hd 91 rfl) ?_; refine jo_l (ly_as rfl) (hd 14 rfl) ?_; refine jo_l (ly_as rfl) (hd 15 rfl) ?_; refine jo_nil ?_
                have hset : (revI (C3.take k3) i).set ((0 + (k3 - 1 - i)) * 1) ((C3.take k3).getD i 0) = revI (C3.take k3) (i + 1) := by
                  rw [Nat.zero_add, Nat.mul_one]
                  have h := revI_set (B := (C3.take k3)) (i := i) (by rw [hB]; omega)
                  rwa [hB] at h
                refine jc_region ?_; refine jo_l (ly_mv rfl) (hd 92 rfl) ?_; refine jo_l (ly_mv rfl) (hd 93 rfl) ?_; refine jo_l (ly_leno sl1140 rfl rfl) (hd 94 rfl) ?_; refine jo_l (ly_sub rfl rfl (wrap_i64 (by omega) (by omega))) (hd 95 rfl) ?_; refine jo_l (ly_mv rfl) (hd 96 rfl) ?_; refine jo_l (ly_sub rfl rfl (r := ((k3 - 1 - i : Nat) : Int)) (by rw [wrap_i64 (by omega) (by omega)]; omega)) (hd 97 rfl) ?_; refine jo_l (ly_mv rfl) (hd 98 rfl) ?_; refine jo_l (ly_ia (i := k3 - 1 - i) sl1140 rfl rfl rfl (by first | rfl | omega) (by omega) rfl) (hd 99 rfl) ?_; refine jo_st (sy_storei rfl rfl rfl one3 (by rw [hrl9, hB]; first | omega | (dsimp only; omega))) ?_; refine jo_nil ?_; refine jc_region ?_; refine jo_l (ly_add rfl rfl (r := ((i + 1 : Nat) : Int)) (by rw [wrap_i64 (by omega) (by omega)]; omega)) (hd 100 rfl) ?_; refine jo_l (ly_mv rfl) (hd 87 rfl) ?_; refine jo_nil ?_
                refine ⟨i + 1, ?_, ?_, (by show [_, (⟨3, 1, 0, true, ints .i64 _⟩ : Ob)] = [_, ⟨3, 1, 0, true, ints .i64 _⟩]; rw [hset]), cov_n 32 rfl rfl ?_⟩
                · omega
                · omega
                · exact (.cons rfl (.u (.u (.u (.u (.u (.u (.u (.u (.u (.u (.u (.u (.u (.u (.u .nil))))))))))))))))
              · obtain rfl : i = k3 := by omega
                have hR : revI (C3.take i) i = (hdg b m (vl l).toNat) := by
                  have h := revI_all (C3.take i)
                  rw [hB] at h
                  rw [h, hpd]; rfl
                have hRl : (hdg b m (vl l).toNat).length = i := by rw [← hR, revI_len (by omega), hB]
                refine jc_exit ?_; refine jc_seq ?_; refine jc_region ?_; refine jo_l (ly_mv rfl) (hd 101 rfl) ?_; refine jo_l (ly_as rfl) (hd 6 rfl) ?_; refine jo_nil ?_; refine jc_ret ?_
                refine ⟨[1], _, (.o 0 0 0 i), (.cons rfl .nil), rfl, rfl, (by decide), (by first | exact idless_cons ints_id idless_nil | exact idless_cons rfl idless_nil), ?_⟩
                exact ⟨by rw [hRl], by rw [← hR]; rfl⟩
end Go.Proofs.Ytpldmajdiljoaaa.Vc

/- What was given up is caught; must. -/
namespace Go.Proofs.Ytpldmajdiljoaaa.Vc
open Go Go.RowKit
set_option maxHeartbeats 4000000 in
theorem caughtR_0 (a b c ue : Value) (ha : a.oneCell' = true) (hb : b.oneCell' = true) (hc : c.oneCell' = true) (hu : ue.oneCell' = true) : Spec Try.prog 43 [.c .nilIface, .a [.c a, .c b, .c c], .c ue] (fun o => o = .ret (.t [.a [.c a, .c b, .c c], .c ue])) := by
  refine spec_of' [(0, .c .nilIface), (1, .a [.c a, .c b, .c c]), (2, .c ue)] rfl Try.func43 rfl (Nat.le_of_ble_eq_true rfl) fun Γ hN hds hL hR => ?_
  have hd : ∀ d, Nat.blt d 26 = true → d < Γ.N := fun d h => by rw [hN]; exact Nat.le_of_ble_eq_true h
  refine jc_seq ?_; refine jc_region ?_; refine jo_h (hy_box (id := 0) (n := 3) rfl (one_c3V ha hb hc) rfl (by decide) rfl) (hd 4 rfl) ?_; refine jo_h (hy_alloc (id := 1) zero1028 (by decide) rfl (by decide) rfl) (hd 6 rfl) ?_; refine jo_l (ly_as rfl) (hd 7 rfl) ?_; refine jo_nil ?_; refine jc_seq ?_; refine jc_seq ?_; refine jc_region ?_; refine jo_l (ly_mv rfl) (hd 11 rfl) ?_; refine jo_l (ly_eqi0 undI20 rfl) (hd 12 rfl) ?_; refine jo_nil ?_; refine jc_litt rfl ?_; refine jc_seq ?_; refine jc_region ?_; refine jo_l (ly_lda agg1028 rfl rfl rfl rfl) (hd 13 rfl) ?_; refine jo_l (ly_mv rfl) (hd 14 rfl) ?_; refine jo_st (sy_store rfl rfl rfl siz1028 rfl (one_c3 ha hb hc) (Nat.le_of_ble_eq_true rfl)) ?_; refine jo_l (ly_as rfl) (hd 7 rfl) ?_; refine jo_nil ?_; refine jc_ret ?_
  refine ⟨_, _, (.cons (ResV.cell agg1028 rfl rfl rfl rfl) (.cons rfl .nil)), (.t1 (.a1 .c (.a1 .c (.a1 .c .a0))) (.t1 .c .t0)), ?_⟩
  exact rfl

set_option maxHeartbeats 4000000 in
theorem caughtR_1 (a b c ue : Value) (ha : a.oneCell' = true) (hb : b.oneCell' = true) (hc : c.oneCell' = true) (hu : ue.oneCell' = true) (e : Int) : Spec Try.prog 43 [.c (.iface 126 (.agg #[.int .i64 e])), .a [.c a, .c b, .c c], .c ue] (fun o => o = .ret (.t [(.a [.b false, .n false .u64 [], .n false .u64 []]), .i .i64 e])) := by
  refine spec_of' [(0, .c (.iface 126 (.agg #[.int .i64 e]))), (1, .a [.c a, .c b, .c c]), (2, .c ue)] rfl Try.func43 rfl (Nat.le_of_ble_eq_true rfl) fun Γ hN hds hL hR => ?_
  have hd : ∀ d, Nat.blt d 26 = true → d < Γ.N := fun d h => by rw [hN]; exact Nat.le_of_ble_eq_true h
  refine jc_seq ?_; refine jc_region ?_; refine jo_h (hy_box (id := 0) (n := 3) rfl (one_c3V ha hb hc) rfl (by decide) rfl) (hd 4 rfl) ?_; refine jo_h (hy_alloc (id := 1) zero1028 (by decide) rfl (by decide) rfl) (hd 6 rfl) ?_; refine jo_l (ly_as rfl) (hd 7 rfl) ?_; refine jo_nil ?_; refine jc_seq ?_; refine jc_seq ?_; refine jc_region ?_; refine jo_l (ly_mv rfl) (hd 11 rfl) ?_; refine jo_l (ly_eqi1 undI20 rfl) (hd 12 rfl) ?_; refine jo_nil ?_; refine jc_litf rfl ?_; refine jc_skip ?_; refine jc_seq ?_; refine jc_region ?_; refine jo_l (ly_mv rfl) (hd 16 rfl) ?_; refine jo_l (ly_ta ndi1126 rfl) (hd 17 rfl) ?_; refine jo_l (ly_mv rfl) (hd 15 rfl) ?_; refine jo_l (ly_ext rfl rfl) (hd 18 rfl) ?_; refine jo_l (ly_ext rfl rfl) (hd 19 rfl) ?_; refine jo_h (hy_alloc (id := 2) zero1126 (by decide) rfl (by decide) rfl) (hd 8 rfl) ?_; refine jo_st (sy_store rfl rfl rfl siz1126 rfl rfl (Nat.le_of_ble_eq_true rfl)) ?_; refine jo_l (ly_as rfl) (hd 9 rfl) ?_; refine jo_nil ?_; refine jc_seq ?_; refine jc_seq ?_; refine jc_region ?_; refine jo_l (ly_mv rfl) (hd 20 rfl) ?_; refine jo_l (ly_not rfl) (hd 21 rfl) ?_; refine jo_nil ?_; refine jc_litf rfl ?_; refine jc_skip ?_; refine jc_seq ?_; refine jc_region ?_; refine jo_h (hy_alloc (id := 3) zero1028 (by decide) rfl (by decide) rfl) (hd 10 rfl) ?_; refine jo_nil ?_; refine jc_seq ?_; refine jc_draw (n := 5) _ rfl mixed ?_; refine ja_l 0 (lo_l (ly_lda agg1028 rfl rfl rfl rfl) (hd 23 rfl)) rfl (by kernel_rfl) (by kernel_rfl) (by kernel_rfl) (fun _ _ _ _ h => h) ?_
  refine ja_2 1 3 ?_ ?_ rfl rfl (by kernel_rfl)
  · refine js_l (ly_fa fld1126_0 rfl rfl rfl) (hd 24 rfl) ?_
    refine ja_2 2 3 ?_ ?_ rfl rfl (by kernel_rfl)
    · refine js_l (ly_ld one23 rfl rfl rfl) (hd 25 rfl) ?_
      refine ja_1 3 ?_ rfl (by kernel_rfl)
      refine js_st (sy_store rfl rfl rfl siz1028 rfl rfl (Nat.le_of_ble_eq_true rfl)) rfl ?_; refine ja_l 4 (lo_l (ly_as rfl) (hd 7 rfl)) rfl (by kernel_rfl) (by kernel_rfl) (by kernel_rfl) (fun _ _ _ _ h => h) ?_; refine ja_nil (by kernel_rfl) ?_; refine jc_ret ?_
      refine ⟨_, _, (.cons (ResV.cell agg1028 rfl rfl rfl rfl) (.cons rfl .nil)), (.t1 (.a1 .b (.a1 (.nil (fr := false) (k := .u64)) (.a1 (.nil (fr := false) (k := .u64)) .a0))) (.t1 .i .t0)), ?_⟩
      exact rfl
    · refine js_st (sy_store rfl rfl rfl siz1028 rfl rfl (Nat.le_of_ble_eq_true rfl)) rfl ?_; refine ja_l 2 (lo_l (ly_ld one23 rfl rfl rfl) (hd 25 rfl)) rfl (by kernel_rfl) (by kernel_rfl) (by kernel_rfl) (fun _ _ _ _ h => h) ?_; refine ja_l 4 (lo_l (ly_as rfl) (hd 7 rfl)) rfl (by kernel_rfl) (by kernel_rfl) (by kernel_rfl) (fun _ _ _ _ h => h) ?_; refine ja_nil (by kernel_rfl) ?_; refine jc_ret ?_
      refine ⟨_, _, (.cons (ResV.cell agg1028 rfl rfl rfl rfl) (.cons rfl .nil)), (.t1 (.a1 .b (.a1 (.nil (fr := false) (k := .u64)) (.a1 (.nil (fr := false) (k := .u64)) .a0))) (.t1 .i .t0)), ?_⟩
      exact rfl
  · refine js_st (sy_store rfl rfl rfl siz1028 rfl rfl (Nat.le_of_ble_eq_true rfl)) rfl ?_; refine ja_l 1 (lo_l (ly_fa fld1126_0 rfl rfl rfl) (hd 24 rfl)) rfl (by kernel_rfl) (by kernel_rfl) (by kernel_rfl) (fun _ _ _ _ h => h) ?_; refine ja_l 2 (lo_l (ly_ld one23 rfl rfl rfl) (hd 25 rfl)) rfl (by kernel_rfl) (by kernel_rfl) (by kernel_rfl) (fun _ _ _ _ h => h) ?_; refine ja_l 4 (lo_l (ly_as rfl) (hd 7 rfl)) rfl (by kernel_rfl) (by kernel_rfl) (by kernel_rfl) (fun _ _ _ _ h => h) ?_; refine ja_nil (by kernel_rfl) ?_; refine jc_ret ?_
    refine ⟨_, _, (.cons (ResV.cell agg1028 rfl rfl rfl rfl) (.cons rfl .nil)), (.t1 (.a1 .b (.a1 (.nil (fr := false) (k := .u64)) (.a1 (.nil (fr := false) (k := .u64)) .a0))) (.t1 .i .t0)), ?_⟩
    exact rfl

set_option maxHeartbeats 4000000 in
theorem caughtI_0 (a ue : Value) (ha : a.oneCell' = true) (hu : ue.oneCell' = true) : Spec Try.prog 50 [.c .nilIface, .c a, .c ue] (fun o => o = .ret (.t [.c a, .c ue])) := by
  refine spec_of' [(0, .c .nilIface), (1, .c a), (2, .c ue)] rfl Try.func50 rfl (Nat.le_of_ble_eq_true rfl) fun Γ hN hds hL hR => ?_
  have hd : ∀ d, Nat.blt d 26 = true → d < Γ.N := fun d h => by rw [hN]; exact Nat.le_of_ble_eq_true h
  refine jc_seq ?_; refine jc_region ?_; refine jo_l (ly_as rfl) (hd 6 rfl) ?_; refine jo_l (ly_as rfl) (hd 7 rfl) ?_; refine jo_nil ?_; refine jc_seq ?_; refine jc_seq ?_; refine jc_region ?_; refine jo_l (ly_mv rfl) (hd 11 rfl) ?_; refine jo_l (ly_eqi0 undI20 rfl) (hd 12 rfl) ?_; refine jo_nil ?_; refine jc_litt rfl ?_; refine jc_seq ?_; refine jc_region ?_; refine jo_l (ly_mv rfl) (hd 13 rfl) ?_; refine jo_l (ly_mv rfl) (hd 14 rfl) ?_; refine jo_l (ly_as rfl) (hd 6 rfl) ?_; refine jo_l (ly_as rfl) (hd 7 rfl) ?_; refine jo_nil ?_; refine jc_ret ?_
  refine ⟨_, _, (.cons rfl (.cons rfl .nil)), (.t1 .c (.t1 .c .t0)), ?_⟩
  exact rfl

set_option maxHeartbeats 4000000 in
theorem caughtI_1 (a ue : Value) (ha : a.oneCell' = true) (hu : ue.oneCell' = true) (e : Int) : Spec Try.prog 50 [.c (.iface 126 (.agg #[.int .i64 e])), .c a, .c ue] (fun o => o = .ret (.t [(.i .i64 0), .i .i64 e])) := by
  refine spec_of' [(0, .c (.iface 126 (.agg #[.int .i64 e]))), (1, .c a), (2, .c ue)] rfl Try.func50 rfl (Nat.le_of_ble_eq_true rfl) fun Γ hN hds hL hR => ?_
  have hd : ∀ d, Nat.blt d 26 = true → d < Γ.N := fun d h => by rw [hN]; exact Nat.le_of_ble_eq_true h
  refine jc_seq ?_; refine jc_region ?_; refine jo_l (ly_as rfl) (hd 6 rfl) ?_; refine jo_l (ly_as rfl) (hd 7 rfl) ?_; refine jo_nil ?_; refine jc_seq ?_; refine jc_seq ?_; refine jc_region ?_; refine jo_l (ly_mv rfl) (hd 11 rfl) ?_; refine jo_l (ly_eqi1 undI20 rfl) (hd 12 rfl) ?_; refine jo_nil ?_; refine jc_litf rfl ?_; refine jc_skip ?_; refine jc_seq ?_; refine jc_region ?_; refine jo_l (ly_mv rfl) (hd 16 rfl) ?_; refine jo_l (ly_ta ndi1126 rfl) (hd 17 rfl) ?_; refine jo_l (ly_mv rfl) (hd 15 rfl) ?_; refine jo_l (ly_ext rfl rfl) (hd 18 rfl) ?_; refine jo_l (ly_ext rfl rfl) (hd 19 rfl) ?_; refine jo_h (hy_alloc (id := 0) zero1126 (by decide) rfl (by decide) rfl) (hd 8 rfl) ?_; refine jo_st (sy_store rfl rfl rfl siz1126 rfl rfl (Nat.le_of_ble_eq_true rfl)) ?_; refine jo_l (ly_as rfl) (hd 9 rfl) ?_; refine jo_nil ?_; refine jc_seq ?_; refine jc_seq ?_; refine jc_region ?_; refine jo_l (ly_mv rfl) (hd 20 rfl) ?_; refine jo_l (ly_not rfl) (hd 21 rfl) ?_; refine jo_nil ?_; refine jc_litf rfl ?_; refine jc_skip ?_; refine jc_seq ?_; refine jc_region ?_; refine jo_l (ly_as rfl) (hd 10 rfl) ?_; refine jo_nil ?_; refine jc_seq ?_; refine jc_draw (n := 5) _ rfl mixed ?_; refine ja_l 0 (lo_l (ly_mv rfl) (hd 23 rfl)) rfl (by kernel_rfl) (by kernel_rfl) (by kernel_rfl) (fun _ _ _ _ h => h) ?_; refine ja_l 1 (lo_l (ly_fa fld1126_0 rfl rfl rfl) (hd 24 rfl)) rfl (by kernel_rfl) (by kernel_rfl) (by kernel_rfl) (fun _ _ _ _ h => h) ?_; refine ja_l 2 (lo_l (ly_ld one23 rfl rfl rfl) (hd 25 rfl)) rfl (by kernel_rfl) (by kernel_rfl) (by kernel_rfl) (fun _ _ _ _ h => h) ?_; refine ja_l 3 (lo_l (ly_as rfl) (hd 6 rfl)) rfl (by kernel_rfl) (by kernel_rfl) (by kernel_rfl) (fun _ _ _ _ h => h) ?_; refine ja_l 4 (lo_l (ly_as rfl) (hd 7 rfl)) rfl (by kernel_rfl) (by kernel_rfl) (by kernel_rfl) (fun _ _ _ _ h => h) ?_; refine ja_nil (by kernel_rfl) ?_; refine jc_ret ?_
  refine ⟨_, _, (.cons rfl (.cons rfl .nil)), (.t1 .i (.t1 .i .t0)), ?_⟩
  exact rfl

set_option maxHeartbeats 4000000 in
theorem caughtS_0 (a ue : Value) (ha : a.oneCell' = true) (hu : ue.oneCell' = true) : Spec Try.prog 83 [.c .nilIface, .c a, .c ue] (fun o => o = .ret (.t [.c a, .c ue])) := by
  refine spec_of' [(0, .c .nilIface), (1, .c a), (2, .c ue)] rfl Try.func83 rfl (Nat.le_of_ble_eq_true rfl) fun Γ hN hds hL hR => ?_
  have hd : ∀ d, Nat.blt d 26 = true → d < Γ.N := fun d h => by rw [hN]; exact Nat.le_of_ble_eq_true h
  refine jc_seq ?_; refine jc_region ?_; refine jo_l (ly_as rfl) (hd 6 rfl) ?_; refine jo_l (ly_as rfl) (hd 7 rfl) ?_; refine jo_nil ?_; refine jc_seq ?_; refine jc_seq ?_; refine jc_region ?_; refine jo_l (ly_mv rfl) (hd 11 rfl) ?_; refine jo_l (ly_eqi0 undI20 rfl) (hd 12 rfl) ?_; refine jo_nil ?_; refine jc_litt rfl ?_; refine jc_seq ?_; refine jc_region ?_; refine jo_l (ly_mv rfl) (hd 13 rfl) ?_; refine jo_l (ly_mv rfl) (hd 14 rfl) ?_; refine jo_l (ly_as rfl) (hd 6 rfl) ?_; refine jo_l (ly_as rfl) (hd 7 rfl) ?_; refine jo_nil ?_; refine jc_ret ?_
  refine ⟨_, _, (.cons rfl (.cons rfl .nil)), (.t1 .c (.t1 .c .t0)), ?_⟩
  exact rfl

set_option maxHeartbeats 4000000 in
theorem caughtS_1 (a ue : Value) (ha : a.oneCell' = true) (hu : ue.oneCell' = true) (e : Int) : Spec Try.prog 83 [.c (.iface 126 (.agg #[.int .i64 e])), .c a, .c ue] (fun o => o = .ret (.t [(.s .empty), .i .i64 e])) := by
  refine spec_of' [(0, .c (.iface 126 (.agg #[.int .i64 e]))), (1, .c a), (2, .c ue)] rfl Try.func83 rfl (Nat.le_of_ble_eq_true rfl) fun Γ hN hds hL hR => ?_
  have hd : ∀ d, Nat.blt d 26 = true → d < Γ.N := fun d h => by rw [hN]; exact Nat.le_of_ble_eq_true h
  refine jc_seq ?_; refine jc_region ?_; refine jo_l (ly_as rfl) (hd 6 rfl) ?_; refine jo_l (ly_as rfl) (hd 7 rfl) ?_; refine jo_nil ?_; refine jc_seq ?_; refine jc_seq ?_; refine jc_region ?_; refine jo_l (ly_mv rfl) (hd 11 rfl) ?_; refine jo_l (ly_eqi1 undI20 rfl) (hd 12 rfl) ?_; refine jo_nil ?_; refine jc_litf rfl ?_; refine jc_skip ?_; refine jc_seq ?_; refine jc_region ?_; refine jo_l (ly_mv rfl) (hd 16 rfl) ?_; refine jo_l (ly_ta ndi1126 rfl) (hd 17 rfl) ?_; refine jo_l (ly_mv rfl) (hd 15 rfl) ?_; refine jo_l (ly_ext rfl rfl) (hd 18 rfl) ?_; refine jo_l (ly_ext rfl rfl) (hd 19 rfl) ?_; refine jo_h (hy_alloc (id := 0) zero1126 (by decide) rfl (by decide) rfl) (hd 8 rfl) ?_; refine jo_st (sy_store rfl rfl rfl siz1126 rfl rfl (Nat.le_of_ble_eq_true rfl)) ?_; refine jo_l (ly_as rfl) (hd 9 rfl) ?_; refine jo_nil ?_; refine jc_seq ?_; refine jc_seq ?_; refine jc_region ?_; refine jo_l (ly_mv rfl) (hd 20 rfl) ?_; refine jo_l (ly_not rfl) (hd 21 rfl) ?_; refine jo_nil ?_; refine jc_litf rfl ?_; refine jc_skip ?_; refine jc_seq ?_; refine jc_region ?_; refine jo_l (ly_as rfl) (hd 10 rfl) ?_; refine jo_nil ?_; refine jc_seq ?_; refine jc_draw (n := 5) _ rfl mixed ?_; refine ja_l 0 (lo_l (ly_mv rfl) (hd 23 rfl)) rfl (by kernel_rfl) (by kernel_rfl) (by kernel_rfl) (fun _ _ _ _ h => h) ?_; refine ja_l 1 (lo_l (ly_fa fld1126_0 rfl rfl rfl) (hd 24 rfl)) rfl (by kernel_rfl) (by kernel_rfl) (by kernel_rfl) (fun _ _ _ _ h => h) ?_; refine ja_l 2 (lo_l (ly_ld one23 rfl rfl rfl) (hd 25 rfl)) rfl (by kernel_rfl) (by kernel_rfl) (by kernel_rfl) (fun _ _ _ _ h => h) ?_; refine ja_l 3 (lo_l (ly_as rfl) (hd 6 rfl)) rfl (by kernel_rfl) (by kernel_rfl) (by kernel_rfl) (fun _ _ _ _ h => h) ?_; refine ja_l 4 (lo_l (ly_as rfl) (hd 7 rfl)) rfl (by kernel_rfl) (by kernel_rfl) (by kernel_rfl) (fun _ _ _ _ h => h) ?_; refine ja_nil (by kernel_rfl) ?_; refine jc_ret ?_
  refine ⟨_, _, (.cons rfl (.cons rfl .nil)), (.t1 .s (.t1 .i .t0)), ?_⟩
  exact rfl

theorem clo_2346 : Clo Try.prog 53 28 34 3 true 126 (.a [.b false, .n false .u64 [], .n false .u64 []]) where
  shape := ⟨Try.f53, Try.f43, 43, 35, 20, "ratio.go:70", Try.func53, rfl, rfl, rfl, Try.func43, rfl, rfl, fun us ue hl h1 h2 => by
    obtain ⟨a, b, c, rfl⟩ : ∃ a b c, us = [a, b, c] := by
      match us, hl with
      | [a, b, c], _ => exact ⟨a, b, c, rfl⟩
    exact caughtR_0 a b c ue (h1 a (by simp)) (h1 b (by simp)) (h1 c (by simp)) h2, fun us ue e hl h1 h2 => by
    obtain ⟨a, b, c, rfl⟩ : ∃ a b c, us = [a, b, c] := by
      match us, hl with
      | [a, b, c], _ => exact ⟨a, b, c, rfl⟩
    exact caughtR_1 a b c ue (h1 a (by simp)) (h1 b (by simp)) (h1 c (by simp)) h2 e⟩
  hm := mixed
  hld := .inl ⟨rfl, agg1028⟩
  hsz := siz1028
  hle := one23
  hz1 := rfl
  hz2 := rfl
  hz3 := fun _ => rfl

theorem clo_2342 : Clo Try.prog 49 3 34 1 false 126 (.i .i64 0) where
  shape := ⟨Try.f49, Try.f50, 50, 39, 20, "ratio.go:190", Try.func49, rfl, rfl, rfl, Try.func50, rfl, rfl, fun us ue hl h1 h2 => by
    obtain ⟨a, rfl⟩ : ∃ a, us = [a] := by
      match us, hl with
      | [a], _ => exact ⟨a, rfl⟩
    exact caughtI_0 a ue (h1 a (by simp)) h2, fun us ue e hl h1 h2 => by
    obtain ⟨a, rfl⟩ : ∃ a, us = [a] := by
      match us, hl with
      | [a], _ => exact ⟨a, rfl⟩
    exact caughtI_1 a ue (h1 a (by simp)) h2 e⟩
  hm := mixed
  hld := .inr ⟨rfl, rfl, one3⟩
  hsz := siz3
  hle := one23
  hz1 := rfl
  hz2 := rfl
  hz3 := fun _ => rfl

theorem clo_2347 : Clo Try.prog 59 28 34 3 true 126 (.a [.b false, .n false .u64 [], .n false .u64 []]) where
  shape := ⟨Try.f59, Try.f43, 43, 35, 20, "ratio.go:96", Try.func59, rfl, rfl, rfl, Try.func43, rfl, rfl, fun us ue hl h1 h2 => by
    obtain ⟨a, b, c, rfl⟩ : ∃ a b c, us = [a, b, c] := by
      match us, hl with
      | [a, b, c], _ => exact ⟨a, b, c, rfl⟩
    exact caughtR_0 a b c ue (h1 a (by simp)) (h1 b (by simp)) (h1 c (by simp)) h2, fun us ue e hl h1 h2 => by
    obtain ⟨a, b, c, rfl⟩ : ∃ a b c, us = [a, b, c] := by
      match us, hl with
      | [a, b, c], _ => exact ⟨a, b, c, rfl⟩
    exact caughtR_1 a b c ue (h1 a (by simp)) (h1 b (by simp)) (h1 c (by simp)) h2 e⟩
  hm := mixed
  hld := .inl ⟨rfl, agg1028⟩
  hsz := siz1028
  hle := one23
  hz1 := rfl
  hz2 := rfl
  hz3 := fun _ => rfl

theorem clo_2350 : Clo Try.prog 68 28 34 3 true 126 (.a [.b false, .n false .u64 [], .n false .u64 []]) where
  shape := ⟨Try.f68, Try.f43, 43, 35, 20, "ratio.go:122", Try.func68, rfl, rfl, rfl, Try.func43, rfl, rfl, fun us ue hl h1 h2 => by
    obtain ⟨a, b, c, rfl⟩ : ∃ a b c, us = [a, b, c] := by
      match us, hl with
      | [a, b, c], _ => exact ⟨a, b, c, rfl⟩
    exact caughtR_0 a b c ue (h1 a (by simp)) (h1 b (by simp)) (h1 c (by simp)) h2, fun us ue e hl h1 h2 => by
    obtain ⟨a, b, c, rfl⟩ : ∃ a b c, us = [a, b, c] := by
      match us, hl with
      | [a, b, c], _ => exact ⟨a, b, c, rfl⟩
    exact caughtR_1 a b c ue (h1 a (by simp)) (h1 b (by simp)) (h1 c (by simp)) h2 e⟩
  hm := mixed
  hld := .inl ⟨rfl, agg1028⟩
  hsz := siz1028
  hle := one23
  hz1 := rfl
  hz2 := rfl
  hz3 := fun _ => rfl

theorem clo_2351 : Clo Try.prog 69 3 34 1 false 126 (.i .i64 0) where
  shape := ⟨Try.f69, Try.f50, 50, 39, 20, "ratio.go:146", Try.func69, rfl, rfl, rfl, Try.func50, rfl, rfl, fun us ue hl h1 h2 => by
    obtain ⟨a, rfl⟩ : ∃ a, us = [a] := by
      match us, hl with
      | [a], _ => exact ⟨a, rfl⟩
    exact caughtI_0 a ue (h1 a (by simp)) h2, fun us ue e hl h1 h2 => by
    obtain ⟨a, rfl⟩ : ∃ a, us = [a] := by
      match us, hl with
      | [a], _ => exact ⟨a, rfl⟩
    exact caughtI_1 a ue (h1 a (by simp)) h2 e⟩
  hm := mixed
  hld := .inr ⟨rfl, rfl, one3⟩
  hsz := siz3
  hle := one23
  hz1 := rfl
  hz2 := rfl
  hz3 := fun _ => rfl

theorem clo_2353 : Clo Try.prog 72 28 34 3 true 126 (.a [.b false, .n false .u64 [], .n false .u64 []]) where
  shape := ⟨Try.f72, Try.f43, 43, 35, 20, "ratio.go:136", Try.func72, rfl, rfl, rfl, Try.func43, rfl, rfl, fun us ue hl h1 h2 => by
    obtain ⟨a, b, c, rfl⟩ : ∃ a b c, us = [a, b, c] := by
      match us, hl with
      | [a, b, c], _ => exact ⟨a, b, c, rfl⟩
    exact caughtR_0 a b c ue (h1 a (by simp)) (h1 b (by simp)) (h1 c (by simp)) h2, fun us ue e hl h1 h2 => by
    obtain ⟨a, b, c, rfl⟩ : ∃ a b c, us = [a, b, c] := by
      match us, hl with
      | [a, b, c], _ => exact ⟨a, b, c, rfl⟩
    exact caughtR_1 a b c ue (h1 a (by simp)) (h1 b (by simp)) (h1 c (by simp)) h2 e⟩
  hm := mixed
  hld := .inl ⟨rfl, agg1028⟩
  hsz := siz1028
  hle := one23
  hz1 := rfl
  hz2 := rfl
  hz3 := fun _ => rfl

theorem clo_2358 : Clo Try.prog 82 9 34 1 false 126 (.s .empty) where
  shape := ⟨Try.f82, Try.f83, 83, 57, 20, "ratio.go:291", Try.func82, rfl, rfl, rfl, Try.func83, rfl, rfl, fun us ue hl h1 h2 => by
    obtain ⟨a, rfl⟩ : ∃ a, us = [a] := by
      match us, hl with
      | [a], _ => exact ⟨a, rfl⟩
    exact caughtS_0 a ue (h1 a (by simp)) h2, fun us ue e hl h1 h2 => by
    obtain ⟨a, rfl⟩ : ∃ a, us = [a] := by
      match us, hl with
      | [a], _ => exact ⟨a, rfl⟩
    exact caughtS_1 a ue (h1 a (by simp)) h2 e⟩
  hm := mixed
  hld := .inr ⟨rfl, rfl, one9⟩
  hsz := siz9
  hle := one23
  hz1 := rfl
  hz2 := rfl
  hz3 := fun _ => rfl

set_option maxHeartbeats 4000000 in
theorem mustN (l : List Int) : Spec Try.prog 61 [.n false .u64 l, .i .i64 0] (fun o => o = .ret (.n false .u64 l)) := by
  refine spec_of' [(0, .n false .u64 l), (1, .i .i64 0)] rfl Try.func61 rfl (Nat.le_of_ble_eq_true rfl) fun Γ hN hds hL hR => ?_
  have hd : ∀ d, Nat.blt d 11 = true → d < Γ.N := fun d h => by rw [hN]; exact Nat.le_of_ble_eq_true h
  refine jc_seq ?_; refine jc_region ?_; refine jo_l (ly_as rfl) (hd 4 rfl) ?_; refine jo_nil ?_; refine jc_seq ?_; refine jc_seq ?_; refine jc_region ?_; refine jo_l (ly_mv rfl) (hd 5 rfl) ?_; refine jo_l (ly_ff (ly_ne rfl rfl) (by decide)) (hd 6 rfl) ?_; refine jo_nil ?_; refine jc_litf rfl ?_; refine jc_skip ?_; refine jc_seq ?_; refine jc_region ?_; refine jo_l (ly_mv rfl) (hd 10 rfl) ?_; refine jo_l (ly_as rfl) (hd 4 rfl) ?_; refine jo_nil ?_; refine jc_ret ?_
  refine ⟨_, _, (.cons rfl .nil), .n, ?_⟩
  exact rfl

set_option maxHeartbeats 4000000 in
theorem mustW (s : Bool) (l : List Int) : Spec Try.prog 63 [.a [.b s, .n false .u64 l], .i .i64 0] (fun o => o = .ret (.a [.b s, .n false .u64 l])) := by
  refine spec_of' [(0, .a [.b s, .n false .u64 l]), (1, .i .i64 0)] rfl Try.func63 rfl (Nat.le_of_ble_eq_true rfl) fun Γ hN hds hL hR => ?_
  have hd : ∀ d, Nat.blt d 11 = true → d < Γ.N := fun d h => by rw [hN]; exact Nat.le_of_ble_eq_true h
  refine jc_seq ?_; refine jc_region ?_; refine jo_h (hy_box (id := 0) (n := 2) rfl rfl rfl (by decide) rfl) (hd 2 rfl) ?_; refine jo_h (hy_alloc (id := 1) zero30 (by decide) rfl (by decide) rfl) (hd 4 rfl) ?_; refine jo_nil ?_; refine jc_seq ?_; refine jc_seq ?_; refine jc_region ?_; refine jo_l (ly_mv rfl) (hd 5 rfl) ?_; refine jo_l (ly_ff (ly_ne rfl rfl) (by decide)) (hd 6 rfl) ?_; refine jo_nil ?_; refine jc_litf rfl ?_; refine jc_skip ?_; refine jc_seq ?_; refine jc_region ?_; refine jo_l (ly_lda agg30 rfl rfl rfl rfl) (hd 10 rfl) ?_; refine jo_st (sy_store rfl rfl rfl siz30 rfl rfl (Nat.le_of_ble_eq_true rfl)) ?_; refine jo_nil ?_; refine jc_ret ?_
  refine ⟨_, _, (.cons (ResV.cell agg30 rfl rfl rfl rfl) .nil), (.a1 .b (.a1 .n .a0)), ?_⟩
  exact rfl

set_option maxHeartbeats 4000000 in
theorem mustS (s : ByteArray) : Spec Try.prog 84 [.s s, .i .i64 0] (fun o => o = .ret (.s s)) := by
  refine spec_of' [(0, .s s), (1, .i .i64 0)] rfl Try.func84 rfl (Nat.le_of_ble_eq_true rfl) fun Γ hN hds hL hR => ?_
  have hd : ∀ d, Nat.blt d 11 = true → d < Γ.N := fun d h => by rw [hN]; exact Nat.le_of_ble_eq_true h
  refine jc_seq ?_; refine jc_region ?_; refine jo_l (ly_as rfl) (hd 4 rfl) ?_; refine jo_nil ?_; refine jc_seq ?_; refine jc_seq ?_; refine jc_region ?_; refine jo_l (ly_mv rfl) (hd 5 rfl) ?_; refine jo_l (ly_ff (ly_ne rfl rfl) (by decide)) (hd 6 rfl) ?_; refine jo_nil ?_; refine jc_litf rfl ?_; refine jc_skip ?_; refine jc_seq ?_; refine jc_region ?_; refine jo_l (ly_mv rfl) (hd 10 rfl) ?_; refine jo_l (ly_as rfl) (hd 4 rfl) ?_; refine jo_nil ?_; refine jc_ret ?_
  refine ⟨_, _, (.cons rfl .nil), .s, ?_⟩
  exact rfl
end Go.Proofs.Ytpldmajdiljoaaa.Vc

/- Handed in: api.Ratio. -/
namespace Go.Proofs.Ytpldmajdiljoaaa.Vc
open Go Go.RowKit
theorem Rw.mk' {l : List Int} (hu : u64s l) (hl : l.length ≤ 1048576) : Rw l (vl l).toNat := ⟨hu, (Int.toNat_of_nonneg (vl_nonneg hu)).symm, hl⟩
set_option maxRecDepth 100000 in
theorem openQ {H : Type} {enc : TypeId × Value → H} {w : World} {sp : Nat → Bool} {held : Bool} {r : Reach} {b0 : Nat} {v : Value} {d : DataW H} {ps : List MemPlace} (hval : Value.okWide Try.prog w r b0 28 v) (hd : DataW.Trod enc Try.prog w 0 sp held 28 v d ps) :
    ∃ (s : Bool) (l e : List Int), Rel w (fun _ => False) w.heap.size [] (.a [.b s, .n false .u64 l, .n false .u64 e]) v ∧ l.length + e.length + 3 ≤ Rows.uptoBulk d ∧ u64s l ∧ u64s e := by
  obtain ⟨cs, rfl, hsz⟩ := Go.WideShapes.okWide_struct Try.underlying28 hval
  obtain ⟨fuel, hd⟩ := hd
  have hcl : (Value.agg cs).cells.toList = cs.toList := rfl
  rw [hcl] at hd
  obtain ⟨y0, y1, n, hx, hl, h0, h1⟩ := Go.ChangeShapes.trod_struct2 Try.underlying28 hd
  injection hx with hx _; subst hx
  have hl' : cs.toList.length = 3 := hl
  obtain ⟨c0, c1, c2, hcs⟩ : ∃ c0 c1 c2, cs.toList = [c0, c1, c2] := by
    match hm : cs.toList, hl' with
    | [a, b, c], _ => exact ⟨a, b, c, rfl⟩
  rw [hcs] at h0 h1
  have h0' : DataW.trod enc Try.prog w 0 sp held n 26 [c0, c1] = some y0 := h0
  obtain ⟨u0, u1, m, hy, hl2, g0, g1⟩ := Go.ChangeShapes.trod_struct2 Try.underlying26 h0'
  subst hy
  obtain ⟨s, e0, hy0⟩ := DataW.trod_bool Try.underlying4 g0
  have e0' : [c0] = [Value.bool s] := e0
  injection e0' with e0'; subst e0'; subst hy0
  have g1' : DataW.trod enc Try.prog w 0 sp held m 24 [c1] = some u1 := g1
  obtain ⟨l, k1, k2, k3⟩ := open_numsV Try.underlying24 Try.underlying67 (show Try.prog.cellsOf 67 = 1 by kernel_rfl) g1'
  have h1' : DataW.trod enc Try.prog w 0 sp held n 24 [c2] = some y1 := h1
  obtain ⟨e, k4, k5, k6⟩ := open_numsV Try.underlying24 Try.underlying67 (show Try.prog.cellsOf 67 = 1 by kernel_rfl) h1'
  refine ⟨s, l, e, ⟨cs.toList, by simp, ?_⟩, ?_, fun y hy => wf_u64 (k3 y hy), fun y hy => wf_u64 (k6 y hy)⟩
  · rw [hcs]; exact ⟨_, _, rfl, rfl, _, _, rfl, k1, _, _, rfl, k4, rfl⟩
  · simp only [Rows.uptoBulk, Rows.uptoBulkAll]; omega
theorem short3q {H : Type} {d0 d1 d2 : DataW H} {rest : List (DataW H)} {l0 e0 l1 e1 l2 e2 : List Int} (hk : Rows.uptoSmall H (d0 :: d1 :: d2 :: rest) = true) (h0 : l0.length + e0.length + 3 ≤ Rows.uptoBulk d0) (h1 : l1.length + e1.length + 3 ≤ Rows.uptoBulk d1) (h2 : l2.length + e2.length + 3 ≤ Rows.uptoBulk d2) : l0.length + e0.length + l1.length + e1.length + l2.length + e2.length ≤ 1048567 := by
  have h : Rows.uptoBulkAll (d0 :: d1 :: d2 :: rest) ≤ 1048576 := of_decide_eq_true hk
  simp only [Rows.uptoBulkAll] at h
  omega
end Go.Proofs.Ytpldmajdiljoaaa.Vc

/- Contracts of mul.Mul told exactly, nat.Bit, div.limb, plus. -/
namespace Go.Proofs.Ytpldmajdiljoaaa.Vc
open Go Go.RowKit
set_option maxHeartbeats 4000000 in
theorem mfits_l (l : List Int) (hl : l.length < 1099511627776) (hu : u64s l) : Spec Try.prog 132 [.n false .u64 l] (fun o => ∃ (r : List Int) (e : Int), o = .ret (.t [.n true .u64 r, .i .i64 e]) ∧ ErrL (vl l) r e) := by
  refine spec_of' [(0, .n false .u64 l)] rfl Try.func132 rfl (Nat.le_of_ble_eq_true rfl) fun Γ hN hds hL hR => ?_
  have hd : ∀ d, Nat.blt d 10 = true → d < Γ.N := fun d h => by rw [hN]; exact Nat.le_of_ble_eq_true h
  have hm := trm_len l
  refine jc_seq ?_; refine jc_region ?_; refine jo_l (ly_as rfl) (hd 2 rfl) ?_; refine jo_l (ly_as rfl) (hd 3 rfl) ?_; refine jo_nil ?_; refine jc_seq ?_; refine jc_region ?_; refine jo_l (ly_mv rfl) (hd 4 rfl) ?_
  refine jo_call Try.f71 (Norm_s l hl) rfl Try.func71 rfl rfl (ovL_cons rfl ovL_nil) (.cons .n .nil) (hd 5 rfl) ?_ (fun ch hp => by simp at hp)
  rintro y hy; injection hy with hy; subst hy; refine jo_l (ly_as rfl) (hd 0 rfl) ?_; refine jo_nil ?_; refine jc_seq ?_; refine jc_seq ?_; refine jc_region ?_; refine jo_l (ly_mv rfl) (hd 6 rfl) ?_
  refine jo_call Try.f66 (Length_s (trm l) (by omega) (u64s_trm hu)) rfl Try.func66 rfl rfl (ovL_cons rfl ovL_nil) (.cons .n .nil) (hd 7 rfl) ?_ (fun ch hp => by simp at hp)
  rintro y hy; injection hy with hy; subst hy; refine jo_l (ly_gt rfl rfl) (hd 8 rfl) ?_; refine jo_nil ?_
  refine jc_if rfl (fun h1 => ?_) (fun h1 => ?_)
  · refine jc_seq ?_; refine jc_region ?_; refine jo_l (ly_as rfl) (hd 2 rfl) ?_; refine jo_l (ly_as rfl) (hd 3 rfl) ?_; refine jo_nil ?_; refine jc_ret ?_
    refine ⟨_, _, (.cons rfl (.cons rfl .nil)), (.t1 (.nil (fr := true) (k := .u64)) (.t1 .i .t0)), ?_⟩
    exact ⟨[], 3, rfl, errL_big hu rfl (by rw [lenN_trm] at *; omega)⟩
  · refine jc_skip ?_; refine jc_seq ?_; refine jc_region ?_; refine jo_l (ly_mv rfl) (hd 9 rfl) ?_; refine jo_l (ly_as rfl) (hd 2 rfl) ?_; refine jo_l (ly_as rfl) (hd 3 rfl) ?_; refine jo_nil ?_; refine jc_ret ?_
    refine ⟨_, _, (.cons rfl (.cons rfl .nil)), (.t1 .n (.t1 .i .t0)), ?_⟩
    exact ⟨_, 0, rfl, errL_ok hu rfl (by rw [lenN_trm] at *; omega)⟩

set_option maxHeartbeats 4000000 in
theorem product_l (a b : List Int) (hla : a.length < 4294967296) (hlb : b.length < 4294967296) (ua : u64s a) (ub : u64s b) : Spec Try.prog 107 [.n false .u64 a, .n false .u64 b, .f 108 []] (fun o => ∃ (r : List Int) (e : Int), o = .ret (.t [.n true .u64 r, .i .i64 e]) ∧ ErrL (vl a * vl b) r e) := by
  refine spec_of' [(0, .n false .u64 a), (1, .n false .u64 b), (2, .f 108 [])] rfl Try.func107 rfl (Nat.le_of_ble_eq_true rfl) fun Γ hN hds hL hR => ?_
  have hd : ∀ d, Nat.blt d 22 = true → d < Γ.N := fun d h => by rw [hN]; exact Nat.le_of_ble_eq_true h
  have hma := trm_len a
  have hmb := trm_len b
  refine jc_seq ?_; refine jc_region ?_; refine jo_l (ly_as rfl) (hd 6 rfl) ?_; refine jo_l (ly_as rfl) (hd 7 rfl) ?_; refine jo_nil ?_; refine jc_seq ?_; refine jc_region ?_; refine jo_l (ly_mv rfl) (hd 8 rfl) ?_
  refine jo_call Try.f71 (Norm_s a (by omega)) rfl Try.func71 rfl rfl (ovL_cons rfl ovL_nil) (.cons .n .nil) (hd 9 rfl) ?_ (fun ch hp => by simp at hp)
  rintro y hy; injection hy with hy; subst hy; refine jo_l (ly_mv rfl) (hd 10 rfl) ?_
  refine jo_call Try.f71 (Norm_s b (by omega)) rfl Try.func71 rfl rfl (ovL_cons rfl ovL_nil) (.cons .n .nil) (hd 11 rfl) ?_ (fun ch hp => by simp at hp)
  rintro y hy; injection hy with hy; subst hy; refine jo_l (ly_as rfl) (hd 0 rfl) ?_; refine jo_l (ly_as rfl) (hd 1 rfl) ?_; refine jo_nil ?_; refine jc_seq ?_; refine jc_seq ?_; refine jc_region ?_; refine jo_l (ly_mv rfl) (hd 12 rfl) ?_; refine jo_l (ly_mv rfl) (hd 13 rfl) ?_
  refine jo_call Try.f131 (great_e (trm a) (trm b) (by omega) (by omega) (u64s_trm ua) (u64s_trm ub)) rfl Try.func131 rfl rfl (ovL_cons rfl (ovL_cons rfl ovL_nil)) (.cons .n (.cons .n .nil)) (hd 14 rfl) ?_ (fun ch hp => by simp at hp)
  rintro y ⟨x, hy, hx⟩; injection hy with hy; subst hy; refine jo_nil ?_
  refine jc_cond rfl (fun h1 => ?_) (fun h1 => ?_)
  · refine jc_seq ?_; refine jc_region ?_; refine jo_l (ly_as rfl) (hd 6 rfl) ?_; refine jo_l (ly_as rfl) (hd 7 rfl) ?_; refine jo_nil ?_; refine jc_ret ?_
    refine ⟨_, _, (.cons rfl (.cons rfl .nil)), (.t1 (.nil (fr := true) (k := .u64)) (.t1 .i .t0)), ?_⟩
    refine ⟨[], 3, rfl, ?_⟩
    obtain ⟨g1, g2, g3⟩ := hx (by assumption)
    have := errN_great (r := []) (u64s_trm ua) (u64s_trm ub) g1 g2 g3
    rw [vl_trm, vl_trm] at this
    exact errL_of this
  · refine jc_skip ?_; refine jc_seq ?_; refine jc_region ?_; refine jo_l (ly_mv rfl) (hd 15 rfl) ?_; refine jo_l (ly_mv rfl) (hd 16 rfl) ?_; refine jo_l (ly_mv rfl) (hd 17 rfl) ?_
    refine jo_call Try.f108 (way_s (trm a) (trm b) (by omega) (by omega) (u64s_trm ua) (u64s_trm ub)) rfl Try.func108 rfl rfl (ovL_cons rfl (ovL_cons rfl ovL_nil)) (.cons .n (.cons .n .nil)) (hd 18 rfl) ?_ (fun ch hp => by simp at hp)
    rintro y ⟨rs, hy, us, ls, vs⟩; injection hy with hy; subst hy
    refine jo_call Try.f132 (mfits_l rs (by omega) us) rfl Try.func132 rfl rfl (ovL_cons rfl ovL_nil) (.cons .n .nil) (hd 19 rfl) ?_ (fun ch hp => by simp at hp)
    rintro y ⟨rf, ef, hy, hf⟩; injection hy with hy; subst hy; refine jo_l (ly_ext rfl rfl) (hd 20 rfl) ?_; refine jo_l (ly_ext rfl rfl) (hd 21 rfl) ?_; refine jo_l (ly_as rfl) (hd 6 rfl) ?_; refine jo_l (ly_as rfl) (hd 7 rfl) ?_; refine jo_nil ?_; refine jc_ret ?_
    refine ⟨_, _, (.cons rfl (.cons rfl .nil)), (.t1 .n (.t1 .i .t0)), ?_⟩
    exact ⟨rf, ef, rfl, by rwa [vs, vl_trm, vl_trm] at hf⟩

set_option maxHeartbeats 4000000 in
theorem Mul_l (a b : List Int) (hla : a.length < 4294967296) (hlb : b.length < 4294967296) (ua : u64s a) (ub : u64s b) : Spec Try.prog 67 [.n false .u64 a, .n false .u64 b] (fun o => ∃ (r : List Int) (e : Int), o = .ret (.t [.n true .u64 r, .i .i64 e]) ∧ ErrL (vl a * vl b) r e) := by
  refine spec_of' [(0, .n false .u64 a), (1, .n false .u64 b)] rfl Try.func67 rfl (Nat.le_of_ble_eq_true rfl) fun Γ hN hds hL hR => ?_
  have hd : ∀ d, Nat.blt d 11 = true → d < Γ.N := fun d h => by rw [hN]; exact Nat.le_of_ble_eq_true h
  refine jc_seq ?_; refine jc_region ?_; refine jo_l (ly_as rfl) (hd 4 rfl) ?_; refine jo_l (ly_as rfl) (hd 5 rfl) ?_; refine jo_nil ?_; refine jc_seq ?_; refine jc_region ?_; refine jo_l (ly_mv rfl) (hd 6 rfl) ?_; refine jo_l (ly_mv rfl) (hd 7 rfl) ?_
  refine jo_call Try.f107 (product_l a b hla hlb ua ub) rfl Try.func107 rfl rfl (ovL_cons rfl (ovL_cons rfl (ovL_cons rfl ovL_nil))) (.cons .n (.cons .n (.cons .f .nil))) (hd 8 rfl) ?_ (fun ch hp => by simp at hp)
  rintro y ⟨rp, ep, hy, hp⟩; injection hy with hy; subst hy; refine jo_l (ly_ext rfl rfl) (hd 9 rfl) ?_; refine jo_l (ly_ext rfl rfl) (hd 10 rfl) ?_; refine jo_l (ly_as rfl) (hd 4 rfl) ?_; refine jo_l (ly_as rfl) (hd 5 rfl) ?_; refine jo_nil ?_; refine jc_ret ?_
  refine ⟨_, _, (.cons rfl (.cons rfl .nil)), (.t1 .n (.t1 .i .t0)), ?_⟩
  exact ⟨rp, ep, rfl, hp⟩
end Go.Proofs.Ytpldmajdiljoaaa.Vc

/- Contracts of div.Both of any limbs, mul.Square. -/
namespace Go.Proofs.Ytpldmajdiljoaaa.Vc
open Go Go.RowKit
set_option maxHeartbeats 4000000 in
theorem Both_r (l : List Int) (w : Int) (hl : l.length ≤ 1048576) (hu : u64s l) (hw : lenV w ≤ 67108864) (h0 : w ≠ 0) : Spec Try.prog 138 [.n false .u64 l, .n false .u64 (lm w)] (fun o => o = .ret (.t [.n false .u64 (lm (qn (vl l) w)), .n false .u64 (lm (rn (vl l) w)), .i .i64 0])) := by
  refine spec_of' [(0, .n false .u64 l), (1, .n false .u64 (lm w))] rfl Try.func138 rfl (Nat.le_of_ble_eq_true rfl) fun Γ hN hds hL hR => ?_
  have hd : ∀ d, Nat.blt d 32 = true → d < Γ.N := fun d h => by rw [hN]; exact Nat.le_of_ble_eq_true h
  have hv : lenV (vl l) ≤ 67108864 := by have := lenV_64 (s := false) hu; have e : sv false l = vl l := rfl; rw [e] at this; omega
  have hlw := lenV_lm hw
  have hle := lenV_mono (v := qn (vl l) w) (w := vl l) qn_le
  have hlr := lenV_mono (v := rn (vl l) w) (w := w) (rn_le h0).1
  have hlq := lenV_lm (v := qn (vl l) w) (by omega)
  have hlR := lenV_lm (v := rn (vl l) w) (by omega)
  have hne := lm_ne h0
  have hlv := lenV_lm hv
  have hNl : Spec Try.prog 71 [.n false .u64 l] (fun o => o = .ret (.n true .u64 (lm (vl l)))) := by have h := Norm_s l (by omega); rwa [trm_lm hu rfl] at h
  refine jc_seq ?_; refine jc_region ?_; refine jo_l (ly_as rfl) (hd 4 rfl) ?_; refine jo_l (ly_as rfl) (hd 5 rfl) ?_; refine jo_l (ly_as rfl) (hd 6 rfl) ?_; refine jo_nil ?_; refine jc_seq ?_; refine jc_region ?_; refine jo_l (ly_mv rfl) (hd 9 rfl) ?_
  refine jo_call Try.f71 (hNl) rfl Try.func71 rfl rfl (ovL_cons rfl ovL_nil) (.cons .n .nil) (hd 10 rfl) ?_ (fun ch hp => by simp at hp)
  rintro y hy; injection hy with hy; subst hy; refine jo_l (ly_mv rfl) (hd 11 rfl) ?_
  refine jo_call Try.f71 (Norm_v w (by omega)) rfl Try.func71 rfl rfl (ovL_cons rfl ovL_nil) (.cons .n .nil) (hd 12 rfl) ?_ (fun ch hp => by simp at hp)
  rintro y hy; injection hy with hy; subst hy; refine jo_l (ly_as rfl) (hd 0 rfl) ?_; refine jo_l (ly_as rfl) (hd 1 rfl) ?_; refine jo_nil ?_; refine jc_seq ?_; refine jc_seq ?_; refine jc_region ?_; refine jo_l (ly_mv rfl) (hd 13 rfl) ?_; refine jo_l (ly_lenn sl28 rfl) (hd 14 rfl) ?_; refine jo_l (ly_ff (ly_eq rfl rfl) (fun h => hne (List.eq_nil_of_length_eq_zero (by omega)))) (hd 15 rfl) ?_; refine jo_nil ?_; refine jc_litf rfl ?_; refine jc_skip ?_; refine jc_seq ?_; refine jc_region ?_; refine jo_l (ly_mv rfl) (hd 17 rfl) ?_; refine jo_l (ly_mv rfl) (hd 18 rfl) ?_
  refine jo_call Try.f100 (divide_v (vl l) w (by omega) (by omega) h0) rfl Try.func100 rfl rfl (ovL_cons rfl (ovL_cons rfl ovL_nil)) (.cons .n (.cons .n .nil)) (hd 19 rfl) ?_ (fun ch hp => by simp at hp)
  rintro y hy; injection hy with hy; subst hy; refine jo_l (ly_mv rfl) (hd 16 rfl) ?_; refine jo_l (ly_ext rfl rfl) (hd 20 rfl) ?_; refine jo_l (ly_ext rfl rfl) (hd 21 rfl) ?_; refine jo_l (ly_as rfl) (hd 7 rfl) ?_; refine jo_l (ly_as rfl) (hd 8 rfl) ?_; refine jo_nil ?_; refine jc_seq ?_; refine jc_seq ?_; refine jc_region ?_; refine jo_l (ly_mv rfl) (hd 22 rfl) ?_
  refine jo_call Try.f66 (Length_v (qn (vl l) w) (by omega)) rfl Try.func66 rfl rfl (ovL_cons rfl ovL_nil) (.cons .n .nil) (hd 23 rfl) ?_ (fun ch hp => by simp at hp)
  rintro y hy; injection hy with hy; subst hy; refine jo_l (ly_ff (ly_gt rfl rfl) (by omega)) (hd 24 rfl) ?_; refine jo_l (ly_mv rfl) (hd 25 rfl) ?_; refine jo_g 25 rfl rfl (ly_mv rfl) (hd 26 rfl) ?_
  refine jo_callg Try.f66 25 rfl rfl (Length_v (rn (vl l) w) (by omega)) rfl Try.func66 rfl rfl (ovL_cons rfl ovL_nil) (.cons .n .nil) (hd 27 rfl) ?_ (fun ch hp => by simp at hp)
  rintro y hy; injection hy with hy; subst hy; refine jo_g 25 rfl rfl (ly_ff (ly_gt rfl rfl) (by omega)) (hd 28 rfl) ?_; refine jo_l (ly_pick_f rfl rfl) (hd 29 rfl) ?_; refine jo_nil ?_; refine jc_litf rfl ?_; refine jc_skip ?_; refine jc_seq ?_; refine jc_region ?_; refine jo_l (ly_mv rfl) (hd 30 rfl) ?_; refine jo_l (ly_mv rfl) (hd 31 rfl) ?_; refine jo_l (ly_as rfl) (hd 4 rfl) ?_; refine jo_l (ly_as rfl) (hd 5 rfl) ?_; refine jo_l (ly_as rfl) (hd 6 rfl) ?_; refine jo_nil ?_; refine jc_ret ?_
  refine ⟨_, _, (.cons rfl (.cons rfl (.cons rfl .nil))), (.t1 .n (.t1 .n (.t1 .i .t0))), ?_⟩
  exact rfl

set_option maxHeartbeats 4000000 in
theorem Square_l (a : List Int) (hla : a.length < 67108864) (ua : u64s a) : Spec Try.prog 111 [.n false .u64 a] (fun o => ∃ (r : List Int) (e : Int), o = .ret (.t [.n true .u64 r, .i .i64 e]) ∧ ErrL (vl a * vl a) r e) := by
  refine spec_of' [(0, .n false .u64 a)] rfl Try.func111 rfl (Nat.le_of_ble_eq_true rfl) fun Γ hN hds hL hR => ?_
  have hd : ∀ d, Nat.blt d 9 = true → d < Γ.N := fun d h => by rw [hN]; exact Nat.le_of_ble_eq_true h
  refine jc_seq ?_; refine jc_region ?_; refine jo_l (ly_as rfl) (hd 2 rfl) ?_; refine jo_l (ly_as rfl) (hd 3 rfl) ?_; refine jo_nil ?_; refine jc_seq ?_; refine jc_region ?_; refine jo_l (ly_mv rfl) (hd 4 rfl) ?_; refine jo_l (ly_mv rfl) (hd 5 rfl) ?_
  refine jo_call Try.f67 (Mul_l a a (by omega) (by omega) ua ua) rfl Try.func67 rfl rfl (ovL_cons rfl (ovL_cons rfl ovL_nil)) (.cons .n (.cons .n .nil)) (hd 6 rfl) ?_ (fun ch hp => by simp at hp)
  rintro y ⟨rp, ep, hy, hp⟩; injection hy with hy; subst hy; refine jo_l (ly_ext rfl rfl) (hd 7 rfl) ?_; refine jo_l (ly_ext rfl rfl) (hd 8 rfl) ?_; refine jo_l (ly_as rfl) (hd 2 rfl) ?_; refine jo_l (ly_as rfl) (hd 3 rfl) ?_; refine jo_nil ?_; refine jc_ret ?_
  refine ⟨_, _, (.cons rfl (.cons rfl .nil)), (.t1 .n (.t1 .i .t0)), ?_⟩
  exact ⟨rp, ep, rfl, hp⟩
end Go.Proofs.Ytpldmajdiljoaaa.Vc

/- Contract of div.times. -/
namespace Go.Proofs.Ytpldmajdiljoaaa.Vc
open Go Go.RowKit
end Go.Proofs.Ytpldmajdiljoaaa.Vc

/- Contract of div.Power. -/
namespace Go.Proofs.Ytpldmajdiljoaaa.Vc
open Go Go.RowKit
end Go.Proofs.Ytpldmajdiljoaaa.Vc

/- Contracts of whole.PowMod. -/
namespace Go.Proofs.Ytpldmajdiljoaaa.Vc
open Go Go.RowKit
end Go.Proofs.Ytpldmajdiljoaaa.Vc

/- Contracts of whole.Mul, Sub, Add by values, answers frozen. -/
namespace Go.Proofs.Ytpldmajdiljoaaa.Vc
open Go Go.RowKit
set_option maxHeartbeats 4000000 in
theorem fits_l (s : Bool) (l : List Int) (v : Int) (hl : l.length < 1099511627776) (hu : u64s l) (hv : sv s l = v) : Spec Try.prog 127 [.a [.b s, .n false .u64 l]] (fun o => ∃ (s2 : Bool) (r : List Int) (e : Int), o = .ret (.t [.a [.b s2, .n true .u64 r], .i .i64 e]) ∧ Res (v) s2 r e) := by
  refine spec_of' [(0, .a [.b s, .n false .u64 l])] rfl Try.func127 rfl (Nat.le_of_ble_eq_true rfl) fun Γ hN hds hL hR => ?_
  have hd : ∀ d, Nat.blt d 11 = true → d < Γ.N := fun d h => by rw [hN]; exact Nat.le_of_ble_eq_true h
  refine jc_seq ?_; refine jc_region ?_; refine jo_h (hy_box (id := 0) (n := 2) rfl rfl rfl (by decide) rfl) (hd 1 rfl) ?_; refine jo_h (hy_alloc (id := 1) zero30 (by decide) rfl (by decide) rfl) (hd 2 rfl) ?_; refine jo_l (ly_as rfl) (hd 3 rfl) ?_; refine jo_nil ?_; refine jc_seq ?_; refine jc_seq ?_; refine jc_region ?_; refine jo_l (ly_fa fld30_1 rfl rfl rfl) (hd 4 rfl) ?_; refine jo_l (ly_ld one28 rfl rfl rfl) (hd 5 rfl) ?_
  refine jo_call Try.f66 (Length_s l hl hu) rfl Try.func66 rfl rfl (ovL_cons rfl ovL_nil) (.cons .n .nil) (hd 6 rfl) ?_ (fun ch hp => by simp at hp)
  rintro y hy; injection hy with hy; subst hy; refine jo_l (ly_gt rfl rfl) (hd 7 rfl) ?_; refine jo_nil ?_
  refine jc_if rfl (fun h1 => ?_) (fun h1 => ?_)
  · refine jc_seq ?_; refine jc_region ?_; refine jo_l (ly_build (is := []) (xs := []) (pls := []) zero30 pls30_ rfl ovL_nil rfl trivial (all_of rfl) rfl) (hd 8 rfl) ?_; refine jo_st (sy_store rfl rfl rfl siz30 rfl rfl (Nat.le_of_ble_eq_true rfl)) ?_; refine jo_l (ly_as rfl) (hd 3 rfl) ?_; refine jo_nil ?_; refine jc_ret ?_
    refine ⟨_, _, (.cons (ResV.cell agg30 rfl rfl rfl rfl) (.cons rfl .nil)), (.t1 (.a1 .b (.a1 (.nil (fr := true) (k := .u64)) .a0)) (.t1 .i .t0)), ?_⟩
    exact ⟨false, [], 3, rfl, res_big hu hv (by omega)⟩
  · refine jc_skip ?_; refine jc_seq ?_; refine jc_region ?_; refine jo_l (ly_lda agg30 rfl rfl rfl rfl) (hd 9 rfl) ?_
    refine jo_call Try.f102 (norm_s s l hl) rfl Try.func102 rfl rfl (ovL_cons rfl ovL_nil) (.cons (.a1 .b (.a1 .n .a0)) .nil) (hd 10 rfl) ?_ (fun ch hp => by simp at hp)
    rintro y hy; injection hy with hy; subst hy; refine jo_st (sy_store rfl rfl rfl siz30 rfl rfl (Nat.le_of_ble_eq_true rfl)) ?_; refine jo_l (ly_as rfl) (hd 3 rfl) ?_; refine jo_nil ?_; refine jc_ret ?_
    refine ⟨_, _, (.cons (ResV.cell agg30 rfl rfl rfl rfl) (.cons rfl .nil)), (.t1 (.a1 .b (.a1 .n .a0)) (.t1 .i .t0)), ?_⟩
    exact ⟨_, _, 0, rfl, res_ok hu hv (by omega)⟩

set_option maxHeartbeats 4000000 in
theorem result_l (s : Bool) (l : List Int) (e v : Int) (hRs : ResN v s l e) : Spec Try.prog 101 [.b s, .n false .u64 l, .i .i64 e] (fun o => ∃ (s2 : Bool) (r : List Int) (e : Int), o = .ret (.t [.a [.b s2, .n true .u64 r], .i .i64 e]) ∧ Res (v) s2 r e) := by
  refine spec_of' [(0, .b s), (1, .n false .u64 l), (2, .i .i64 e)] rfl Try.func101 rfl (Nat.le_of_ble_eq_true rfl) fun Γ hN hds hL hR => ?_
  have hd : ∀ d, Nat.blt d 18 = true → d < Γ.N := fun d h => by rw [hN]; exact Nat.le_of_ble_eq_true h
  refine jc_seq ?_; refine jc_region ?_; refine jo_h (hy_alloc (id := 0) zero30 (by decide) rfl (by decide) rfl) (hd 6 rfl) ?_; refine jo_l (ly_as rfl) (hd 7 rfl) ?_; refine jo_nil ?_; refine jc_seq ?_; refine jc_seq ?_; refine jc_region ?_; refine jo_l (ly_mv rfl) (hd 8 rfl) ?_; refine jo_l (ly_ne rfl rfl) (hd 9 rfl) ?_; refine jo_nil ?_
  refine jc_if rfl (fun h1 => ?_) (fun h1 => ?_)
  · have hE : e = 3 ∧ 67108864 < lenV v := by
      rcases hRs with ⟨h, _⟩ | h
      · omega
      · exact h
    refine jc_seq ?_; refine jc_region ?_; refine jo_l (ly_build (is := []) (xs := []) (pls := []) zero30 pls30_ rfl ovL_nil rfl trivial (all_of rfl) rfl) (hd 10 rfl) ?_; refine jo_l (ly_mv rfl) (hd 11 rfl) ?_; refine jo_st (sy_store rfl rfl rfl siz30 rfl rfl (Nat.le_of_ble_eq_true rfl)) ?_; refine jo_l (ly_as rfl) (hd 7 rfl) ?_; refine jo_nil ?_; refine jc_ret ?_
    refine ⟨_, _, (.cons (ResV.cell agg30 rfl rfl rfl rfl) (.cons rfl .nil)), (.t1 (.a1 .b (.a1 (.nil (fr := true) (k := .u64)) .a0)) (.t1 .i .t0)), ?_⟩
    exact ⟨false, [], e, rfl, .inr ⟨hE.2, rfl, rfl, hE.1⟩⟩
  · have hE : u64s l ∧ l.length < 1099511627776 ∧ sv s l = v := by
      rcases hRs with ⟨_, h⟩ | ⟨h, _⟩
      · exact h
      · omega
    refine jc_skip ?_; refine jc_seq ?_; refine jc_region ?_; refine jo_l (ly_mv rfl) (hd 12 rfl) ?_; refine jo_l (ly_mv rfl) (hd 13 rfl) ?_; refine jo_l (ly_build (is := [0, 1]) (xs := [.tmp 12, .tmp 13]) zero30 pls30_0_1 rfl (ovL_cons rfl (ovL_cons rfl ovL_nil)) rfl (by first | (simp [plsOk, cellsV]; done) | (simp [plsOk, cellsV, old]; done)) (all_of rfl) rfl) (hd 14 rfl) ?_
    refine jo_call Try.f127 (fits_l s l v hE.2.1 hE.1 hE.2.2) rfl Try.func127 rfl rfl (ovL_cons rfl ovL_nil) (.cons (.a1 .b (.a1 .n .a0)) .nil) (hd 15 rfl) ?_ (fun ch hp => by simp at hp)
    rintro y ⟨sf, rf, ef, hy, hf⟩; injection hy with hy; subst hy; refine jo_l (ly_ext rfl rfl) (hd 16 rfl) ?_; refine jo_l (ly_ext rfl rfl) (hd 17 rfl) ?_; refine jo_st (sy_store rfl rfl rfl siz30 rfl rfl (Nat.le_of_ble_eq_true rfl)) ?_; refine jo_l (ly_as rfl) (hd 7 rfl) ?_; refine jo_nil ?_; refine jc_ret ?_
    refine ⟨_, _, (.cons (ResV.cell agg30 rfl rfl rfl rfl) (.cons rfl .nil)), (.t1 (.a1 .b (.a1 .n .a0)) (.t1 .i .t0)), ?_⟩
    exact ⟨sf, rf, ef, rfl, hf⟩

set_option maxHeartbeats 4000000 in
theorem WMul_l (s t : Bool) (a b : List Int) (hla : a.length < 4294967296) (hlb : b.length < 4294967296) (ua : u64s a) (ub : u64s b) : Spec Try.prog 64 [.a [.b s, .n false .u64 a], .a [.b t, .n false .u64 b]] (fun o => ∃ (s2 : Bool) (r : List Int) (e : Int), o = .ret (.t [.a [.b s2, .n true .u64 r], .i .i64 e]) ∧ Res (sv s a * sv t b) s2 r e) := by
  refine spec_of' [(0, .a [.b s, .n false .u64 a]), (1, .a [.b t, .n false .u64 b])] rfl Try.func64 rfl (Nat.le_of_ble_eq_true rfl) fun Γ hN hds hL hR => ?_
  have hd : ∀ d, Nat.blt d 26 = true → d < Γ.N := fun d h => by rw [hN]; exact Nat.le_of_ble_eq_true h
  have ha0 := vl_nonneg ua
  have hb0 := vl_nonneg ub
  refine jc_seq ?_; refine jc_region ?_; refine jo_h (hy_box (id := 0) (n := 2) rfl rfl rfl (by decide) rfl) (hd 2 rfl) ?_; refine jo_h (hy_box (id := 1) (n := 2) rfl rfl rfl (by decide) rfl) (hd 3 rfl) ?_; refine jo_h (hy_alloc (id := 2) zero30 (by decide) rfl (by decide) rfl) (hd 4 rfl) ?_; refine jo_l (ly_as rfl) (hd 5 rfl) ?_; refine jo_nil ?_; refine jc_seq ?_; refine jc_region ?_; refine jo_l (ly_fa fld30_1 rfl rfl rfl) (hd 9 rfl) ?_; refine jo_l (ly_ld one28 rfl rfl rfl) (hd 10 rfl) ?_; refine jo_l (ly_fa fld30_1 rfl rfl rfl) (hd 11 rfl) ?_; refine jo_l (ly_ld one28 rfl rfl rfl) (hd 12 rfl) ?_
  refine jo_call Try.f67 (MulN_e a b hla hlb ua ub) rfl Try.func67 rfl rfl (ovL_cons rfl (ovL_cons rfl ovL_nil)) (.cons .n (.cons .n .nil)) (hd 13 rfl) ?_ (fun ch hp => by simp at hp)
  rintro y ⟨rp, ep, hy, hp⟩; injection hy with hy; subst hy; refine jo_l (ly_mv rfl) (hd 8 rfl) ?_; refine jo_l (ly_ext rfl rfl) (hd 14 rfl) ?_; refine jo_l (ly_ext rfl rfl) (hd 15 rfl) ?_; refine jo_l (ly_as rfl) (hd 6 rfl) ?_; refine jo_l (ly_as rfl) (hd 7 rfl) ?_; refine jo_nil ?_; refine jc_seq ?_; refine jc_region ?_; refine jo_l (ly_fa fld30_0 rfl rfl rfl) (hd 16 rfl) ?_; refine jo_l (ly_ld one4 rfl rfl rfl) (hd 17 rfl) ?_; refine jo_l (ly_fa fld30_0 rfl rfl rfl) (hd 18 rfl) ?_; refine jo_l (ly_ld one4 rfl rfl rfl) (hd 19 rfl) ?_; refine jo_l (ly_neb und4 rfl rfl) (hd 20 rfl) ?_; refine jo_l (ly_mv rfl) (hd 21 rfl) ?_; refine jo_l (ly_mv rfl) (hd 22 rfl) ?_
  refine jo_call Try.f101 (result_l (!(s == t)) rp ep (sv s a * sv t b) (resN_of hp (Int.mul_nonneg ha0 hb0) (fun q uq hq => sv_mul hq))) rfl Try.func101 rfl rfl (ovL_cons rfl (ovL_cons rfl (ovL_cons rfl ovL_nil))) (.cons .b (.cons .n (.cons .i .nil))) (hd 23 rfl) ?_ (fun ch hp => by simp at hp)
  rintro y ⟨sr, rr, er, hy, hr⟩; injection hy with hy; subst hy; refine jo_l (ly_ext rfl rfl) (hd 24 rfl) ?_; refine jo_l (ly_ext rfl rfl) (hd 25 rfl) ?_; refine jo_st (sy_store rfl rfl rfl siz30 rfl rfl (Nat.le_of_ble_eq_true rfl)) ?_; refine jo_l (ly_as rfl) (hd 5 rfl) ?_; refine jo_nil ?_; refine jc_ret ?_
  refine ⟨_, _, (.cons (ResV.cell agg30 rfl rfl rfl rfl) (.cons rfl .nil)), (.t1 (.a1 .b (.a1 .n .a0)) (.t1 .i .t0)), ?_⟩
  exact ⟨sr, rr, er, rfl, hr⟩

set_option maxHeartbeats 4000000 in
theorem WAdd_l (s t : Bool) (a b : List Int) (hla : a.length < 4294967296) (hlb : b.length < 4294967296) (ua : u64s a) (ub : u64s b) : Spec Try.prog 65 [.a [.b s, .n false .u64 a], .a [.b t, .n false .u64 b]] (fun o => ∃ (s2 : Bool) (r : List Int) (e : Int), o = .ret (.t [.a [.b s2, .n true .u64 r], .i .i64 e]) ∧ Res (sv s a + sv t b) s2 r e) := by
  refine spec_of' [(0, .a [.b s, .n false .u64 a]), (1, .a [.b t, .n false .u64 b])] rfl Try.func65 rfl (Nat.le_of_ble_eq_true rfl) fun Γ hN hds hL hR => ?_
  have hd : ∀ d, Nat.blt d 57 = true → d < Γ.N := fun d h => by rw [hN]; exact Nat.le_of_ble_eq_true h
  have hma := trm_len a
  have hmb := trm_len b
  have hcv := cmpL_val (u64s_trm ua) (u64s_trm ub)
  rw [trm_trm, trm_trm] at hcv
  have ea1 := sv_norm (s := s) ua
  have eb1 := sv_norm (s := t) ub
  have ha0 := vl_nonneg (u64s_trm ua)
  have hb0 := vl_nonneg (u64s_trm ub)
  refine jc_seq ?_; refine jc_region ?_; refine jo_h (hy_box (id := 0) (n := 2) rfl rfl rfl (by decide) rfl) (hd 2 rfl) ?_; refine jo_h (hy_box (id := 1) (n := 2) rfl rfl rfl (by decide) rfl) (hd 3 rfl) ?_; refine jo_h (hy_alloc (id := 2) zero30 (by decide) rfl (by decide) rfl) (hd 4 rfl) ?_; refine jo_l (ly_as rfl) (hd 5 rfl) ?_; refine jo_nil ?_; refine jc_seq ?_; refine jc_draw (n := 6) _ rfl mixed ?_; refine ja_l2 0 [1, 3, 4, 5] (lo_l (ly_lda agg30 rfl rfl rfl rfl) (hd 10 rfl)) rfl (by kernel_rfl) (by kernel_rfl) (by kernel_rfl) (by kernel_rfl) (fun _ _ _ _ h => h) ?_; refine ja_l2 2 [3, 4, 5] (lo_l (ly_lda agg30 rfl rfl rfl rfl) (hd 12 rfl)) rfl (by kernel_rfl) (by kernel_rfl) (by kernel_rfl) (by kernel_rfl) (fun _ _ _ _ h => h) ?_
  refine ja_1 1 ?_ rfl (by kernel_rfl)
  refine js_call Try.f102 (norm_s s a (by omega)) rfl Try.func102 rfl rfl (ovL_cons rfl ovL_nil) (.cons (.a1 .b (.a1 .n .a0)) .nil) (hd 11 rfl) ?_ (fun ch hp => by simp at hp)
  rintro y hy; injection hy with hy; subst hy
  refine ja_1 3 ?_ rfl (by kernel_rfl)
  refine js_call Try.f102 (norm_s t b (by omega)) rfl Try.func102 rfl rfl (ovL_cons rfl ovL_nil) (.cons (.a1 .b (.a1 .n .a0)) .nil) (hd 13 rfl) ?_ (fun ch hp => by simp at hp)
  rintro y hy; injection hy with hy; subst hy
  refine ja_1 4 ?_ rfl (by kernel_rfl)
  refine js_st (sy_store rfl rfl rfl siz30 rfl rfl (Nat.le_of_ble_eq_true rfl)) rfl ?_
  refine ja_1 5 ?_ rfl (by kernel_rfl)
  refine js_st (sy_store rfl rfl rfl siz30 rfl rfl (Nat.le_of_ble_eq_true rfl)) rfl ?_; refine ja_nil (by kernel_rfl) ?_; refine jc_seq ?_; refine jc_seq ?_; refine jc_region ?_; refine jo_l (ly_fa fld30_0 rfl rfl rfl) (hd 14 rfl) ?_; refine jo_l (ly_ld one4 rfl rfl rfl) (hd 15 rfl) ?_; refine jo_l (ly_fa fld30_0 rfl rfl rfl) (hd 16 rfl) ?_; refine jo_l (ly_ld one4 rfl rfl rfl) (hd 17 rfl) ?_; refine jo_l (ly_eqb und4 rfl rfl) (hd 18 rfl) ?_; refine jo_nil ?_
  refine jc_cond rfl (fun h1 => ?_) (fun h1 => ?_)
  · refine jc_seq ?_; refine jc_region ?_; refine jo_l (ly_fa fld30_1 rfl rfl rfl) (hd 20 rfl) ?_; refine jo_l (ly_ld one28 rfl rfl rfl) (hd 21 rfl) ?_; refine jo_l (ly_fa fld30_1 rfl rfl rfl) (hd 22 rfl) ?_; refine jo_l (ly_ld one28 rfl rfl rfl) (hd 23 rfl) ?_
    refine jo_call Try.f103 (AddN_e (trm a) (trm b) (by omega) (by omega) (u64s_trm ua) (u64s_trm ub)) rfl Try.func103 rfl rfl (ovL_cons rfl (ovL_cons rfl ovL_nil)) (.cons .n (.cons .n .nil)) (hd 24 rfl) ?_ (fun ch hp => by simp at hp)
    rintro y ⟨ra, ea, hy, ha⟩; injection hy with hy; subst hy; refine jo_l (ly_mv rfl) (hd 19 rfl) ?_; refine jo_l (ly_ext rfl rfl) (hd 25 rfl) ?_; refine jo_l (ly_ext rfl rfl) (hd 26 rfl) ?_; refine jo_l (ly_as rfl) (hd 6 rfl) ?_; refine jo_l (ly_as rfl) (hd 7 rfl) ?_; refine jo_nil ?_; refine jc_seq ?_; refine jc_region ?_; refine jo_l (ly_fa fld30_0 rfl rfl rfl) (hd 27 rfl) ?_; refine jo_l (ly_ld one4 rfl rfl rfl) (hd 28 rfl) ?_; refine jo_l (ly_mv rfl) (hd 29 rfl) ?_; refine jo_l (ly_mv rfl) (hd 30 rfl) ?_
    refine jo_call Try.f101 (result_l (s && decide (0 < ((trm a).length : Int))) ra ea (sv s a + sv t b) (resN_of ha (by omega) (fun q uq hq => add_val (by assumption) hq ea1 eb1))) rfl Try.func101 rfl rfl (ovL_cons rfl (ovL_cons rfl (ovL_cons rfl ovL_nil))) (.cons .b (.cons .n (.cons .i .nil))) (hd 31 rfl) ?_ (fun ch hp => by simp at hp)
    rintro y ⟨sr, rr, er, hy, hr⟩; injection hy with hy; subst hy; refine jo_l (ly_ext rfl rfl) (hd 32 rfl) ?_; refine jo_l (ly_ext rfl rfl) (hd 33 rfl) ?_; refine jo_st (sy_store rfl rfl rfl siz30 rfl rfl (Nat.le_of_ble_eq_true rfl)) ?_; refine jo_l (ly_as rfl) (hd 5 rfl) ?_; refine jo_nil ?_; refine jc_ret ?_
    refine ⟨_, _, (.cons (ResV.cell agg30 rfl rfl rfl rfl) (.cons rfl .nil)), (.t1 (.a1 .b (.a1 .n .a0)) (.t1 .i .t0)), ?_⟩
    exact ⟨sr, rr, er, rfl, hr⟩
  · refine jc_skip ?_; refine jc_seq ?_; refine jc_seq ?_; refine jc_region ?_; refine jo_l (ly_fa fld30_1 rfl rfl rfl) (hd 34 rfl) ?_; refine jo_l (ly_ld one28 rfl rfl rfl) (hd 35 rfl) ?_; refine jo_l (ly_fa fld30_1 rfl rfl rfl) (hd 36 rfl) ?_; refine jo_l (ly_ld one28 rfl rfl rfl) (hd 37 rfl) ?_
    refine jo_call Try.f86 (Compare_s (trm a) (trm b) (by omega) (by omega)) rfl Try.func86 rfl rfl (ovL_cons rfl (ovL_cons rfl ovL_nil)) (.cons .n (.cons .n .nil)) (hd 38 rfl) ?_ (fun ch hp => by simp at hp)
    rintro y hy; injection hy with hy; subst hy; refine jo_l (ly_lt rfl rfl) (hd 39 rfl) ?_; refine jo_nil ?_
    refine jc_if rfl (fun h2 => ?_) (fun h2 => ?_)
    · rw [trm_trm, trm_trm] at h2
      refine jc_region ?_; refine jo_l (ly_lda agg30 rfl rfl rfl rfl) (hd 40 rfl) ?_; refine jo_l (ly_lda agg30 rfl rfl rfl rfl) (hd 41 rfl) ?_; refine jo_st (sy_store rfl rfl rfl siz30 rfl rfl (Nat.le_of_ble_eq_true rfl)) ?_; refine jo_st (sy_store rfl rfl rfl siz30 rfl rfl (Nat.le_of_ble_eq_true rfl)) ?_; refine jo_nil ?_; refine jc_seq ?_; refine jc_region ?_; refine jo_l (ly_fa fld30_1 rfl rfl rfl) (hd 43 rfl) ?_; refine jo_l (ly_ld one28 rfl rfl rfl) (hd 44 rfl) ?_; refine jo_l (ly_fa fld30_1 rfl rfl rfl) (hd 45 rfl) ?_; refine jo_l (ly_ld one28 rfl rfl rfl) (hd 46 rfl) ?_
      refine jo_call Try.f104 (SubN_e (trm b) (trm a) (by omega) (by omega) (u64s_trm ub) (u64s_trm ua) (by rcases hcv with ⟨c, v⟩ | ⟨c, v⟩ | ⟨c, v⟩ <;> omega)) rfl Try.func104 rfl rfl (ovL_cons rfl (ovL_cons rfl ovL_nil)) (.cons .n (.cons .n .nil)) (hd 47 rfl) ?_ (fun ch hp => by simp at hp)
      rintro y ⟨ra, ea, hy, ha⟩; injection hy with hy; subst hy; refine jo_l (ly_mv rfl) (hd 42 rfl) ?_; refine jo_l (ly_ext rfl rfl) (hd 48 rfl) ?_; refine jo_l (ly_ext rfl rfl) (hd 49 rfl) ?_; refine jo_l (ly_as rfl) (hd 8 rfl) ?_; refine jo_l (ly_as rfl) (hd 9 rfl) ?_; refine jo_nil ?_; refine jc_seq ?_; refine jc_region ?_; refine jo_l (ly_fa fld30_0 rfl rfl rfl) (hd 50 rfl) ?_; refine jo_l (ly_ld one4 rfl rfl rfl) (hd 51 rfl) ?_; refine jo_l (ly_mv rfl) (hd 52 rfl) ?_; refine jo_l (ly_mv rfl) (hd 53 rfl) ?_
      refine jo_call Try.f101 (result_l (t && decide (0 < ((trm b).length : Int))) ra ea (sv s a + sv t b) (resN_of ha (by rcases hcv with ⟨c, v⟩ | ⟨c, v⟩ | ⟨c, v⟩ <;> omega) (fun q uq hq => (sub_val (by rw [Bool.beq_comm]; assumption) hq eb1 ea1).trans (Int.add_comm _ _)))) rfl Try.func101 rfl rfl (ovL_cons rfl (ovL_cons rfl (ovL_cons rfl ovL_nil))) (.cons .b (.cons .n (.cons .i .nil))) (hd 54 rfl) ?_ (fun ch hp => by simp at hp)
      rintro y ⟨sr, rr, er, hy, hr⟩; injection hy with hy; subst hy; refine jo_l (ly_ext rfl rfl) (hd 55 rfl) ?_; refine jo_l (ly_ext rfl rfl) (hd 56 rfl) ?_; refine jo_st (sy_store rfl rfl rfl siz30 rfl rfl (Nat.le_of_ble_eq_true rfl)) ?_; refine jo_l (ly_as rfl) (hd 5 rfl) ?_; refine jo_nil ?_; refine jc_ret ?_
      refine ⟨_, _, (.cons (ResV.cell agg30 rfl rfl rfl rfl) (.cons rfl .nil)), (.t1 (.a1 .b (.a1 .n .a0)) (.t1 .i .t0)), ?_⟩
      exact ⟨sr, rr, er, rfl, hr⟩
    · rw [trm_trm, trm_trm] at h2
      refine jc_skip ?_; refine jc_seq ?_; refine jc_region ?_; refine jo_l (ly_fa fld30_1 rfl rfl rfl) (hd 43 rfl) ?_; refine jo_l (ly_ld one28 rfl rfl rfl) (hd 44 rfl) ?_; refine jo_l (ly_fa fld30_1 rfl rfl rfl) (hd 45 rfl) ?_; refine jo_l (ly_ld one28 rfl rfl rfl) (hd 46 rfl) ?_
      refine jo_call Try.f104 (SubN_e (trm a) (trm b) (by omega) (by omega) (u64s_trm ua) (u64s_trm ub) (by rcases hcv with ⟨c, v⟩ | ⟨c, v⟩ | ⟨c, v⟩ <;> omega)) rfl Try.func104 rfl rfl (ovL_cons rfl (ovL_cons rfl ovL_nil)) (.cons .n (.cons .n .nil)) (hd 47 rfl) ?_ (fun ch hp => by simp at hp)
      rintro y ⟨ra, ea, hy, ha⟩; injection hy with hy; subst hy; refine jo_l (ly_mv rfl) (hd 42 rfl) ?_; refine jo_l (ly_ext rfl rfl) (hd 48 rfl) ?_; refine jo_l (ly_ext rfl rfl) (hd 49 rfl) ?_; refine jo_l (ly_as rfl) (hd 8 rfl) ?_; refine jo_l (ly_as rfl) (hd 9 rfl) ?_; refine jo_nil ?_; refine jc_seq ?_; refine jc_region ?_; refine jo_l (ly_fa fld30_0 rfl rfl rfl) (hd 50 rfl) ?_; refine jo_l (ly_ld one4 rfl rfl rfl) (hd 51 rfl) ?_; refine jo_l (ly_mv rfl) (hd 52 rfl) ?_; refine jo_l (ly_mv rfl) (hd 53 rfl) ?_
      refine jo_call Try.f101 (result_l (s && decide (0 < ((trm a).length : Int))) ra ea (sv s a + sv t b) (resN_of ha (by rcases hcv with ⟨c, v⟩ | ⟨c, v⟩ | ⟨c, v⟩ <;> omega) (fun q uq hq => sub_val (by assumption) hq ea1 eb1))) rfl Try.func101 rfl rfl (ovL_cons rfl (ovL_cons rfl (ovL_cons rfl ovL_nil))) (.cons .b (.cons .n (.cons .i .nil))) (hd 54 rfl) ?_ (fun ch hp => by simp at hp)
      rintro y ⟨sr, rr, er, hy, hr⟩; injection hy with hy; subst hy; refine jo_l (ly_ext rfl rfl) (hd 55 rfl) ?_; refine jo_l (ly_ext rfl rfl) (hd 56 rfl) ?_; refine jo_st (sy_store rfl rfl rfl siz30 rfl rfl (Nat.le_of_ble_eq_true rfl)) ?_; refine jo_l (ly_as rfl) (hd 5 rfl) ?_; refine jo_nil ?_; refine jc_ret ?_
      refine ⟨_, _, (.cons (ResV.cell agg30 rfl rfl rfl rfl) (.cons rfl .nil)), (.t1 (.a1 .b (.a1 .n .a0)) (.t1 .i .t0)), ?_⟩
      exact ⟨sr, rr, er, rfl, hr⟩

end Go.Proofs.Ytpldmajdiljoaaa.Vc

/- Contracts of whole.Of, flip, Sign by values. -/
namespace Go.Proofs.Ytpldmajdiljoaaa.Vc
open Go Go.RowKit
set_option maxHeartbeats 4000000 in
theorem Of_0  : Spec Try.prog 57 [.i .i64 0] (fun o => o = .ret (.a [.b false, .n true .u64 []])) := by
  refine spec_of' [(0, .i .i64 0)] rfl Try.func57 rfl (Nat.le_of_ble_eq_true rfl) fun Γ hN hds hL hR => ?_
  have hd : ∀ d, Nat.blt d 14 = true → d < Γ.N := fun d h => by rw [hN]; exact Nat.le_of_ble_eq_true h
  have rF : Spec Try.prog 58 [.i .u64 0] (fun o => o = .ret (.n true .u64 [])) := by have h := From_s 0; rwa [if_pos rfl] at h
  refine jc_seq ?_; refine jc_region ?_; refine jo_h (hy_alloc (id := 0) zero30 (by decide) rfl (by decide) rfl) (hd 2 rfl) ?_; refine jo_nil ?_; refine jc_seq ?_; refine jc_seq ?_; refine jc_region ?_; refine jo_l (ly_mv rfl) (hd 3 rfl) ?_; refine jo_l (ly_ff (ly_lt rfl rfl) (by decide)) (hd 4 rfl) ?_; refine jo_nil ?_; refine jc_litf rfl ?_; refine jc_skip ?_; refine jc_seq ?_; refine jc_region ?_; refine jo_l (ly_mv rfl) (hd 10 rfl) ?_; refine jo_l (ly_conv und3 und82 rfl (r := 0) rfl) (hd 11 rfl) ?_
  refine jo_call Try.f58 (rF) rfl Try.func58 rfl rfl (ovL_cons rfl ovL_nil) (.cons .i .nil) (hd 12 rfl) ?_ (fun ch hp => by simp at hp)
  rintro y hy; injection hy with hy; subst hy; refine jo_l (ly_build (is := [1]) (xs := [.tmp 12]) zero30 pls30_1 rfl (ovL_cons rfl ovL_nil) rfl (by first | (simp [plsOk, cellsV]; done) | (simp [plsOk, cellsV, old]; done)) (all_of rfl) rfl) (hd 13 rfl) ?_; refine jo_st (sy_store rfl rfl rfl siz30 rfl rfl (Nat.le_of_ble_eq_true rfl)) ?_; refine jo_nil ?_; refine jc_ret ?_
  refine ⟨_, _, (.cons (ResV.cell agg30 rfl rfl rfl rfl) .nil), (.a1 .b (.a1 .n .a0)), ?_⟩
  exact rfl

theorem Of_v (v : Int) (h : inI v) : Spec Try.prog 57 [.i .i64 v] (fun o => o = .ret (.a [.b (decide (v < 0)), .n true .u64 (lm v)])) := by
  have e := of_lm h
  obtain ⟨h1, h2⟩ := h
  rw [e]
  unfold fl
  rcases Int.lt_trichotomy v 0 with hv | hv | hv
  · rw [decide_eq_true hv, if_neg (by omega), show ((v.natAbs : Nat) : Int) = -v by omega]
    exact Of_neg v hv h1
  · subst hv
    exact Of_0
  · rw [decide_eq_false (by omega), if_neg (by omega), show ((v.natAbs : Nat) : Int) = v by omega]
    exact Of_pos v hv h2
end Go.Proofs.Ytpldmajdiljoaaa.Vc

/- Contract of whole.cofactor. -/
namespace Go.Proofs.Ytpldmajdiljoaaa.Vc
open Go Go.RowKit
end Go.Proofs.Ytpldmajdiljoaaa.Vc

/- Contracts of div.Quo, whole.Bezout. -/
namespace Go.Proofs.Ytpldmajdiljoaaa.Vc
open Go Go.RowKit
set_option maxHeartbeats 4000000 in
theorem Quo_v (v w : Int) (hv : lenV v ≤ 67108864) (hw : lenV w ≤ 67108864) (h0 : w ≠ 0) : Spec Try.prog 62 [.n false .u64 (lm v), .n false .u64 (lm w)] (fun o => o = .ret (.t [.n false .u64 (lm (qn v w)), .i .i64 0])) := by
  refine spec_of' [(0, .n false .u64 (lm v)), (1, .n false .u64 (lm w))] rfl Try.func62 rfl (Nat.le_of_ble_eq_true rfl) fun Γ hN hds hL hR => ?_
  have hd : ∀ d, Nat.blt d 25 = true → d < Γ.N := fun d h => by rw [hN]; exact Nat.le_of_ble_eq_true h
  have hlv := lenV_lm hv
  have hlw := lenV_lm hw
  have hle := lenV_mono (v := qn v w) (w := v) qn_le
  have hlq := lenV_lm (v := qn v w) (by omega)
  have hne := lm_ne h0
  refine jc_seq ?_; refine jc_region ?_; refine jo_l (ly_as rfl) (hd 4 rfl) ?_; refine jo_l (ly_as rfl) (hd 5 rfl) ?_; refine jo_nil ?_; refine jc_seq ?_; refine jc_region ?_; refine jo_l (ly_mv rfl) (hd 8 rfl) ?_
  refine jo_call Try.f71 (Norm_v v (by omega)) rfl Try.func71 rfl rfl (ovL_cons rfl ovL_nil) (.cons .n .nil) (hd 9 rfl) ?_ (fun ch hp => by simp at hp)
  rintro y hy; injection hy with hy; subst hy; refine jo_l (ly_mv rfl) (hd 10 rfl) ?_
  refine jo_call Try.f71 (Norm_v w (by omega)) rfl Try.func71 rfl rfl (ovL_cons rfl ovL_nil) (.cons .n .nil) (hd 11 rfl) ?_ (fun ch hp => by simp at hp)
  rintro y hy; injection hy with hy; subst hy; refine jo_l (ly_as rfl) (hd 0 rfl) ?_; refine jo_l (ly_as rfl) (hd 1 rfl) ?_; refine jo_nil ?_; refine jc_seq ?_; refine jc_seq ?_; refine jc_region ?_; refine jo_l (ly_mv rfl) (hd 12 rfl) ?_; refine jo_l (ly_lenn sl28 rfl) (hd 13 rfl) ?_; refine jo_l (ly_ff (ly_eq rfl rfl) (fun h => hne (List.eq_nil_of_length_eq_zero (by omega)))) (hd 14 rfl) ?_; refine jo_nil ?_; refine jc_litf rfl ?_; refine jc_skip ?_; refine jc_seq ?_; refine jc_region ?_; refine jo_l (ly_mv rfl) (hd 16 rfl) ?_; refine jo_l (ly_mv rfl) (hd 17 rfl) ?_
  refine jo_call Try.f100 (divide_v v w (by omega) (by omega) h0) rfl Try.func100 rfl rfl (ovL_cons rfl (ovL_cons rfl ovL_nil)) (.cons .n (.cons .n .nil)) (hd 18 rfl) ?_ (fun ch hp => by simp at hp)
  rintro y hy; injection hy with hy; subst hy; refine jo_l (ly_mv rfl) (hd 15 rfl) ?_; refine jo_l (ly_ext rfl rfl) (hd 19 rfl) ?_; refine jo_l (ly_ext rfl rfl) (hd 20 rfl) ?_; refine jo_l (ly_as rfl) (hd 6 rfl) ?_; refine jo_l (ly_as rfl) (hd 7 rfl) ?_; refine jo_nil ?_; refine jc_seq ?_; refine jc_seq ?_; refine jc_region ?_; refine jo_l (ly_mv rfl) (hd 21 rfl) ?_
  refine jo_call Try.f66 (Length_v (qn v w) (by omega)) rfl Try.func66 rfl rfl (ovL_cons rfl ovL_nil) (.cons .n .nil) (hd 22 rfl) ?_ (fun ch hp => by simp at hp)
  rintro y hy; injection hy with hy; subst hy; refine jo_l (ly_ff (ly_gt rfl rfl) (by omega)) (hd 23 rfl) ?_; refine jo_nil ?_; refine jc_litf rfl ?_; refine jc_skip ?_; refine jc_seq ?_; refine jc_region ?_; refine jo_l (ly_mv rfl) (hd 24 rfl) ?_; refine jo_l (ly_as rfl) (hd 4 rfl) ?_; refine jo_l (ly_as rfl) (hd 5 rfl) ?_; refine jo_nil ?_; refine jc_ret ?_
  refine ⟨_, _, (.cons rfl (.cons rfl .nil)), (.t1 .n (.t1 .i .t0)), ?_⟩
  exact rfl
end Go.Proofs.Ytpldmajdiljoaaa.Vc

/- Contracts of whole.Bezout of 0, Inverse. -/
namespace Go.Proofs.Ytpldmajdiljoaaa.Vc
open Go Go.RowKit
end Go.Proofs.Ytpldmajdiljoaaa.Vc

/- Contracts of whole.Add, Mul, Abs by values, of Num.Is, of Copy: answers handed over. -/
namespace Go.Proofs.Ytpldmajdiljoaaa.Vc
open Go Go.RowKit
end Go.Proofs.Ytpldmajdiljoaaa.Vc

/- Contract of the parts of numeral.all. -/
namespace Go.Proofs.Ytpldmajdiljoaaa.Vc
open Go Go.RowKit
set_option maxHeartbeats 4000000 in
theorem part_0 (b K : Nat) (hlb : 2 ≤ b) (hb2 : b ≤ 36) (hK : ∀ k, k < K → lenV ((b ^ 2 ^ k : Nat) : Int) ≤ 67108864) (hK2 : K ≤ 40) (l : List Int) (n : Nat) (hl : l.length ≤ 1048576) (hu : u64s l) (hx : (vl l).toNat < b ^ 2 ^ 0) (hn : 0 ≤ n) (hjK : 0 ≤ K) : SpecM Try.prog 142 [.n false .u64 l, .i .i64 (((0 : Nat) : Int) - 1), .q [.i .i64 (b : Int)], .q [.l true 1 (pwR b K)], .q [cyc 142 [.q [.i .i64 (b : Int)], .q [.l true 1 (pwR b K)]] [] n]] [] (fun o G => ∃ ver, o = .ret (.o 0 ver 0 (hdg b (2 ^ 0) (vl l).toNat).length) ∧ G = [⟨3, 1, ver, true, ints .i64 (hdg b (2 ^ 0) (vl l).toNat)⟩]) := by
  refine specS_of [(0, .n false .u64 l), (1, .i .i64 (((0 : Nat) : Int) - 1)), (2, .q [.i .i64 (b : Int)]), (3, .q [.l true 1 (pwR b K)]), (4, .q [cyc 142 [.q [.i .i64 (b : Int)], .q [.l true 1 (pwR b K)]] [] n])] rfl Try.func142 rfl (Nat.le_of_ble_eq_true rfl) fun Γ hN hds hL hR => ?_
  have hd : ∀ d, Nat.blt d 45 = true → d < Γ.N := fun d h => by rw [hN]; exact Nat.le_of_ble_eq_true h
  have hj40 : 2 ^ 0 ≤ 2 ^ 40 := two_cap (by omega)
  refine jc_seq ?_; refine jc_region ?_; refine jo_l (ly_as rfl) (hd 7 rfl) ?_; refine jo_nil ?_; refine jc_seq ?_; refine jc_seq ?_; refine jc_region ?_; refine jo_l (ly_mv rfl) (hd 11 rfl) ?_; refine jo_l (ly_tt (ly_lt rfl rfl) (by omega)) (hd 12 rfl) ?_; refine jo_l (ly_mv rfl) (hd 13 rfl) ?_; refine jo_s 13 rfl rfl rfl (hd 14 rfl) ?_; refine jo_s 13 rfl rfl rfl (hd 15 rfl) ?_; refine jo_s 13 rfl rfl rfl (hd 16 rfl) ?_; refine jo_l (ly_pick_t rfl rfl) (hd 17 rfl) ?_; refine jo_nil ?_; refine jc_litt rfl ?_; refine jc_seq ?_; refine jc_draw (n := 7) _ rfl mixed ?_; refine ja_l 0 (lo_l (ly_mv rfl) (hd 18 rfl)) rfl (by kernel_rfl) (by kernel_rfl) (by kernel_rfl) (fun _ _ _ _ h => h) ?_; refine ja_l 1 (lo_l (ly_ldq one3 rfl rfl) (hd 19 rfl)) rfl (by kernel_rfl) (by kernel_rfl) (by kernel_rfl) (fun _ _ _ _ h => h) ?_; refine ja_l2 2 [3, 4, 5, 6] (lo_l (ly_mv rfl) (hd 20 rfl)) rfl (by kernel_rfl) (by kernel_rfl) (by kernel_rfl) (by kernel_rfl) (fun _ _ _ _ h => h) ?_; refine ja_l2 3 [4, 5, 6] (lo_l (ly_add rfl rfl (r := (0 : Int)) (by rw [wrap_i64 (by omega) (by omega)]; omega)) (hd 21 rfl)) rfl (by kernel_rfl) (by kernel_rfl) (by kernel_rfl) (by kernel_rfl) (fun _ _ _ _ h => h) ?_; refine ja_l 4 (lo_l (ly_is (ly_shl rfl rfl (by omega) rfl) (show V.i .i64 _ = V.i .i64 ((2 ^ 0 : Nat) : Int) from rfl)) (hd 22 rfl)) rfl (by kernel_rfl) (by kernel_rfl) (by kernel_rfl) (fun _ _ _ _ h => h) ?_
  refine ja_1 5 ?_ rfl (by kernel_rfl)
  refine js_callN Try.f141 (digits_n l b (2 ^ 0) hl hu hlb hb2 (by omega)) (fun o G ⟨_, h⟩ => h ▸ idless_cons ints_id idless_nil) rfl Try.func141 rfl rfl (ovL_cons rfl (ovL_cons rfl (ovL_cons rfl ovL_nil))) (.cons .n (.cons .i (.cons .i .nil))) (hd 23 rfl) ?_ (fun ch G hp => by simp at hp)
  rintro y G ⟨hy, rfl⟩; injection hy with hy; subst hy
  show JA _ _ _ _ _ ((23, .o 0 0 0 (hdg b (2 ^ 0) (vl l).toNat).length) :: _) _ _
  refine ja_l 6 (lo_l (ly_as rfl) (hd 7 rfl)) rfl (by kernel_rfl) (by kernel_rfl) (by kernel_rfl) (fun _ _ _ _ h => h) ?_; refine ja_nil (by kernel_rfl) ?_; refine jc_ret ?_
  refine ⟨[0], _, (.o 0 0 0 (hdg b (2 ^ 0) (vl l).toNat).length), (.cons rfl .nil), rfl, rfl, (by decide), (by first | exact idless_cons ints_id idless_nil | exact idless_cons (by show List.all (ints _ _ ++ ints _ _) _ = true; rw [ints_append]; exact ints_id) idless_nil), ?_⟩
  exact ⟨0, rfl, rfl⟩

set_option maxHeartbeats 4000000 in
theorem part_1 (b K j : Nat) (hlb : 2 ≤ b) (hb2 : b ≤ 36) (hK : ∀ k, k < K → lenV ((b ^ 2 ^ k : Nat) : Int) ≤ 67108864) (hK2 : K ≤ 40) (ih : ∀ (l : List Int) (n : Nat) (hl : l.length ≤ 1048576) (hu : u64s l) (hx : (vl l).toNat < b ^ 2 ^ j) (hn : j ≤ n) (hjK : j ≤ K), SpecM Try.prog 142 [.n false .u64 l, .i .i64 (((j : Nat) : Int) - 1), .q [.i .i64 (b : Int)], .q [.l true 1 (pwR b K)], .q [cyc 142 [.q [.i .i64 (b : Int)], .q [.l true 1 (pwR b K)]] [] n]] [] (fun o G => o = .ret (.o 0 0 0 (hdg b (2 ^ j) (vl l).toNat).length) ∧ G = [⟨3, 1, 0, true, ints .i64 (hdg b (2 ^ j) (vl l).toNat)⟩])) (l : List Int) (n : Nat) (hl : l.length ≤ 1048576) (hu : u64s l) (hx : (vl l).toNat < b ^ 2 ^ (j + 1)) (hn : (j + 1) ≤ n) (hjK : (j + 1) ≤ K) : SpecM Try.prog 142 [.n false .u64 l, .i .i64 ((((j + 1) : Nat) : Int) - 1), .q [.i .i64 (b : Int)], .q [.l true 1 (pwR b K)], .q [cyc 142 [.q [.i .i64 (b : Int)], .q [.l true 1 (pwR b K)]] [] n]] [] (fun o G => ∃ ver, o = .ret (.o 0 ver 0 (hdg b (2 ^ (j + 1)) (vl l).toNat).length) ∧ G = [⟨3, 1, ver, true, ints .i64 (hdg b (2 ^ (j + 1)) (vl l).toNat)⟩]) := by
  refine specS_of [(0, .n false .u64 l), (1, .i .i64 ((((j + 1) : Nat) : Int) - 1)), (2, .q [.i .i64 (b : Int)]), (3, .q [.l true 1 (pwR b K)]), (4, .q [cyc 142 [.q [.i .i64 (b : Int)], .q [.l true 1 (pwR b K)]] [] n])] rfl Try.func142 rfl (Nat.le_of_ble_eq_true rfl) fun Γ hN hds hL hR => ?_
  have hd : ∀ d, Nat.blt d 45 = true → d < Γ.N := fun d h => by rw [hN]; exact Nat.le_of_ble_eq_true h
  have hj40 : 2 ^ (j + 1) ≤ 2 ^ 40 := two_cap (by omega)
  obtain ⟨n, rfl⟩ : ∃ m, n = m + 1 := ⟨n - 1, by omega⟩
  have hp0 := pw_pos (b := b) (k := j) hlb
  have hxv := nat_of hu
  have hv : lenV (vl l) ≤ 67108864 := by have := lenV_64 (s := false) hu; have e : sv false l = vl l := rfl; rw [e] at this; omega
  have hpw : ((b ^ 2 ^ j : Nat) : Int) ≠ 0 := by omega
  have hQn := qn_nat2 (p := b ^ 2 ^ j) hxv.symm
  have hRn := rn_nat2 (p := b ^ 2 ^ j) hxv.symm
  have hQl := lenV_lm (Nat.le_trans (lenV_mono (qn_le (v := vl l) (w := ((b ^ 2 ^ j : Nat) : Int)))) hv)
  have hRl := lenV_lm (Nat.le_trans (lenV_mono (rn_le (v := vl l) hpw).1) (hK j (by omega)))
  have hQx := part_q hx
  have hRx := part_r (j := j) (x := (vl l).toNat) hlb
  have hlQ : (hdg b (2 ^ j) (vl (lm (qn (vl l) ((b ^ 2 ^ j : Nat) : Int)))).toNat).length ≤ 1099511627776 := by rw [hdg_le, hQn]; have h1 := digs_len hlb _ _ hQx; have h2 : 2 ^ j ≤ 2 ^ 40 := two_cap (by omega); omega
  have hlR : (hdg b (2 ^ j) (vl (lm (rn (vl l) ((b ^ 2 ^ j : Nat) : Int)))).toNat).length ≤ 1099511627776 := by rw [hdg_le, hRn]; have h1 := digs_len hlb _ _ hRx; have h2 : 2 ^ j ≤ 2 ^ 40 := two_cap (by omega); omega
  refine jc_seq ?_; refine jc_region ?_; refine jo_l (ly_as rfl) (hd 7 rfl) ?_; refine jo_nil ?_; refine jc_seq ?_; refine jc_seq ?_; refine jc_region ?_; refine jo_l (ly_mv rfl) (hd 11 rfl) ?_; refine jo_l (ly_ff (ly_lt rfl rfl) (by omega)) (hd 12 rfl) ?_; refine jo_l (ly_mv rfl) (hd 13 rfl) ?_; refine jo_g 13 rfl rfl (ly_mv rfl) (hd 14 rfl) ?_
  refine jo_callg Try.f66 13 rfl rfl (Length_s l (by omega) hu) rfl Try.func66 rfl rfl (ovL_cons rfl ovL_nil) (.cons .n .nil) (hd 15 rfl) ?_ (fun ch hp => by simp at hp)
  rintro y hy; injection hy with hy; subst hy; refine jo_g 13 rfl rfl (ly_le rfl rfl) (hd 16 rfl) ?_; refine jo_l (ly_pick_f rfl rfl) (hd 17 rfl) ?_; refine jo_nil ?_
  refine jc_if rfl (fun h1 => ?_) (fun h1 => ?_)
  · refine jc_seq ?_; refine jc_draw (n := 7) _ rfl mixed ?_; refine ja_l 0 (lo_l (ly_mv rfl) (hd 18 rfl)) rfl (by kernel_rfl) (by kernel_rfl) (by kernel_rfl) (fun _ _ _ _ h => h) ?_; refine ja_l 1 (lo_l (ly_ldq one3 rfl rfl) (hd 19 rfl)) rfl (by kernel_rfl) (by kernel_rfl) (by kernel_rfl) (fun _ _ _ _ h => h) ?_; refine ja_l2 2 [3, 4, 5, 6] (lo_l (ly_mv rfl) (hd 20 rfl)) rfl (by kernel_rfl) (by kernel_rfl) (by kernel_rfl) (by kernel_rfl) (fun _ _ _ _ h => h) ?_; refine ja_l2 3 [4, 5, 6] (lo_l (ly_add rfl rfl (r := (((j + 1 : Nat) : Int) : Int)) (by rw [wrap_i64 (by omega) (by omega)]; omega)) (hd 21 rfl)) rfl (by kernel_rfl) (by kernel_rfl) (by kernel_rfl) (by kernel_rfl) (fun _ _ _ _ h => h) ?_; refine ja_l 4 (lo_l (ly_is (ly_shl rfl rfl (by omega) rfl) (show V.i .i64 _ = V.i .i64 ((2 ^ (j + 1) : Nat) : Int) by rw [Int.one_mul, Int.toNat_natCast, Nat.min_eq_left (by have h : IntKind.i64.bits = 64 := rfl; omega), show (2 : Int) ^ (j + 1) = ((2 ^ (j + 1) : Nat) : Int) by simp]; generalize 2 ^ (j + 1) = q at *; exact congrArg (V.i .i64) (wrap_i64 (by omega) (by omega)))) (hd 22 rfl)) rfl (by kernel_rfl) (by kernel_rfl) (by kernel_rfl) (fun _ _ _ _ h => h) ?_
    refine ja_1 5 ?_ rfl (by kernel_rfl)
    refine js_callN Try.f141 (digits_n l b (2 ^ (j + 1)) hl hu hlb hb2 (by omega)) (fun o G ⟨_, h⟩ => h ▸ idless_cons ints_id idless_nil) rfl Try.func141 rfl rfl (ovL_cons rfl (ovL_cons rfl (ovL_cons rfl ovL_nil))) (.cons .n (.cons .i (.cons .i .nil))) (hd 23 rfl) ?_ (fun ch G hp => by simp at hp)
    rintro y G ⟨hy, rfl⟩; injection hy with hy; subst hy
    show JA _ _ _ _ _ ((23, .o 0 0 0 (hdg b (2 ^ (j + 1)) (vl l).toNat).length) :: _) _ _
    refine ja_l 6 (lo_l (ly_as rfl) (hd 7 rfl)) rfl (by kernel_rfl) (by kernel_rfl) (by kernel_rfl) (fun _ _ _ _ h => h) ?_; refine ja_nil (by kernel_rfl) ?_; refine jc_ret ?_
    refine ⟨[0], _, (.o 0 0 0 (hdg b (2 ^ (j + 1)) (vl l).toNat).length), (.cons rfl .nil), rfl, rfl, (by decide), (by first | exact idless_cons ints_id idless_nil | exact idless_cons (by show List.all (ints _ _ ++ ints _ _) _ = true; rw [ints_append]; exact ints_id) idless_nil), ?_⟩
    exact ⟨0, rfl, rfl⟩
  · refine jc_skip ?_; refine jc_seq ?_; refine jc_region ?_; refine jo_l (ly_mv rfl) (hd 25 rfl) ?_; refine jo_l (ly_ldq one1167 rfl rfl) (hd 26 rfl) ?_; refine jo_l (ly_mv rfl) (hd 27 rfl) ?_; refine jo_l (ly_ial (i := j) (row := [pwV b j]) sl1167 rfl rfl (by omega) (pw_at (by omega))) (hd 28 rfl) ?_; refine jo_l (ly_ldq one28 rfl rfl) (hd 29 rfl) ?_
    refine jo_call Try.f138 (Both_r l ((b ^ 2 ^ j : Nat) : Int) hl hu (hK j (by omega)) hpw) rfl Try.func138 rfl rfl (ovL_cons rfl (ovL_cons rfl ovL_nil)) (.cons .n (.cons .n .nil)) (hd 30 rfl) ?_ (fun ch hp => by simp at hp)
    rintro y hy; injection hy with hy; subst hy; refine jo_l (ly_mv rfl) (hd 24 rfl) ?_; refine jo_l (ly_ext rfl rfl) (hd 31 rfl) ?_; refine jo_l (ly_ext rfl rfl) (hd 32 rfl) ?_; refine jo_l (ly_ext rfl rfl) (hd 33 rfl) ?_; refine jo_l (ly_as rfl) (hd 8 rfl) ?_; refine jo_l (ly_as rfl) (hd 9 rfl) ?_; refine jo_l (ly_as rfl) (hd 10 rfl) ?_; refine jo_nil ?_; refine jc_seq ?_; refine jc_draw (n := 12) _ rfl mixed ?_; refine ja_l2 0 [4, 9, 10, 11] (lo_l (ly_ldqf one1146 rfl rfl) (hd 34 rfl)) rfl (by kernel_rfl) (by kernel_rfl) (by kernel_rfl) (by kernel_rfl) (fun _ _ _ _ h => h) ?_; refine ja_l2 1 [4, 9, 10, 11] (lo_l (ly_mv rfl) (hd 35 rfl)) rfl (by kernel_rfl) (by kernel_rfl) (by kernel_rfl) (by kernel_rfl) (fun _ _ _ _ h => h) ?_; refine ja_l2 2 [3, 4, 9, 10, 11] (lo_l (ly_mv rfl) (hd 36 rfl)) rfl (by kernel_rfl) (by kernel_rfl) (by kernel_rfl) (by kernel_rfl) (fun _ _ _ _ h => h) ?_; refine ja_l2 3 [4, 9, 10, 11] (lo_l (ly_is (ly_sub rfl rfl (wrap_i64 (by omega) (by omega))) (show V.i .i64 _ = V.i .i64 ((j : Int) - 1) by congr 1; omega)) (hd 37 rfl)) rfl (by kernel_rfl) (by kernel_rfl) (by kernel_rfl) (by kernel_rfl) (fun _ _ _ _ h => h) ?_; refine ja_l2 5 [9, 10, 11] (lo_l (ly_ldqf one1146 rfl rfl) (hd 39 rfl)) rfl (by kernel_rfl) (by kernel_rfl) (by kernel_rfl) (by kernel_rfl) (fun _ _ _ _ h => h) ?_; refine ja_l2 6 [9, 10, 11] (lo_l (ly_mv rfl) (hd 40 rfl)) rfl (by kernel_rfl) (by kernel_rfl) (by kernel_rfl) (by kernel_rfl) (fun _ _ _ _ h => h) ?_; refine ja_l2 7 [8, 9, 10, 11] (lo_l (ly_mv rfl) (hd 41 rfl)) rfl (by kernel_rfl) (by kernel_rfl) (by kernel_rfl) (by kernel_rfl) (fun _ _ _ _ h => h) ?_; refine ja_l2 8 [9, 10, 11] (lo_l (ly_is (ly_sub rfl rfl (wrap_i64 (by omega) (by omega))) (show V.i .i64 _ = V.i .i64 ((j : Int) - 1) by congr 1; omega)) (hd 42 rfl)) rfl (by kernel_rfl) (by kernel_rfl) (by kernel_rfl) (by kernel_rfl) (fun _ _ _ _ h => h) ?_
    refine ja_1 4 ?_ rfl (by kernel_rfl)
    refine js_callNC Try.f142 (ih (lm (qn (vl l) ((b ^ 2 ^ j : Nat) : Int))) n hQl (lm_u _) (by rw [hQn]; exact hQx) (by omega) (by omega)) (fun o G ⟨_, h⟩ => h ▸ idless_cons ints_id idless_nil) rfl Try.func142 rfl rfl (ovL_cons rfl (ovL_cons rfl ovL_nil)) (.cons .n (.cons .i (.cons .q (.cons .q (.cons .q .nil))))) (hd 38 rfl) ?_ (fun ch G hp => by simp at hp)
    rintro y G ⟨hy, rfl⟩; injection hy with hy; subst hy
    show JA _ _ _ _ _ ((38, .o 0 0 0 (hdg b (2 ^ j) (vl (lm (qn (vl l) ((b ^ 2 ^ j : Nat) : Int)))).toNat).length) :: _) _ _
    refine ja_1 9 ?_ rfl (by kernel_rfl)
    refine js_callNC Try.f142 (ih (lm (rn (vl l) ((b ^ 2 ^ j : Nat) : Int))) n hRl (lm_u _) (by rw [hRn]; exact hRx) (by omega) (by omega)) (fun o G ⟨_, h⟩ => h ▸ idless_cons ints_id idless_nil) rfl Try.func142 rfl rfl (ovL_cons rfl (ovL_cons rfl ovL_nil)) (.cons .n (.cons .i (.cons .q (.cons .q (.cons .q .nil))))) (hd 43 rfl) ?_ (fun ch G hp => by simp at hp)
    rintro y G ⟨hy, rfl⟩; injection hy with hy; subst hy
    show JA _ _ _ _ _ ((43, .o 1 0 0 (hdg b (2 ^ j) (vl (lm (rn (vl l) ((b ^ 2 ^ j : Nat) : Int)))).toNat).length) :: _) _ _
    refine ja_1 10 ?_ rfl (by kernel_rfl)
    refine js_app el1140 rfl rfl (by rw [ints_length, Nat.mul_one]) rfl (src_o rfl (by rw [ints_length, Nat.mul_one]) ints_one) (by show ((hdg b (2 ^ j) (vl (lm (qn (vl l) ((b ^ 2 ^ j : Nat) : Int)))).toNat).length + (hdg b (2 ^ j) (vl (lm (rn (vl l) ((b ^ 2 ^ j : Nat) : Int)))).toNat).length) * 8 ≤ _; omega) (by show (hdg b (2 ^ j) (vl (lm (qn (vl l) ((b ^ 2 ^ j : Nat) : Int)))).toNat).length + (hdg b (2 ^ j) (vl (lm (rn (vl l) ((b ^ 2 ^ j : Nat) : Int)))).toNat).length ≤ 9223372036854775807; omega) (hd 44 rfl) rfl ?_; refine ja_l 11 (lo_l (ly_as rfl) (hd 7 rfl)) rfl (by kernel_rfl) (by kernel_rfl) (by kernel_rfl) (fun _ _ _ _ h => h) ?_; refine ja_nil (by kernel_rfl) ?_; refine jc_ret ?_
    refine ⟨[0], _, (.o 0 1 0 ((hdg b (2 ^ j) (vl (lm (qn (vl l) ((b ^ 2 ^ j : Nat) : Int)))).toNat).length + (hdg b (2 ^ j) (vl (lm (rn (vl l) ((b ^ 2 ^ j : Nat) : Int)))).toNat).length)), (.cons rfl .nil), rfl, rfl, (by decide), (by first | exact idless_cons ints_id idless_nil | exact idless_cons (by show List.all (ints _ _ ++ ints _ _) _ = true; rw [ints_append]; exact ints_id) idless_nil), ?_⟩
    exact ⟨1, by show Out.ret (V.o _ _ _ ((hdg b (2 ^ j) (vl (lm (qn (vl l) ((b ^ 2 ^ j : Nat) : Int)))).toNat).length + (hdg b (2 ^ j) (vl (lm (rn (vl l) ((b ^ 2 ^ j : Nat) : Int)))).toNat).length)) = _; rw [← List.length_append, hQn, hRn, part_join hlb hx], by show [(⟨3, 1, 1, true, ints .i64 (hdg b (2 ^ j) (vl (lm (qn (vl l) ((b ^ 2 ^ j : Nat) : Int)))).toNat) ++ ints .i64 (hdg b (2 ^ j) (vl (lm (rn (vl l) ((b ^ 2 ^ j : Nat) : Int)))).toNat)⟩ : Ob)] = [⟨3, 1, 1, true, ints .i64 (hdg b (2 ^ (j + 1)) (vl l).toNat)⟩]; rw [ints_append, hQn, hRn, part_join hlb hx]⟩

theorem part_n (b K : Nat) (hlb : 2 ≤ b) (hb2 : b ≤ 36) (hK : ∀ k, k < K → lenV ((b ^ 2 ^ k : Nat) : Int) ≤ 67108864) (hK2 : K ≤ 40) : ∀ (j : Nat) (l : List Int) (n : Nat) (hl : l.length ≤ 1048576) (hu : u64s l) (hx : (vl l).toNat < b ^ 2 ^ j) (hn : j ≤ n) (hjK : j ≤ K), SpecM Try.prog 142 [.n false .u64 l, .i .i64 (((j : Nat) : Int) - 1), .q [.i .i64 (b : Int)], .q [.l true 1 (pwR b K)], .q [cyc 142 [.q [.i .i64 (b : Int)], .q [.l true 1 (pwR b K)]] [] n]] [] (fun o G => o = .ret (.o 0 0 0 (hdg b (2 ^ j) (vl l).toNat).length) ∧ G = [⟨3, 1, 0, true, ints .i64 (hdg b (2 ^ j) (vl l).toNat)⟩])
  | 0, l, n, hl, hu, hx, hn, hjK => (part_0 b K hlb hb2 hK hK2 l n hl hu hx hn hjK).ver0 ints_id
  | j + 1, l, n, hl, hu, hx, hn, hjK => (part_1 b K j hlb hb2 hK hK2 (fun l n hl hu hx hn hjK => part_n b K hlb hb2 hK hK2 j l n hl hu hx hn hjK) l n hl hu hx hn hjK).ver0 ints_id
end Go.Proofs.Ytpldmajdiljoaaa.Vc

/- Contract of numeral.all. -/
namespace Go.Proofs.Ytpldmajdiljoaaa.Vc
open Go Go.RowKit
set_option maxHeartbeats 4000000 in
theorem all_n (l : List Int) (b : Nat) (hl : l.length ≤ 1048576) (hu : u64s l) (hlb : 2 ≤ b) (hb2 : b ≤ 36) : SpecM Try.prog 117 [.n false .u64 l, .i .i64 (b : Int)] [] (fun o G => o = .ret (.o 0 0 0 (hdg b 1 (vl l).toNat).length) ∧ G = [⟨3, 1, 0, true, ints .i64 (hdg b 1 (vl l).toNat)⟩]) := by
  refine specS_of [(0, .n false .u64 l), (1, .i .i64 (b : Int))] rfl Try.func117 rfl (Nat.le_of_ble_eq_true rfl) fun Γ hN hds hL hR => ?_
  have hd : ∀ d, Nat.blt d 75 = true → d < Γ.N := fun d h => by rw [hN]; exact Nat.le_of_ble_eq_true h
  have hlenl := lenN_le l
  have hxv := nat_of hu
  have hv0 := vl_nonneg hu
  have hv : lenV (vl l) ≤ 67108864 := by have := lenV_64 (s := false) hu; have e : sv false l = vl l := rfl; rw [e] at this; omega
  have hxp := lenV_pow hv0 hv
  have hF : Spec Try.prog 58 [.i .u64 (b : Int)] (fun o => o = .ret (.n true .u64 (lm ((b ^ 2 ^ 0 : Nat) : Int)))) := by have h := From_s (b : Int); rwa [show (if (b : Int) = 0 then [] else [(b : Int)]) = lm ((b ^ 2 ^ 0 : Nat) : Int) from by rw [Nat.pow_zero, Nat.pow_one]; exact fl_lm (by omega) (by omega)] at h
  refine jc_seq ?_; refine jc_region ?_; refine jo_h (hy_box (id := 0) (n := 1) rfl rfl rfl (by decide) rfl) (hd 3 rfl) ?_; refine jo_l (ly_as rfl) (hd 4 rfl) ?_; refine jo_nil ?_; refine jc_seq ?_; refine jc_seq ?_; refine jc_region ?_; refine jo_l (ly_mv rfl) (hd 12 rfl) ?_
  refine jo_call Try.f66 (Length_s l (by omega) hu) rfl Try.func66 rfl rfl (ovL_cons rfl ovL_nil) (.cons .n .nil) (hd 13 rfl) ?_ (fun ch hp => by simp at hp)
  rintro y hy; injection hy with hy; subst hy; refine jo_l (ly_le rfl rfl) (hd 14 rfl) ?_; refine jo_l (ly_mv rfl) (hd 15 rfl) ?_
  refine jo_ifp 15 rfl (fun h1 => ?_) (fun h1 => ?_)
  · refine jo_s 15 rfl rfl rfl (hd 16 rfl) ?_; refine jo_s 15 rfl rfl rfl (hd 17 rfl) ?_; refine jo_s 15 rfl rfl rfl (hd 18 rfl) ?_; refine jo_l (ly_pick_t rfl rfl) (hd 19 rfl) ?_; refine jo_nil ?_; refine jc_litt rfl ?_; refine jc_seq ?_; refine jc_region ?_; refine jo_l (ly_mv rfl) (hd 20 rfl) ?_; refine jo_l (ly_ld one3 rfl rfl rfl) (hd 21 rfl) ?_
    refine jo_callN Try.f141 (digits_n l b 1 hl hu hlb hb2 (by decide)) (fun o G ⟨_, h⟩ => h ▸ idless_cons ints_id idless_nil) rfl Try.func141 rfl rfl (ovL_cons rfl (ovL_cons rfl (ovL_cons rfl ovL_nil))) (.cons .n (.cons .i (.cons .i .nil))) (hd 22 rfl) ?_ (fun ch G hp => by simp at hp)
    rintro y G ⟨hy, rfl⟩; injection hy with hy; subst hy
    show JO _ _ _ _ ((22, .o 1 0 0 (hdg b 1 (vl l).toNat).length) :: _) _ _
    refine jo_l (ly_as rfl) (hd 4 rfl) ?_; refine jo_nil ?_; refine jc_ret ?_
    refine ⟨[1], _, (.o 0 0 0 (hdg b 1 (vl l).toNat).length), (.cons rfl .nil), rfl, rfl, (by decide), (idless_cons ints_id idless_nil), ?_⟩
    exact ⟨rfl, rfl⟩
  · refine jo_g 15 rfl rfl (ly_mv rfl) (hd 16 rfl) ?_
    refine jo_callg Try.f66 15 rfl rfl (Length_s l (by omega) hu) rfl Try.func66 rfl rfl (ovL_cons rfl ovL_nil) (.cons .n .nil) (hd 17 rfl) ?_ (fun ch hp => by simp at hp)
    rintro y hy; injection hy with hy; subst hy; refine jo_g 15 rfl rfl (ly_ff (ly_gt rfl rfl) (by omega)) (hd 18 rfl) ?_; refine jo_l (ly_pick_f rfl rfl) (hd 19 rfl) ?_; refine jo_nil ?_; refine jc_litf rfl ?_; refine jc_skip ?_; refine jc_seq ?_; refine jc_region ?_; refine jo_l (ly_ld one3 rfl rfl rfl) (hd 23 rfl) ?_; refine jo_l (ly_conv und3 und82 rfl (r := (b : Int)) (wrap_u64 (by omega) (by omega))) (hd 24 rfl) ?_
    refine jo_call Try.f58 (hF) rfl Try.func58 rfl rfl (ovL_cons rfl ovL_nil) (.cons .i .nil) (hd 25 rfl) ?_ (fun ch hp => by simp at hp)
    rintro y hy; injection hy with hy; subst hy; refine jo_h (hy_lit (id := 1) (xs := [.tmp 25]) el1167 rfl (ovL_cons rfl ovL_nil) rfl (all2_of rfl) (by decide) rfl) (hd 26 rfl) ?_; refine jo_h (hy_alloc (id := 2) zero1167 (by decide) rfl (by decide) rfl) (hd 5 rfl) ?_; refine jo_st (sy_store rfl rfl rfl siz1167 rfl rfl (Nat.le_of_ble_eq_true rfl)) ?_; refine jo_nil ?_
    refine jc_meet (G := Nat) (fun k => k ≤ 26 ∧ lenV ((b ^ 2 ^ k : Nat) : Int) ≤ 67108864 ∧ (vl l).toNat < b ^ 2 ^ (k + 1)) (fun k => [(6, .u), (7, .u), (8, .u), (27, .u), (28, .u), (29, .u), (30, .u), (31, .u), (32, .u), (33, .u), (34, .u), (35, .u), (36, .u), (37, .u), (38, .u), (39, .u), (40, .u), (41, .u), (42, .u), (43, .u), (44, .u), (45, .u), (46, .u), (47, .u), (48, .u), (49, .u)]) (fun k => [⟨3, 1, 0, true, [.i .i64 (b : Int)]⟩, ⟨24, 1, k, true, (pwR b (k + 1)).flatten⟩, ⟨167, 1, 0, true, [.o 1 k 0 (k + 1)]⟩]) ?_ ?_
    · refine jc_block ?_; refine jc_H (H' := [⟨3, 1, 0, true, [.i .i64 (b : Int)]⟩, ⟨24, 1, 0, true, (pwR b (0 + 1)).flatten⟩, ⟨167, 1, 0, true, [.o 1 0 0 (0 + 1)]⟩]) (by rw [← pw_one]; rfl) ?_
      refine jc_loopD (G := Nat) 3 (fun k => k ≤ 26 ∧ lenV ((b ^ 2 ^ k : Nat) : Int) ≤ 67108864) (fun k => [(6, .u), (7, .u), (8, .u), (27, .u), (28, .u), (29, .u), (30, .u), (31, .u), (32, .u), (33, .u), (34, .u), (35, .u), (36, .u), (37, .u), (38, .u), (39, .u), (40, .u), (41, .u), (42, .u), (43, .u), (44, .u), (45, .u), (46, .u), (47, .u), (48, .u), (49, .u)]) (fun k => [⟨3, 1, 0, true, [.i .i64 (b : Int)]⟩, ⟨24, 1, k, true, (pwR b (k + 1)).flatten⟩, ⟨167, 1, 0, true, [.o 1 k 0 (k + 1)]⟩]) (fun k => 27 - k) 0 ?_ ?_ rfl hR rfl (fun _ _ => rfl) (fun k _ => .cons rfl (.cons pw_id (.cons rfl .nil))) ?_
      · exact ⟨by decide, Nat.le_trans (lenV_mono (w := 36) (by rw [Int.natAbs_natCast, Nat.pow_zero, Nat.pow_one]; omega)) (by decide)⟩
      · exact (.u (.u (.u (.u (.u (.u (.u (.u (.u (.u (.u (.u (.u (.u (.u (.u (.u (.u (.u (.u (.u (.u (.u (.u (.u (.u .nil))))))))))))))))))))))))))
      · rintro k ⟨hk26, hkl⟩
        have hkm := lenV_lm hkl
        refine jc_block ?_; refine jc_seq ?_; refine jc_region ?_; refine jo_l (ly_ld one1167 rfl rfl rfl) (hd 27 rfl) ?_; refine jo_l (ly_ld one1167 rfl rfl rfl) (hd 28 rfl) ?_; refine jo_l (ly_leno sl1167 rfl rfl) (hd 29 rfl) ?_; refine jo_l (ly_sub rfl rfl (wrap_i64 (by omega) (by omega))) (hd 30 rfl) ?_; refine jo_l (ly_ia (i := k) sl1167 rfl rfl rfl (by omega) (by omega) rfl) (hd 31 rfl) ?_; refine jo_l (ly_ld (y := pwV b k) one28 rfl rfl (by rw [Nat.zero_add, Nat.mul_one]; exact pw_fat (by omega))) (hd 32 rfl) ?_; refine jo_l (ly_as rfl) (hd 6 rfl) ?_; refine jo_nil ?_; refine jc_seq ?_; refine jc_region ?_; refine jo_l (ly_mv rfl) (hd 34 rfl) ?_
        refine jo_call Try.f111 (Square_l (lm ((b ^ 2 ^ k : Nat) : Int)) (by omega) (lm_u _)) rfl Try.func111 rfl rfl (ovL_cons rfl ovL_nil) (.cons .n .nil) (hd 35 rfl) ?_ (fun ch hp => by simp at hp)
        rintro y ⟨r2, e2, hy, he2⟩; injection hy with hy; subst hy
        rw [pw_sqI] at he2
        have hle2 := errL_len he2
        have hu2 := errL_u he2
        have hcv := cmpL_val hu2 hu
        refine jo_l (ly_mv rfl) (hd 33 rfl) ?_; refine jo_l (ly_ext rfl rfl) (hd 36 rfl) ?_; refine jo_l (ly_ext rfl rfl) (hd 37 rfl) ?_; refine jo_l (ly_as rfl) (hd 7 rfl) ?_; refine jo_l (ly_as rfl) (hd 8 rfl) ?_; refine jo_nil ?_; refine jc_seq ?_; refine jc_seq ?_; refine jc_region ?_; refine jo_l (ly_mv rfl) (hd 38 rfl) ?_; refine jo_l (ly_ne rfl rfl) (hd 39 rfl) ?_; refine jo_l (ly_mv rfl) (hd 40 rfl) ?_
        refine jo_ifp 40 rfl (fun h4 => ?_) (fun h4 => ?_)
        · refine jo_s 40 rfl rfl rfl (hd 41 rfl) ?_; refine jo_s 40 rfl rfl rfl (hd 42 rfl) ?_; refine jo_s 40 rfl rfl rfl (hd 43 rfl) ?_; refine jo_s 40 rfl rfl rfl (hd 44 rfl) ?_; refine jo_l (ly_pick_t rfl rfl) (hd 45 rfl) ?_; refine jo_nil ?_; refine jc_litt rfl ?_; refine jc_exit ?_
          refine ⟨k, ?_, rfl, cov_n 49 rfl rfl ?_⟩
          · exact ⟨hk26, hkl, pw_big hv hv0 (errL_ne he2 (by assumption))⟩
          · exact (.u (.u (.u (.u (.u (.u (.u (.u (.u (.u (.u (.u (.u (.u (.u (.u (.u (.u (.u (.u (.u (.u (.u (.u (.u (.u .nil))))))))))))))))))))))))))
        · obtain ⟨hr2, hle9⟩ := errL_eq he2 (Decidable.not_not.1 h4)
          have hvr : vl r2 = ((b ^ 2 ^ (k + 1) : Nat) : Int) := by rw [hr2, vl_lm (Int.natCast_nonneg _)]
          refine jo_g 40 rfl rfl (ly_mv rfl) (hd 41 rfl) ?_; refine jo_g 40 rfl rfl (ly_mv rfl) (hd 42 rfl) ?_
          refine jo_callg Try.f86 40 rfl rfl (Compare_s r2 l (by omega) (by omega)) rfl Try.func86 rfl rfl (ovL_cons rfl (ovL_cons rfl ovL_nil)) (.cons .n (.cons .n .nil)) (hd 43 rfl) ?_ (fun ch hp => by simp at hp)
          rintro y hy; injection hy with hy; subst hy; refine jo_g 40 rfl rfl (ly_gt rfl rfl) (hd 44 rfl) ?_; refine jo_l (ly_pick_f rfl rfl) (hd 45 rfl) ?_; refine jo_nil ?_
          refine jc_if rfl (fun h6 => ?_) (fun h6 => ?_)
          · refine jc_exit ?_
            refine ⟨k, ?_, rfl, cov_n 49 rfl rfl ?_⟩
            · exact ⟨hk26, hkl, by rcases hcv with ⟨c, v⟩ | ⟨c, v⟩ | ⟨c, v⟩ <;> omega⟩
            · exact (.u (.u (.u (.u (.u (.u (.u (.u (.u (.u (.u (.u (.u (.u (.u (.u (.u (.u (.u (.u (.u (.u (.u (.u (.u (.u .nil))))))))))))))))))))))))))
          · have hge : b ^ 2 ^ (k + 1) ≤ (vl l).toNat := by rcases hcv with ⟨c, v⟩ | ⟨c, v⟩ | ⟨c, v⟩ <;> omega
            have hkeep : k + 1 ≤ 26 ∧ lenV ((b ^ 2 ^ (k + 1) : Nat) : Int) ≤ 67108864 := ⟨pw_cap26 hlb hge hxp, hle9⟩
            refine jc_skip ?_; refine jc_region ?_; refine jo_l (ly_ld one1167 rfl rfl rfl) (hd 46 rfl) ?_; refine jo_l (ly_mv rfl) (hd 47 rfl) ?_; refine jo_h (hy_lit (id := 3) (xs := [.tmp 47]) el1167 rfl (ovL_cons rfl ovL_nil) rfl (all2_of rfl) (by decide) rfl) (hd 48 rfl) ?_; refine jo_app el1167 rfl rfl (by rw [pw_flen, Nat.mul_one]) rfl (src_o rfl rfl rfl) (by show (k + 1 + 1) * 24 ≤ _; omega) (by show k + 1 + 1 ≤ 9223372036854775807; omega) (hd 49 rfl) ?_; refine jo_st (sy_store rfl rfl rfl siz1167 rfl (by simp [cellsV, oneO]) (Nat.le_of_ble_eq_true rfl)) ?_; refine jo_nil ?_
            refine ⟨k + 1, ?_, ?_, (by show [_, (⟨24, 1, k + 1, true, (pwR b (k + 1)).flatten ++ [V.n true .u64 r2]⟩ : Ob), _] = [_, ⟨24, 1, k + 1, true, (pwR b (k + 1 + 1)).flatten⟩, _]; rw [hr2, ← pw_snoc (K := k + 1)]; rfl), cov_n 53 rfl rfl ?_⟩
            · exact hkeep
            · omega
            · exact (.u (.u (.u (.u (.u (.u (.u (.u (.u (.u (.u (.u (.u (.u (.u (.u (.u (.u (.u (.u (.u (.u (.u (.u (.u (.u .nil))))))))))))))))))))))))))
    · rintro k ⟨hk26, hkl, hx⟩
      have hK : ∀ j, j < k + 1 → lenV ((b ^ 2 ^ j : Nat) : Int) ≤ 67108864 := fun j hj => Nat.le_trans (pw_mono hlb (by omega)) hkl
      have hx0 : (vl l).toNat ≠ 0 := fun h0 => by have h1 := (lenN_zero hu).2 (by omega); omega
      have hdm := digs_len hlb _ _ hx
      have hlen : (hdg b (2 ^ (k + 1)) (vl l).toNat).length = 2 ^ (k + 1) := by rw [hdg_le]; omega
      have h27 : 2 ^ (k + 1) ≤ 2 ^ 27 := two_cap (by omega)
      refine jc_seq ?_; refine jc_region ?_; refine jo_h (hy_alloc (id := 3) zero1146 (by decide) rfl (by decide) rfl) (hd 9 rfl) ?_; refine jo_nil ?_; refine jc_seq ?_; refine jc_frzrc 0 (idB := 2) (id := 1) (pwR b (k + 1)) rfl rfl rfl rfl pw_length pw_sz pw_pure (by decide) hL ?_; refine jc_frzp 5 rfl rfl rfl rfl hL ?_; refine jc_frzp 3 rfl rfl rfl rfl hL ?_; refine jc_region ?_; refine jo_l (ly_mf (ovL_cons rfl (ovL_cons rfl (ovL_cons rfl ovL_nil)))) (hd 50 rfl) ?_; refine jo_st (sy_store rfl rfl rfl siz1146 rfl rfl (Nat.le_of_ble_eq_true rfl)) ?_; refine jo_nil ?_; refine jc_seq ?_; refine jc_cyc 9 [.q [.i .i64 (b : Int)], .q [.l true 1 (pwR b (k + 1))]] [] (k + 2) rfl rfl rfl rfl hL ?_; refine jc_region ?_; refine jo_l (ly_ldqf one1146 rfl rfl) (hd 51 rfl) ?_; refine jo_l (ly_mv rfl) (hd 52 rfl) ?_; refine jo_l (ly_ldq one1167 rfl rfl) (hd 53 rfl) ?_; refine jo_l (ly_is (ly_lenl sl1167 rfl) (show V.i .i64 _ = V.i .i64 ((k + 1 : Nat) : Int) by rw [pw_length])) (hd 54 rfl) ?_; refine jo_l (ly_sub rfl rfl (wrap_i64 (by omega) (by omega))) (hd 55 rfl) ?_
      refine jo_callNC Try.f142 (part_n b (k + 1) hlb hb2 hK (by omega) (k + 1) l (k + 1) hl hu hx (Nat.le_refl _) (Nat.le_refl _)) (fun o G ⟨_, h⟩ => h ▸ idless_cons ints_id idless_nil) rfl Try.func142 rfl rfl (ovL_cons rfl (ovL_cons rfl ovL_nil)) (.cons .n (.cons .i (.cons .q (.cons .q (.cons .q .nil))))) (hd 56 rfl) ?_ (fun ch G hp => by simp at hp)
      rintro y G ⟨hy, rfl⟩; injection hy with hy; subst hy
      show JO _ _ _ _ ((56, .o 4 0 0 (hdg b (2 ^ (k + 1)) (vl l).toNat).length) :: _) _ _
      refine jo_l (ly_as rfl) (hd 10 rfl) ?_; refine jo_nil ?_; refine jc_seq ?_; refine jc_region ?_; refine jo_l (ly_as rfl) (hd 11 rfl) ?_; refine jo_nil ?_
      refine jc_meetH (G := Nat) (fun i => i = (2 ^ (k + 1) - (digs b (vl l).toNat).length)) (fun i => [(11, .i .i64 (i : Int)), (57, .u), (58, .u), (59, .u), (60, .u), (61, .u), (62, .u), (63, .u), (64, .u), (65, .u), (66, .u), (67, .u), (68, .u), (69, .u), (70, .u)]) ?_ ?_
      · refine jc_block ?_
        refine jc_loopF (G := Nat) (fun i => i ≤ (2 ^ (k + 1) - (digs b (vl l).toNat).length)) (fun i => [(11, .i .i64 (i : Int)), (57, .u), (58, .u), (59, .u), (60, .u), (61, .u), (62, .u), (63, .u), (64, .u), (65, .u), (66, .u), (67, .u), (68, .u), (69, .u), (70, .u)]) (fun _ => _) (fun i => (2 ^ (k + 1) - (digs b (vl l).toNat).length) - i) 0 ?_ ?_ rfl ?_
        · exact Nat.zero_le _
        · exact (.cons rfl (.u (.u (.u (.u (.u (.u (.u (.u (.u (.u (.u (.u (.u (.u .nil)))))))))))))))
        · rintro i hiz; refine jc_seq ?_; refine jc_seq ?_; refine jc_region ?_; refine jo_l (ly_mv rfl) (hd 57 rfl) ?_; refine jo_l (ly_mv rfl) (hd 58 rfl) ?_; refine jo_l (ly_leno sl1140 rfl rfl) (hd 59 rfl) ?_; refine jo_l (ly_sub rfl rfl (wrap_i64 (by omega) (by omega))) (hd 60 rfl) ?_; refine jo_l (ly_lt rfl rfl) (hd 61 rfl) ?_; refine jo_l (ly_mv rfl) (hd 62 rfl) ?_
          refine jo_ifp 62 rfl (fun h7 => ?_) (fun h7 => ?_)
          · refine jo_g 62 rfl rfl (ly_mv rfl) (hd 63 rfl) ?_; refine jo_g 62 rfl rfl (ly_mv rfl) (hd 64 rfl) ?_; refine jo_g 62 rfl rfl (ly_ia (i := i) sl1140 rfl rfl rfl (by first | rfl | omega) (by omega) rfl) (hd 65 rfl) ?_; refine jo_g 62 rfl rfl (ly_is (ly_ldi one3 rfl rfl (by first | omega | (dsimp only; omega))) (show V.i .i64 _ = V.i .i64 ((hdg b (2 ^ (k + 1)) (vl l).toNat).getD i 0) by rw [Nat.zero_add, Nat.mul_one])) (hd 66 rfl) ?_; refine jo_g 62 rfl rfl (ly_eq rfl rfl) (hd 67 rfl) ?_; refine jo_l (ly_pick_t rfl rfl) (hd 68 rfl) ?_; refine jo_nil ?_
            refine jc_if rfl (fun h8 => ?_) (fun h8 => ?_)
            · have hz0 := h8
              refine jc_skip ?_; refine jc_block ?_; refine jc_region ?_; refine jo_l (ly_mv rfl) (hd 69 rfl) ?_; refine jo_l (ly_add rfl rfl (r := ((i + 1 : Nat) : Int)) (by rw [wrap_i64 (by omega) (by omega)]; omega)) (hd 70 rfl) ?_; refine jo_l (ly_as rfl) (hd 11 rfl) ?_; refine jo_nil ?_
              refine ⟨i + 1, ?_, ?_, rfl, cov_n 31 rfl rfl ?_⟩
              · exact cut_next hlb hx0 hdm hiz hz0
              · have := cut_next hlb hx0 hdm hiz hz0
                omega
              · exact (.cons rfl (.u (.u (.u (.u (.u (.u (.u (.u (.u (.u (.u (.u (.u (.u .nil)))))))))))))))
            · refine jc_exit ?_
              refine ⟨i, ?_, rfl, cov_n 28 rfl rfl ?_⟩
              · exact cut_at hlb hx0 hdm hiz (by first | (left; omega) | (right; assumption))
              · exact (.cons rfl (.u (.u (.u (.u (.u (.u (.u (.u (.u (.u (.u (.u (.u (.u .nil)))))))))))))))
          · refine jo_s 62 rfl rfl rfl (hd 63 rfl) ?_; refine jo_s 62 rfl rfl rfl (hd 64 rfl) ?_; refine jo_s 62 rfl rfl rfl (hd 65 rfl) ?_; refine jo_s 62 rfl rfl rfl (hd 66 rfl) ?_; refine jo_s 62 rfl rfl rfl (hd 67 rfl) ?_; refine jo_l (ly_pick_f rfl rfl) (hd 68 rfl) ?_; refine jo_nil ?_; refine jc_litf rfl ?_; refine jc_exit ?_
            refine ⟨i, ?_, rfl, cov_n 28 rfl rfl ?_⟩
            · exact cut_at hlb hx0 hdm hiz (by first | (left; omega) | (right; assumption))
            · exact (.cons rfl (.u (.u (.u (.u (.u (.u (.u (.u (.u (.u (.u (.u (.u (.u .nil)))))))))))))))
      · rintro i hiz
        have hdr := cut_drop (m := 2 ^ (k + 1)) hlb hx0
        have hR1l : (hdg b 1 (vl l).toNat).length = (hdg b (2 ^ (k + 1)) (vl l).toNat).length - i := by rw [← hdr, List.length_drop, hiz]
        refine jc_seq ?_; refine jc_region ?_; refine jo_l (ly_mv rfl) (hd 71 rfl) ?_; refine jo_l (ly_mv rfl) (hd 72 rfl) ?_; refine jo_l (ly_slo (l := i) (h := (hdg b (2 ^ (k + 1)) (vl l).toNat).length) (r := i) (n := (hdg b (2 ^ (k + 1)) (vl l).toNat).length - i) sl1140 rfl rfl (bnd_some' rfl rfl) bnd_none (by omega) (Nat.le_refl _) (by omega) rfl) (hd 73 rfl) ?_; refine jo_h (hy_app0 (id := 5) el1140 rfl rfl (src_oo rfl (by omega)) (by omega) (by show _ ≤ 9223372036854775807; omega) rfl) (hd 74 rfl) ?_; refine jo_l (ly_as rfl) (hd 4 rfl) ?_; refine jo_nil ?_; refine jc_ret ?_
        refine ⟨[5], _, (.o 0 0 0 ((hdg b (2 ^ (k + 1)) (vl l).toNat).length - i)), (.cons rfl .nil), rfl, rfl, (by decide), (idless_cons ints_id idless_nil), ?_⟩
        exact ⟨by rw [hR1l], by show [(⟨3, 1, 0, true, ints .i64 (((hdg b (2 ^ (k + 1)) (vl l).toNat).drop i).take ((hdg b (2 ^ (k + 1)) (vl l).toNat).length - i))⟩ : Ob)] = [⟨3, 1, 0, true, ints .i64 (hdg b 1 (vl l).toNat)⟩]; rw [List.take_of_length_le (by rw [List.length_drop]; exact Nat.le_refl _), hiz, hdr]⟩
end Go.Proofs.Ytpldmajdiljoaaa.Vc

/- Contracts of numeral.text, good, Print. -/
namespace Go.Proofs.Ytpldmajdiljoaaa.Vc
open Go Go.RowKit
set_option maxHeartbeats 4000000 in
theorem text_s (l : List Int) (hl : l.length < 1099511627776) (hr : rng 36 l) : Spec Try.prog 116 [.n false .i64 l] (fun o => o = .ret (.n true .u8 (bytesI (txt l)))) := by
  refine spec_of' [(0, .n false .i64 l)] rfl Try.func116 rfl (Nat.le_of_ble_eq_true rfl) fun Γ hN hds hL hR => ?_
  have hd : ∀ d, Nat.blt d 23 = true → d < Γ.N := fun d h => by rw [hN]; exact Nat.le_of_ble_eq_true h
  refine jc_seq ?_; refine jc_region ?_; refine jo_l (ly_as rfl) (hd 2 rfl) ?_; refine jo_nil ?_; refine jc_seq ?_; refine jc_region ?_; refine jo_l (ly_mv rfl) (hd 6 rfl) ?_; refine jo_l (ly_lenn sl1140 rfl) (hd 7 rfl) ?_; refine jo_h (hy_mk (m := l.length) el1144 rfl rfl rfl (by show 1 * l.length ≤ _; omega) (by unfold maxLen; omega) rfl) (hd 8 rfl) ?_; refine jo_l (ly_as rfl) (hd 3 rfl) ?_; refine jo_nil ?_; refine jc_seq ?_; refine jc_seq ?_; refine jc_H (H' := [⟨5, 1, 0, true, ints .u8 (cpI (l.map ltr) 0)⟩]) (by rw [← cpI_0, List.length_map]; rfl) ?_; refine jc_region ?_; refine jo_l (ly_mv rfl) (hd 9 rfl) ?_; refine jo_l (ly_lenn sl1140 rfl) (hd 10 rfl) ?_; refine jo_l (ly_mv rfl) (hd 11 rfl) ?_; refine jo_nil ?_; refine jc_block ?_
  refine jc_loopF (G := Nat) (fun i => i ≤ l.length) (fun i => [(11, .i .i64 (i : Int)), (4, .u), (5, .u), (12, .u), (13, .u), (14, .u), (15, .u), (16, .u), (17, .u), (18, .u), (19, .u), (20, .u), (21, .u)]) (fun i => [⟨5, 1, 0, true, ints .u8 (cpI (l.map ltr) i)⟩]) (fun i => l.length - i) 0 ?_ ?_ rfl ?_
  · exact Nat.zero_le _
  · exact (.cons rfl (.u (.u (.u (.u (.u (.u (.u (.u (.u (.u (.u (.u .nil)))))))))))))
  · rintro i hi
    have hcl := cpI_len (l := l.map ltr) (i := i) (by rw [List.length_map]; exact hi)
    rw [List.length_map] at hcl
    have hx := rng_getD (by decide) hr i
    refine jc_seq ?_; refine jc_region ?_; refine jo_l (ly_lt rfl rfl) (hd 12 rfl) ?_; refine jo_nil ?_; refine jc_seq ?_
    refine jc_if rfl (fun h1 => ?_) (fun h1 => ?_)
    · refine jc_skip ?_; refine jc_seq ?_; refine jc_block ?_; refine jc_seq ?_; refine jc_region ?_; refine jo_l (ly_mv rfl) (hd 13 rfl) ?_; refine jo_l (ly_ian (i := i) sl1140 rfl rfl (by first | rfl | omega) (by omega)) (hd 14 rfl) ?_; refine jo_l (ly_ldq one3 rfl rfl) (hd 15 rfl) ?_; refine jo_l (ly_as rfl) (hd 4 rfl) ?_; refine jo_l (ly_as rfl) (hd 5 rfl) ?_; refine jo_nil ?_; refine jc_region ?_; refine jo_l (ly_mv rfl) (hd 16 rfl) ?_; refine jo_l (ly_mv rfl) (hd 17 rfl) ?_; refine jo_l (ly_mv rfl) (hd 18 rfl) ?_; refine jo_l (ly_ixs (b := ltrTab) (i := (l.getD i 0).toNat) und9 (by kernel_rfl) rfl (by omega) (by show _ < 36; omega)) (hd 19 rfl) ?_; refine jo_l (ly_ia (i := i) sl1144 rfl rfl rfl (by first | rfl | omega) (by omega) rfl) (hd 20 rfl) ?_; refine jo_st (sy_storei rfl rfl rfl one5 (by first | omega | (dsimp only; omega))) ?_; refine jo_nil ?_; refine jc_region ?_; refine jo_l (ly_add rfl rfl (r := ((i + 1 : Nat) : Int)) (by rw [wrap_i64 (by omega) (by omega)]; omega)) (hd 21 rfl) ?_; refine jo_l (ly_mv rfl) (hd 11 rfl) ?_; refine jo_nil ?_
      refine ⟨i + 1, ?_, ?_, (by show [(⟨5, 1, 0, true, ints .u8 _⟩ : Ob)] = [⟨5, 1, 0, true, ints .u8 _⟩]; rw [← cpI_set (by rw [List.length_map]; omega), txt_getD (by omega)]; rfl), cov_n 26 rfl rfl ?_⟩
      · omega
      · omega
      · exact (.cons rfl (.u (.u (.u (.u (.u (.u (.u (.u (.u (.u (.u (.u .nil)))))))))))))
    · refine jc_exit ?_; refine jc_seq ?_
      obtain rfl : i = l.length := by omega
      refine jc_frz (k := .u8) (l := cpI (l.map ltr) l.length) (l' := bytesI (txt l)) 3 rfl rfl (by rw [hcl]; omega) (by rw [txt_I, List.drop_zero, List.take_of_length_le (by omega)]; have h := cpI_all (l.map ltr); rwa [List.length_map] at h) hL ?_; refine jc_region ?_; refine jo_l (ly_mv rfl) (hd 22 rfl) ?_; refine jo_l (ly_as rfl) (hd 2 rfl) ?_; refine jo_nil ?_; refine jc_ret ?_
      refine ⟨_, _, (.cons rfl .nil), .n, ?_⟩
      rfl

set_option maxHeartbeats 4000000 in
theorem good_y (b : Nat) (hb : 2 ≤ b) (hb2 : b ≤ 36) : Spec Try.prog 112 [.i .i64 (b : Int)] (fun o => o = .ret (.b true)) := by
  refine spec_of' [(0, .i .i64 (b : Int))] rfl Try.func112 rfl (Nat.le_of_ble_eq_true rfl) fun Γ hN hds hL hR => ?_
  have hd : ∀ d, Nat.blt d 9 = true → d < Γ.N := fun d h => by rw [hN]; exact Nat.le_of_ble_eq_true h
  refine jc_seq ?_; refine jc_region ?_; refine jo_l (ly_as rfl) (hd 2 rfl) ?_; refine jo_nil ?_; refine jc_seq ?_; refine jc_region ?_; refine jo_l (ly_mv rfl) (hd 3 rfl) ?_; refine jo_l (ly_tt (ly_ge rfl rfl) (by omega)) (hd 4 rfl) ?_; refine jo_l (ly_mv rfl) (hd 5 rfl) ?_; refine jo_g 5 rfl rfl (ly_mv rfl) (hd 6 rfl) ?_; refine jo_g 5 rfl rfl (ly_tt (ly_le rfl rfl) (by omega)) (hd 7 rfl) ?_; refine jo_l (ly_pick_t rfl rfl) (hd 8 rfl) ?_; refine jo_l (ly_as rfl) (hd 2 rfl) ?_; refine jo_nil ?_; refine jc_ret ?_
  refine ⟨_, _, (.cons rfl .nil), .b, ?_⟩
  exact rfl

set_option maxHeartbeats 4000000 in
theorem Print_s (l : List Int) (b : Nat) (hl : l.length ≤ 1048576) (hu : u64s l) (hlb : 2 ≤ b) (hb2 : b ≤ 36) : Spec Try.prog 85 [.n false .u64 l, .i .i64 (b : Int)] (fun o => o = .ret (.t [.s (txt (hdg b 1 (vl l).toNat)), .i .i64 0])) := by
  refine spec_of' [(0, .n false .u64 l), (1, .i .i64 (b : Int))] rfl Try.func85 rfl (Nat.le_of_ble_eq_true rfl) fun Γ hN hds hL hR => ?_
  have hd : ∀ d, Nat.blt d 14 = true → d < Γ.N := fun d h => by rw [hN]; exact Nat.le_of_ble_eq_true h
  have hRl : (hdg b 1 (vl l).toNat).length ≤ 67108864 := by rw [hdg_le]; have h1 := digs_le_len hu hlb; omega
  refine jc_seq ?_; refine jc_region ?_; refine jo_l (ly_as rfl) (hd 4 rfl) ?_; refine jo_l (ly_as rfl) (hd 5 rfl) ?_; refine jo_nil ?_; refine jc_seq ?_; refine jc_seq ?_; refine jc_region ?_; refine jo_l (ly_mv rfl) (hd 6 rfl) ?_
  refine jo_call Try.f112 (good_y b hlb hb2) rfl Try.func112 rfl rfl (ovL_cons rfl ovL_nil) (.cons .i .nil) (hd 7 rfl) ?_ (fun ch hp => by simp at hp)
  rintro y hy; injection hy with hy; subst hy; refine jo_l (ly_not rfl) (hd 8 rfl) ?_; refine jo_nil ?_; refine jc_litf rfl ?_; refine jc_skip ?_; refine jc_seq ?_; refine jc_region ?_; refine jo_l (ly_mv rfl) (hd 9 rfl) ?_; refine jo_l (ly_mv rfl) (hd 10 rfl) ?_
  refine jo_callN Try.f117 (all_n l b hl hu hlb hb2) (fun o G ⟨_, h⟩ => h ▸ idless_cons ints_id idless_nil) rfl Try.func117 rfl rfl (ovL_cons rfl (ovL_cons rfl ovL_nil)) (.cons .n (.cons .i .nil)) (hd 11 rfl) ?_ (fun ch G hp => by simp at hp)
  rintro y G ⟨hy, rfl⟩; injection hy with hy; subst hy
  show JO _ _ _ _ ((11, .o 0 0 0 (hdg b 1 (vl l).toNat).length) :: _) _ _
  refine jo_frz (k := .i64) (l := (hdg b 1 (vl l).toNat)) (l' := (hdg b 1 (vl l).toNat)) 11 rfl rfl (by omega) (by rw [List.drop_zero, List.take_length]) hL ?_
  refine jo_call Try.f116 (text_s (hdg b 1 (vl l).toNat) (by omega) (rng36 hb2 (hdg_rng hlb _ _))) rfl Try.func116 rfl rfl (ovL_cons rfl ovL_nil) (.cons .n .nil) (hd 12 rfl) ?_ (fun ch hp => by simp at hp)
  rintro y hy; injection hy with hy; subst hy; refine jo_l (ly_b2s undS1144 und5 und9 rfl) (hd 13 rfl) ?_; refine jo_l (ly_as rfl) (hd 4 rfl) ?_; refine jo_l (ly_as rfl) (hd 5 rfl) ?_; refine jo_nil ?_; refine jc_ret ?_
  refine ⟨_, _, (.cons rfl (.cons rfl .nil)), (.t1 .s (.t1 .i .t0)), ?_⟩
  exact rfl

end Go.Proofs.Ytpldmajdiljoaaa.Vc

/- Contract of numeral.build of at most 12 digits. -/
namespace Go.Proofs.Ytpldmajdiljoaaa.Vc
open Go Go.RowKit
end Go.Proofs.Ytpldmajdiljoaaa.Vc

/- Contract of numeral.Parse where all are digits. -/
namespace Go.Proofs.Ytpldmajdiljoaaa.Vc
open Go Go.RowKit
end Go.Proofs.Ytpldmajdiljoaaa.Vc

/- Contracts of surdlaw05.lives, NumeralNames, right. -/
namespace Go.Proofs.Ytpldmajdiljoaaa.Vc
open Go Go.RowKit
end Go.Proofs.Ytpldmajdiljoaaa.Vc

/- Contract of mul.Pow. -/
namespace Go.Proofs.Ytpldmajdiljoaaa.Vc
open Go Go.RowKit
end Go.Proofs.Ytpldmajdiljoaaa.Vc

/- Contract of surdref05.Digits. -/
namespace Go.Proofs.Ytpldmajdiljoaaa.Vc
open Go Go.RowKit
end Go.Proofs.Ytpldmajdiljoaaa.Vc

/- Contracts of surdlaw05.ints, surdref05.Print, numeral.Length, Digits. -/
namespace Go.Proofs.Ytpldmajdiljoaaa.Vc
open Go Go.RowKit
end Go.Proofs.Ytpldmajdiljoaaa.Vc

/- Contract of numeral.build. -/
namespace Go.Proofs.Ytpldmajdiljoaaa.Vc
open Go Go.RowKit
end Go.Proofs.Ytpldmajdiljoaaa.Vc

/- The contract of surdlaw05.NumeralBack. -/
namespace Go.Proofs.Ytpldmajdiljoaaa.Vc
open Go Go.RowKit
end Go.Proofs.Ytpldmajdiljoaaa.Vc

/- Contracts of whole.Print, whole.Parse. -/
namespace Go.Proofs.Ytpldmajdiljoaaa.Vc
open Go Go.RowKit
end Go.Proofs.Ytpldmajdiljoaaa.Vc

/- The contract of surdlaw06.WholeBack. -/
namespace Go.Proofs.Ytpldmajdiljoaaa.Vc
open Go Go.RowKit
end Go.Proofs.Ytpldmajdiljoaaa.Vc

/- nat.Add with an own row. -/
namespace Go.Proofs.Ytpldmajdiljoaaa.Vc
open Go Go.RowKit
end Go.Proofs.Ytpldmajdiljoaaa.Vc

/- numeral.build with an own row. -/
namespace Go.Proofs.Ytpldmajdiljoaaa.Vc
open Go Go.RowKit
end Go.Proofs.Ytpldmajdiljoaaa.Vc

/- Contracts of surdlaw05.same, numeral.Build, surdref05.Build. -/
namespace Go.Proofs.Ytpldmajdiljoaaa.Vc
open Go Go.RowKit
end Go.Proofs.Ytpldmajdiljoaaa.Vc

/- Contracts of numeral.Parse with an own row, surdref05.Parse. -/
namespace Go.Proofs.Ytpldmajdiljoaaa.Vc
open Go Go.RowKit
end Go.Proofs.Ytpldmajdiljoaaa.Vc

/- Contracts of surdref06.Digits, Number. -/
namespace Go.Proofs.Ytpldmajdiljoaaa.Vc
open Go Go.RowKit
end Go.Proofs.Ytpldmajdiljoaaa.Vc

/- Contract of surdref06.Parse. -/
namespace Go.Proofs.Ytpldmajdiljoaaa.Vc
open Go Go.RowKit
end Go.Proofs.Ytpldmajdiljoaaa.Vc

/- Contract of surdref06.Print. -/
namespace Go.Proofs.Ytpldmajdiljoaaa.Vc
open Go Go.RowKit
end Go.Proofs.Ytpldmajdiljoaaa.Vc

/- Contracts of whole.Parse with an own row. -/
namespace Go.Proofs.Ytpldmajdiljoaaa.Vc
open Go Go.RowKit
end Go.Proofs.Ytpldmajdiljoaaa.Vc

/- The contract of surdlaw06.WholeTexts. -/
namespace Go.Proofs.Ytpldmajdiljoaaa.Vc
open Go Go.RowKit
end Go.Proofs.Ytpldmajdiljoaaa.Vc

/- Contract of nat.Times. -/
namespace Go.Proofs.Ytpldmajdiljoaaa.Vc
open Go Go.RowKit
end Go.Proofs.Ytpldmajdiljoaaa.Vc

/- Contracts of nat.Left of 1, roots.newton. -/
namespace Go.Proofs.Ytpldmajdiljoaaa.Vc
open Go Go.RowKit
end Go.Proofs.Ytpldmajdiljoaaa.Vc

/- Contracts of roots.Root, surdtop.works. -/
namespace Go.Proofs.Ytpldmajdiljoaaa.Vc
open Go Go.RowKit
end Go.Proofs.Ytpldmajdiljoaaa.Vc

/- Contracts of surdtop.small, div.Gcd, Divides. -/
namespace Go.Proofs.Ytpldmajdiljoaaa.Vc
open Go Go.RowKit
set_option maxHeartbeats 4000000 in
theorem Gcd_v (l l2 : List Int) (x y : Nat) (hl : l.length ≤ 1048576) (hl2 : l2.length ≤ 1048576) (hu : u64s l) (hu2 : u64s l2) (hx : vl l = (x : Int)) (hy : vl l2 = (y : Int)) : Spec Try.prog 60 [.n false .u64 l, .n false .u64 l2] (fun o => o = .ret (.n false .u64 (lm ((Nat.gcd x y : Nat) : Int)))) := by
  refine spec_of' [(0, .n false .u64 l), (1, .n false .u64 l2)] rfl Try.func60 rfl (Nat.le_of_ble_eq_true rfl) fun Γ hN hds hL hR => ?_
  have hd : ∀ d, Nat.blt d 23 = true → d < Γ.N := fun d h => by rw [hN]; exact Nat.le_of_ble_eq_true h
  have hlx : lenV (x : Int) ≤ 67108864 := by have h9 := lenV_64 (s := false) hu; rw [show sv false l = (x : Int) from hx] at h9; omega
  have hly : lenV (y : Int) ≤ 67108864 := by have h9 := lenV_64 (s := false) hu2; rw [show sv false l2 = (y : Int) from hy] at h9; omega
  have hNa : Spec Try.prog 71 [.n false .u64 l] (fun o => o = .ret (.n false .u64 (lm (x : Int)))) := by have h := Norm_s l (by omega); rw [trm_lm hu hx] at h; exact h.nn
  have hNb : Spec Try.prog 71 [.n false .u64 l2] (fun o => o = .ret (.n false .u64 (lm (y : Int)))) := by have h := Norm_s l2 (by omega); rw [trm_lm hu2 hy] at h; exact h.nn
  refine jc_seq ?_; refine jc_region ?_; refine jo_l (ly_as rfl) (hd 4 rfl) ?_; refine jo_nil ?_; refine jc_seq ?_; refine jc_region ?_; refine jo_l (ly_mv rfl) (hd 7 rfl) ?_
  refine jo_call Try.f71 (hNa) rfl Try.func71 rfl rfl (ovL_cons rfl ovL_nil) (.cons .n .nil) (hd 8 rfl) ?_ (fun ch hp => by simp at hp)
  rintro y hy; injection hy with hy; subst hy; refine jo_l (ly_mv rfl) (hd 9 rfl) ?_
  refine jo_call Try.f71 (hNb) rfl Try.func71 rfl rfl (ovL_cons rfl ovL_nil) (.cons .n .nil) (hd 10 rfl) ?_ (fun ch hp => by simp at hp)
  rintro y hy; injection hy with hy; subst hy; refine jo_l (ly_as rfl) (hd 0 rfl) ?_; refine jo_l (ly_as rfl) (hd 1 rfl) ?_; refine jo_nil ?_; refine jc_seq ?_; refine jc_block ?_
  refine jc_loopF (G := Nat × Nat) (fun g => Nat.gcd g.1 g.2 = Nat.gcd x y ∧ lenV (g.1 : Int) ≤ 67108864 ∧ lenV (g.2 : Int) ≤ 67108864) (fun g => [(0, .n false .u64 (lm (g.1 : Int))), (1, .n false .u64 (lm (g.2 : Int))), (5, .u), (6, .u), (11, .u), (12, .u), (13, .u), (14, .u), (15, .u), (16, .u), (17, .u), (18, .u), (19, .u), (20, .u), (21, .u)]) (fun _ => _) (fun g => g.2) (x, y) ?_ ?_ rfl ?_
  · exact ⟨rfl, hlx, hly⟩
  · exact (.cons rfl (.cons rfl (.u (.u (.u (.u (.u (.u (.u (.u (.u (.u (.u (.u (.u .nil)))))))))))))))
  · rintro ⟨u, v⟩ ⟨hc1, hc2, hc3⟩
    dsimp only at hc1 hc2 hc3
    have hmu := lenV_lm hc2
    have hmv := lenV_lm hc3
    refine jc_seq ?_; refine jc_seq ?_; refine jc_region ?_; refine jo_l (ly_mv rfl) (hd 11 rfl) ?_; refine jo_l (ly_lenn sl28 rfl) (hd 12 rfl) ?_; refine jo_l (ly_gt rfl rfl) (hd 13 rfl) ?_; refine jo_nil ?_
    refine jc_if rfl (fun h1 => ?_) (fun h1 => ?_)
    · have hv0 : v ≠ 0 := fun e => by subst e; have h9 : (0 : Int) < ((lm ((0 : Nat) : Int)).length : Int) := h1; rw [show ((0 : Nat) : Int) = 0 from rfl, lm_0] at h9; simp at h9
      have hDv : Spec Try.prog 100 [.n false .u64 (lm (u : Int)), .n false .u64 (lm (v : Int))] (fun o => o = .ret (.t [.n false .u64 (lm (qn (u : Int) (v : Int))), .n false .u64 (lm ((u % v : Nat) : Int))])) := by have h := divide_v (u : Int) (v : Int) (by omega) (by omega) (by omega); rwa [rn_nt] at h
      refine jc_skip ?_; refine jc_block ?_; refine jc_seq ?_; refine jc_region ?_; refine jo_l (ly_mv rfl) (hd 15 rfl) ?_; refine jo_l (ly_mv rfl) (hd 16 rfl) ?_
      refine jo_call Try.f100 (hDv) rfl Try.func100 rfl rfl (ovL_cons rfl (ovL_cons rfl ovL_nil)) (.cons .n (.cons .n .nil)) (hd 17 rfl) ?_ (fun ch hp => by simp at hp)
      rintro y hy; injection hy with hy; subst hy; refine jo_l (ly_mv rfl) (hd 14 rfl) ?_; refine jo_l (ly_ext rfl rfl) (hd 18 rfl) ?_; refine jo_l (ly_ext rfl rfl) (hd 19 rfl) ?_; refine jo_l (ly_as rfl) (hd 5 rfl) ?_; refine jo_l (ly_as rfl) (hd 6 rfl) ?_; refine jo_nil ?_; refine jc_region ?_; refine jo_l (ly_mv rfl) (hd 20 rfl) ?_; refine jo_l (ly_mv rfl) (hd 21 rfl) ?_; refine jo_l (ly_as rfl) (hd 0 rfl) ?_; refine jo_l (ly_as rfl) (hd 1 rfl) ?_; refine jo_nil ?_
      refine ⟨(v, u % v), ?_, ?_, rfl, cov_n 30 rfl rfl ?_⟩
      · exact ⟨by rw [← hc1]; exact gcd_step, hc3, Nat.le_trans (lenV_mono (by have := Nat.mod_le u v; dsimp only; omega)) hc2⟩
      · exact Nat.mod_lt _ (by omega)
      · exact (.cons rfl (.cons rfl (.u (.u (.u (.u (.u (.u (.u (.u (.u (.u (.u (.u (.u .nil)))))))))))))))
    · have hv0 : v = 0 := Decidable.byContradiction fun hc => h1 (by have h9 := List.length_pos_iff.2 (lm_ne (show (v : Int) ≠ 0 by omega)); show (0 : Int) < ((lm (v : Int)).length : Int); omega)
      subst hv0
      rw [Nat.gcd_zero_right] at hc1
      refine jc_exit ?_; refine jc_seq ?_; refine jc_region ?_; refine jo_l (ly_mv rfl) (hd 22 rfl) ?_; refine jo_l (ly_as rfl) (hd 4 rfl) ?_; refine jo_nil ?_; refine jc_ret ?_
      refine ⟨_, _, (.cons rfl .nil), .n, ?_⟩
      rw [← hc1]
end Go.Proofs.Ytpldmajdiljoaaa.Vc

/- The contract of surdtop.WholeBezout. -/
namespace Go.Proofs.Ytpldmajdiljoaaa.Vc
open Go Go.RowKit
theorem WMul_rv (s t : Bool) (a b : List Int) (v x : Int) (hla : a.length < 4294967296) (hlb : b.length < 4294967296) (ua : u64s a) (ub : u64s b) (hv : sv s a = v) (hx : sv t b = x) (h : lenV (v * x) ≤ 67108864) : Spec Try.prog 64 [.a [.b s, .n false .u64 a], .a [.b t, .n false .u64 b]] (fun o => o = .ret (.t [.a [.b (decide ((v * x) < 0)), .n true .u64 (lm (v * x))], .i .i64 0])) :=
  (WMul_l s t a b hla hlb ua ub).mono fun o ⟨s2, r, e, ho, hR⟩ => by
    rw [hv, hx] at hR
    rcases hR with ⟨_, h1, h2, h3⟩ | ⟨hb, _⟩
    · subst h1; subst h2; subst h3; exact ho
    · omega

theorem WAdd_rv (s t : Bool) (a b : List Int) (v x : Int) (hla : a.length < 4294967296) (hlb : b.length < 4294967296) (ua : u64s a) (ub : u64s b) (hv : sv s a = v) (hx : sv t b = x) (h : lenV (v + x) ≤ 67108864) : Spec Try.prog 65 [.a [.b s, .n false .u64 a], .a [.b t, .n false .u64 b]] (fun o => o = .ret (.t [.a [.b (decide ((v + x) < 0)), .n true .u64 (lm (v + x))], .i .i64 0])) :=
  (WAdd_l s t a b hla hlb ua ub).mono fun o ⟨s2, r, e, ho, hR⟩ => by
    rw [hv, hx] at hR
    rcases hR with ⟨_, h1, h2, h3⟩ | ⟨hb, _⟩
    · subst h1; subst h2; subst h3; exact ho
    · omega

end Go.Proofs.Ytpldmajdiljoaaa.Vc

/- Contracts of ratio.parts, norm. -/
namespace Go.Proofs.Ytpldmajdiljoaaa.Vc
open Go Go.RowKit
set_option maxHeartbeats 4000000 in
theorem parts_0 (s : Bool) (l d : List Int) (y : Nat) (hx : Rw l 0) (hy : Rw d y) (h0 : y ≠ 0) : Spec Try.prog 96 [(.a [.b s, .n false .u64 l, .n false .u64 d])] (fun o => o = .ret (.t [.b (sgq s 0), .n false .u64 (lm ((rn0 0 y : Nat) : Int)), .n false .u64 (lm ((rd0 0 y : Nat) : Int))])) := by
  refine spec_of' [(0, (.a [.b s, .n false .u64 l, .n false .u64 d]))] rfl Try.func96 rfl (Nat.le_of_ble_eq_true rfl) fun Γ hN hds hL hR => ?_
  have hd : ∀ d, Nat.blt d 42 = true → d < Γ.N := fun d h => by rw [hN]; exact Nat.le_of_ble_eq_true h
  have hNl : Spec Try.prog 71 [.n false .u64 l] (fun o => o = .ret (.n true .u64 (lm ((0 : Nat) : Int)))) := by have h := Norm_s l (by have := hx.l; omega); rw [hx.t] at h; exact h
  have hNd : Spec Try.prog 71 [.n false .u64 d] (fun o => o = .ret (.n true .u64 (lm (y : Int)))) := by have h := Norm_s d (by have := hy.l; omega); rw [hy.t] at h; exact h
  have hF1 : Spec Try.prog 58 [.i .u64 1] (fun o => o = .ret (.n true .u64 [1])) := by have h := From_s 1; rwa [if_neg (by decide)] at h
  have hly := mt lm_len0.1 h0
  refine jc_seq ?_; refine jc_region ?_; refine jo_h (hy_box (id := 0) (n := 3) rfl rfl rfl (by decide) rfl) (hd 1 rfl) ?_; refine jo_l (ly_as rfl) (hd 2 rfl) ?_; refine jo_l (ly_as rfl) (hd 3 rfl) ?_; refine jo_l (ly_as rfl) (hd 4 rfl) ?_; refine jo_nil ?_; refine jc_seq ?_; refine jc_draw (n := 9) _ rfl mixed ?_; refine ja_l2 0 [1, 2, 3, 6, 7, 8] (lo_l (ly_fa fld1028_0 rfl rfl rfl) (hd 8 rfl)) rfl (by kernel_rfl) (by kernel_rfl) (by kernel_rfl) (by kernel_rfl) (fun _ _ _ _ h => h) ?_; refine ja_l2 1 [2, 3, 6, 7, 8] (lo_l (ly_fa fld30_1 rfl rfl rfl) (hd 9 rfl)) rfl (by kernel_rfl) (by kernel_rfl) (by kernel_rfl) (by kernel_rfl) (fun _ _ _ _ h => h) ?_; refine ja_l2 2 [3, 6, 7, 8] (lo_l (ly_ld one28 rfl rfl rfl) (hd 10 rfl)) rfl (by kernel_rfl) (by kernel_rfl) (by kernel_rfl) (by kernel_rfl) (fun _ _ _ _ h => h) ?_; refine ja_l2 4 [5, 6, 7, 8] (lo_l (ly_fa fld1028_1 rfl rfl rfl) (hd 12 rfl)) rfl (by kernel_rfl) (by kernel_rfl) (by kernel_rfl) (by kernel_rfl) (fun _ _ _ _ h => h) ?_; refine ja_l2 5 [6, 7, 8] (lo_l (ly_ld one28 rfl rfl rfl) (hd 13 rfl)) rfl (by kernel_rfl) (by kernel_rfl) (by kernel_rfl) (by kernel_rfl) (fun _ _ _ _ h => h) ?_
  refine ja_1 3 ?_ rfl (by kernel_rfl)
  refine js_call Try.f71 (hNl) rfl Try.func71 rfl rfl (ovL_cons rfl ovL_nil) (.cons .n .nil) (hd 11 rfl) ?_ (fun ch hp => by simp at hp)
  rintro y hy; injection hy with hy; subst hy
  refine ja_1 6 ?_ rfl (by kernel_rfl)
  refine js_call Try.f71 (hNd) rfl Try.func71 rfl rfl (ovL_cons rfl ovL_nil) (.cons .n .nil) (hd 14 rfl) ?_ (fun ch hp => by simp at hp)
  rintro y hy; injection hy with hy; subst hy; refine ja_l 7 (lo_l (ly_as rfl) (hd 5 rfl)) rfl (by kernel_rfl) (by kernel_rfl) (by kernel_rfl) (fun _ _ _ _ h => h) ?_; refine ja_l 8 (lo_l (ly_as rfl) (hd 6 rfl)) rfl (by kernel_rfl) (by kernel_rfl) (by kernel_rfl) (fun _ _ _ _ h => h) ?_; refine ja_nil (by kernel_rfl) ?_; refine jc_seq ?_; refine jc_seq ?_; refine jc_region ?_; refine jo_l (ly_mv rfl) (hd 15 rfl) ?_; refine jo_l (ly_lenn sl28 rfl) (hd 16 rfl) ?_; refine jo_l (ly_ff (ly_eq rfl rfl) (by omega)) (hd 17 rfl) ?_; refine jo_nil ?_; refine jc_litf rfl ?_; refine jc_skip ?_; refine jc_seq ?_; refine jc_seq ?_; refine jc_region ?_; refine jo_l (ly_mv rfl) (hd 20 rfl) ?_; refine jo_l (ly_lenn sl28 rfl) (hd 21 rfl) ?_; refine jo_l (ly_tt (ly_eq rfl rfl) (by rw [show ((0 : Nat) : Int) = 0 from rfl, lm_0]; rfl)) (hd 22 rfl) ?_; refine jo_nil ?_; refine jc_litt rfl ?_; refine jc_seq ?_; refine jc_region ?_
  refine jo_call Try.f58 (hF1) rfl Try.func58 rfl rfl (ovL_cons rfl ovL_nil) (.cons .i .nil) (hd 23 rfl) ?_ (fun ch hp => by simp at hp)
  rintro y hy; injection hy with hy; subst hy; refine jo_l (ly_as rfl) (hd 2 rfl) ?_; refine jo_l (ly_as rfl) (hd 3 rfl) ?_; refine jo_l (ly_as rfl) (hd 4 rfl) ?_; refine jo_nil ?_; refine jc_ret ?_
  refine ⟨_, _, (.cons rfl (.cons rfl (.cons rfl .nil))), (.t1 .b (.t1 (.nil (fr := false) (k := .u64)) (.t1 .nn .t0))), ?_⟩
  rw [rn0_0, rd0_0 h0, lm_1n, show ((0 : Nat) : Int) = 0 from rfl, lm_0, sgq_0]

set_option maxHeartbeats 4000000 in
theorem parts_p (s : Bool) (l d : List Int) (x y : Nat) (hx : Rw l x) (hy : Rw d y) (h0 : y ≠ 0) (h1 : x ≠ 0) : Spec Try.prog 96 [(.a [.b s, .n false .u64 l, .n false .u64 d])] (fun o => o = .ret (.t [.b (sgq s x), .n false .u64 (lm ((rn0 x y : Nat) : Int)), .n false .u64 (lm ((rd0 x y : Nat) : Int))])) := by
  refine spec_of' [(0, (.a [.b s, .n false .u64 l, .n false .u64 d]))] rfl Try.func96 rfl (Nat.le_of_ble_eq_true rfl) fun Γ hN hds hL hR => ?_
  have hd : ∀ d, Nat.blt d 42 = true → d < Γ.N := fun d h => by rw [hN]; exact Nat.le_of_ble_eq_true h
  have hNl : Spec Try.prog 71 [.n false .u64 l] (fun o => o = .ret (.n true .u64 (lm (x : Int)))) := by have h := Norm_s l (by have := hx.l; omega); rw [hx.t] at h; exact h
  have hNd : Spec Try.prog 71 [.n false .u64 d] (fun o => o = .ret (.n true .u64 (lm (y : Int)))) := by have h := Norm_s d (by have := hy.l; omega); rw [hy.t] at h; exact h
  have hly := mt lm_len0.1 h0
  have hlx := mt lm_len0.1 h1
  have hGc : Spec Try.prog 60 [.n false .u64 (lm (x : Int)), .n false .u64 (lm (y : Int))] (fun o => o = .ret (.n false .u64 (lm ((Nat.gcd x y : Nat) : Int)))) := Gcd_v (lm (x : Int)) (lm (y : Int)) x y (Rw.of hx.b).l (Rw.of hy.b).l (lm_u _) (lm_u _) (Rw.of hx.b).v (Rw.of hy.b).v
  have hQx : Spec Try.prog 62 [.n false .u64 (lm (x : Int)), .n false .u64 (lm ((Nat.gcd x y : Nat) : Int))] (fun o => o = .ret (.t [.n false .u64 (lm ((rn0 x y : Nat) : Int)), .i .i64 0])) := by have h := Quo_v (x : Int) ((Nat.gcd x y : Nat) : Int) hx.b (gcd_b h0 hy.b) (by have := gcd_pos' (x := x) h0; omega); rw [qn_nt] at h; exact h
  have hQy : Spec Try.prog 62 [.n false .u64 (lm (y : Int)), .n false .u64 (lm ((Nat.gcd x y : Nat) : Int))] (fun o => o = .ret (.t [.n false .u64 (lm ((rd0 x y : Nat) : Int)), .i .i64 0])) := by have h := Quo_v (y : Int) ((Nat.gcd x y : Nat) : Int) hy.b (gcd_b h0 hy.b) (by have := gcd_pos' (x := x) h0; omega); rw [qn_nt] at h; exact h
  refine jc_seq ?_; refine jc_region ?_; refine jo_h (hy_box (id := 0) (n := 3) rfl rfl rfl (by decide) rfl) (hd 1 rfl) ?_; refine jo_l (ly_as rfl) (hd 2 rfl) ?_; refine jo_l (ly_as rfl) (hd 3 rfl) ?_; refine jo_l (ly_as rfl) (hd 4 rfl) ?_; refine jo_nil ?_; refine jc_seq ?_; refine jc_draw (n := 9) _ rfl mixed ?_; refine ja_l2 0 [1, 2, 3, 6, 7, 8] (lo_l (ly_fa fld1028_0 rfl rfl rfl) (hd 8 rfl)) rfl (by kernel_rfl) (by kernel_rfl) (by kernel_rfl) (by kernel_rfl) (fun _ _ _ _ h => h) ?_; refine ja_l2 1 [2, 3, 6, 7, 8] (lo_l (ly_fa fld30_1 rfl rfl rfl) (hd 9 rfl)) rfl (by kernel_rfl) (by kernel_rfl) (by kernel_rfl) (by kernel_rfl) (fun _ _ _ _ h => h) ?_; refine ja_l2 2 [3, 6, 7, 8] (lo_l (ly_ld one28 rfl rfl rfl) (hd 10 rfl)) rfl (by kernel_rfl) (by kernel_rfl) (by kernel_rfl) (by kernel_rfl) (fun _ _ _ _ h => h) ?_; refine ja_l2 4 [5, 6, 7, 8] (lo_l (ly_fa fld1028_1 rfl rfl rfl) (hd 12 rfl)) rfl (by kernel_rfl) (by kernel_rfl) (by kernel_rfl) (by kernel_rfl) (fun _ _ _ _ h => h) ?_; refine ja_l2 5 [6, 7, 8] (lo_l (ly_ld one28 rfl rfl rfl) (hd 13 rfl)) rfl (by kernel_rfl) (by kernel_rfl) (by kernel_rfl) (by kernel_rfl) (fun _ _ _ _ h => h) ?_
  refine ja_1 3 ?_ rfl (by kernel_rfl)
  refine js_call Try.f71 (hNl) rfl Try.func71 rfl rfl (ovL_cons rfl ovL_nil) (.cons .n .nil) (hd 11 rfl) ?_ (fun ch hp => by simp at hp)
  rintro y hy; injection hy with hy; subst hy
  refine ja_1 6 ?_ rfl (by kernel_rfl)
  refine js_call Try.f71 (hNd) rfl Try.func71 rfl rfl (ovL_cons rfl ovL_nil) (.cons .n .nil) (hd 14 rfl) ?_ (fun ch hp => by simp at hp)
  rintro y hy; injection hy with hy; subst hy; refine ja_l 7 (lo_l (ly_as rfl) (hd 5 rfl)) rfl (by kernel_rfl) (by kernel_rfl) (by kernel_rfl) (fun _ _ _ _ h => h) ?_; refine ja_l 8 (lo_l (ly_as rfl) (hd 6 rfl)) rfl (by kernel_rfl) (by kernel_rfl) (by kernel_rfl) (fun _ _ _ _ h => h) ?_; refine ja_nil (by kernel_rfl) ?_; refine jc_seq ?_; refine jc_seq ?_; refine jc_region ?_; refine jo_l (ly_mv rfl) (hd 15 rfl) ?_; refine jo_l (ly_lenn sl28 rfl) (hd 16 rfl) ?_; refine jo_l (ly_ff (ly_eq rfl rfl) (by omega)) (hd 17 rfl) ?_; refine jo_nil ?_; refine jc_litf rfl ?_; refine jc_skip ?_; refine jc_seq ?_; refine jc_seq ?_; refine jc_region ?_; refine jo_l (ly_mv rfl) (hd 20 rfl) ?_; refine jo_l (ly_lenn sl28 rfl) (hd 21 rfl) ?_; refine jo_l (ly_ff (ly_eq rfl rfl) (by omega)) (hd 22 rfl) ?_; refine jo_nil ?_; refine jc_litf rfl ?_; refine jc_skip ?_; refine jc_seq ?_; refine jc_region ?_; refine jo_l (ly_mv rfl) (hd 24 rfl) ?_; refine jo_l (ly_mv rfl) (hd 25 rfl) ?_
  refine jo_call Try.f60 (hGc) rfl Try.func60 rfl rfl (ovL_cons rfl (ovL_cons rfl ovL_nil)) (.cons .n (.cons .n .nil)) (hd 26 rfl) ?_ (fun ch hp => by simp at hp)
  rintro y hy; injection hy with hy; subst hy; refine jo_l (ly_as rfl) (hd 7 rfl) ?_; refine jo_nil ?_; refine jc_seq ?_; refine jc_draw (n := 18) _ rfl mixed ?_; refine ja_l2 0 [1, 2, 15, 16, 17] (lo_l (ly_fa fld1028_0 rfl rfl rfl) (hd 27 rfl)) rfl (by kernel_rfl) (by kernel_rfl) (by kernel_rfl) (by kernel_rfl) (fun _ _ _ _ h => h) ?_; refine ja_l 1 (lo_l (ly_fa fld30_0 rfl rfl rfl) (hd 28 rfl)) rfl (by kernel_rfl) (by kernel_rfl) (by kernel_rfl) (fun _ _ _ _ h => h) ?_; refine ja_l 2 (lo_l (ly_ld one4 rfl rfl rfl) (hd 29 rfl)) rfl (by kernel_rfl) (by kernel_rfl) (by kernel_rfl) (fun _ _ _ _ h => h) ?_; refine ja_l2 3 [5, 6, 7, 8, 11, 12, 13, 14, 15, 16, 17] (lo_l (ly_mv rfl) (hd 30 rfl)) rfl (by kernel_rfl) (by kernel_rfl) (by kernel_rfl) (by kernel_rfl) (fun _ _ _ _ h => h) ?_; refine ja_l2 4 [5, 6, 7, 8, 11, 12, 13, 14, 15, 16, 17] (lo_l (ly_mv rfl) (hd 31 rfl)) rfl (by kernel_rfl) (by kernel_rfl) (by kernel_rfl) (by kernel_rfl) (fun _ _ _ _ h => h) ?_; refine ja_l2 9 [11, 12, 13, 14, 15, 16, 17] (lo_l (ly_mv rfl) (hd 36 rfl)) rfl (by kernel_rfl) (by kernel_rfl) (by kernel_rfl) (by kernel_rfl) (fun _ _ _ _ h => h) ?_; refine ja_l2 10 [11, 12, 13, 14, 15, 16, 17] (lo_l (ly_mv rfl) (hd 37 rfl)) rfl (by kernel_rfl) (by kernel_rfl) (by kernel_rfl) (by kernel_rfl) (fun _ _ _ _ h => h) ?_
  refine ja_1 5 ?_ rfl (by kernel_rfl)
  refine js_call Try.f62 (hQx) rfl Try.func62 rfl rfl (ovL_cons rfl (ovL_cons rfl ovL_nil)) (.cons .n (.cons .n .nil)) (hd 32 rfl) ?_ (fun ch hp => by simp at hp)
  rintro y hy; injection hy with hy; subst hy; refine ja_l2 6 [8, 11, 12, 13, 14, 15, 16, 17] (lo_l (ly_ext rfl rfl) (hd 33 rfl)) rfl (by kernel_rfl) (by kernel_rfl) (by kernel_rfl) (by kernel_rfl) (fun _ _ _ _ h => h) ?_; refine ja_l2 7 [8, 11, 12, 13, 14, 15, 16, 17] (lo_l (ly_ext rfl rfl) (hd 34 rfl)) rfl (by kernel_rfl) (by kernel_rfl) (by kernel_rfl) (by kernel_rfl) (fun _ _ _ _ h => h) ?_
  refine ja_1 8 ?_ rfl (by kernel_rfl)
  refine js_call Try.f61 (mustN _) rfl Try.func61 rfl rfl (ovL_cons rfl (ovL_cons rfl ovL_nil)) (.cons .n (.cons .i .nil)) (hd 35 rfl) ?_ (fun ch hp => by simp at hp)
  rintro y hy; injection hy with hy; subst hy
  refine ja_1 11 ?_ rfl (by kernel_rfl)
  refine js_call Try.f62 (hQy) rfl Try.func62 rfl rfl (ovL_cons rfl (ovL_cons rfl ovL_nil)) (.cons .n (.cons .n .nil)) (hd 38 rfl) ?_ (fun ch hp => by simp at hp)
  rintro y hy; injection hy with hy; subst hy; refine ja_l2 12 [14, 15, 16, 17] (lo_l (ly_ext rfl rfl) (hd 39 rfl)) rfl (by kernel_rfl) (by kernel_rfl) (by kernel_rfl) (by kernel_rfl) (fun _ _ _ _ h => h) ?_; refine ja_l2 13 [14, 15, 16, 17] (lo_l (ly_ext rfl rfl) (hd 40 rfl)) rfl (by kernel_rfl) (by kernel_rfl) (by kernel_rfl) (by kernel_rfl) (fun _ _ _ _ h => h) ?_
  refine ja_1 14 ?_ rfl (by kernel_rfl)
  refine js_call Try.f61 (mustN _) rfl Try.func61 rfl rfl (ovL_cons rfl (ovL_cons rfl ovL_nil)) (.cons .n (.cons .i .nil)) (hd 41 rfl) ?_ (fun ch hp => by simp at hp)
  rintro y hy; injection hy with hy; subst hy; refine ja_l 15 (lo_l (ly_as rfl) (hd 2 rfl)) rfl (by kernel_rfl) (by kernel_rfl) (by kernel_rfl) (fun _ _ _ _ h => h) ?_; refine ja_l 16 (lo_l (ly_as rfl) (hd 3 rfl)) rfl (by kernel_rfl) (by kernel_rfl) (by kernel_rfl) (fun _ _ _ _ h => h) ?_; refine ja_l 17 (lo_l (ly_as rfl) (hd 4 rfl)) rfl (by kernel_rfl) (by kernel_rfl) (by kernel_rfl) (fun _ _ _ _ h => h) ?_; refine ja_nil (by kernel_rfl) ?_; refine jc_ret ?_
  refine ⟨_, _, (.cons rfl (.cons rfl (.cons rfl .nil))), (.t1 .b (.t1 .n (.t1 .n .t0))), ?_⟩
  rw [sgq_p h1]

theorem parts_s (s : Bool) (l d : List Int) (x y : Nat) (hx : Rw l x) (hy : Rw d y) (h0 : y ≠ 0) : Spec Try.prog 96 [(.a [.b s, .n false .u64 l, .n false .u64 d])] (fun o => o = .ret (.t [.b (sgq s x), .n false .u64 (lm ((rn0 x y : Nat) : Int)), .n false .u64 (lm ((rd0 x y : Nat) : Int))])) := by
  by_cases h1 : x = 0
  · subst h1; exact parts_0 s l d y hx hy h0
  · exact parts_p s l d x y hx hy h0 h1

set_option maxHeartbeats 4000000 in
theorem qnorm_s (s : Bool) (l d : List Int) (x y : Nat) (hx : Rw l x) (hy : Rw d y) (h0 : y ≠ 0) : Spec Try.prog 44 [(.a [.b s, .n false .u64 l, .n false .u64 d])] (fun o => o = .ret (.a [.b (sgq s x), .n false .u64 (lm ((rn0 x y : Nat) : Int)), .n false .u64 (lm ((rd0 x y : Nat) : Int))])) := by
  refine spec_of' [(0, (.a [.b s, .n false .u64 l, .n false .u64 d]))] rfl Try.func44 rfl (Nat.le_of_ble_eq_true rfl) fun Γ hN hds hL hR => ?_
  have hd : ∀ d, Nat.blt d 17 = true → d < Γ.N := fun d h => by rw [hN]; exact Nat.le_of_ble_eq_true h
  refine jc_seq ?_; refine jc_region ?_; refine jo_h (hy_box (id := 0) (n := 3) rfl rfl rfl (by decide) rfl) (hd 1 rfl) ?_; refine jo_h (hy_alloc (id := 1) zero1028 (by decide) rfl (by decide) rfl) (hd 2 rfl) ?_; refine jo_nil ?_; refine jc_seq ?_; refine jc_region ?_; refine jo_l (ly_lda agg1028 rfl rfl rfl rfl) (hd 7 rfl) ?_
  refine jo_call Try.f96 (parts_s s l d x y hx hy h0) rfl Try.func96 rfl rfl (ovL_cons rfl ovL_nil) (.cons (.a1 .b (.a1 .n (.a1 .n .a0))) .nil) (hd 8 rfl) ?_ (fun ch hp => by simp at hp)
  rintro y hy; injection hy with hy; subst hy; refine jo_l (ly_mv rfl) (hd 6 rfl) ?_; refine jo_l (ly_ext rfl rfl) (hd 9 rfl) ?_; refine jo_l (ly_ext rfl rfl) (hd 10 rfl) ?_; refine jo_l (ly_ext rfl rfl) (hd 11 rfl) ?_; refine jo_l (ly_as rfl) (hd 3 rfl) ?_; refine jo_l (ly_as rfl) (hd 4 rfl) ?_; refine jo_l (ly_as rfl) (hd 5 rfl) ?_; refine jo_nil ?_; refine jc_seq ?_; refine jc_region ?_; refine jo_l (ly_mv rfl) (hd 12 rfl) ?_; refine jo_l (ly_mv rfl) (hd 13 rfl) ?_; refine jo_l (ly_build (is := [0, 1]) (xs := [.tmp 12, .tmp 13]) zero30 pls30_0_1 rfl (ovL_cons rfl (ovL_cons rfl ovL_nil)) rfl (by first | (simp [plsOk, cellsV]; done) | (simp [plsOk, cellsV, old]; done)) (all_of rfl) rfl) (hd 14 rfl) ?_; refine jo_l (ly_mv rfl) (hd 15 rfl) ?_; refine jo_l (ly_build (is := [0, 1]) (xs := [.tmp 14, .tmp 15]) zero1028 pls1028_0_1 rfl (ovL_cons rfl (ovL_cons rfl ovL_nil)) rfl ⟨rfl, (by decide), rfl, (by decide), trivial⟩ (all_of rfl) rfl) (hd 16 rfl) ?_; refine jo_st (sy_store rfl rfl rfl siz1028 rfl rfl (Nat.le_of_ble_eq_true rfl)) ?_; refine jo_nil ?_; refine jc_ret ?_
  refine ⟨_, _, (.cons (ResV.cell agg1028 rfl rfl rfl rfl) .nil), (.a1 .b (.a1 .n (.a1 .n .a0))), ?_⟩
  exact rfl

end Go.Proofs.Ytpldmajdiljoaaa.Vc
