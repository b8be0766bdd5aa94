/- surdlaw07.RatioBack answers true for every rational of bulk at most 1048576, and leaves its input as it was: Parse undoes Print, Unchain undoes Chain Texts joined: Qe, Xa, Jm, Xz, Za, Qf, Zb, Zc, Zd, Zf, Zg, Zh, Zi, Zj, Zo, Qg, Qh, Qi, Qj, Qk, Ql, Qn, Qo, Qp, Qs, Qt, Qu, Qv, Qw, Qx, Sa, Sc, Se, Sf, Sg, Sh, Si, Sk, Sm, Sn. -/
import Derived.Test.YtpldmajdiljoaaaGreatK6
set_option linter.unusedVariables false
set_option linter.unusedSimpArgs false
set_option maxHeartbeats 4000000
namespace Go.Proofs.YtpldmajdiljoaaaGreat.Vc
open Go Go.RowKit
theorem digits_n (l : List Int) (b m : Nat) (hl : l.length ≤ 1048576) (hu : u64s l) (hb : 2 ≤ b) (hb2 : b ≤ 36) (hm : m ≤ 1099511627776) : SpecM Tryz.prog 123 [.n false .u64 l, .i .i64 (b : Int), .i .i64 (m : Int)] [] (fun o G => o = .ret (.o 0 0 0 (hdg b m (vl l).toNat).length) ∧ G = [⟨3, 1, 0, true, ints .i64 (hdg b m (vl l).toNat)⟩]) := by
  refine specS_of [(0, .n false .u64 l), (1, .i .i64 (b : Int)), (2, .i .i64 (m : Int))] rfl Tryz.func123 rfl (zlb rfl) fun Γ hN hds hL hR => ?_
  have hd := hdOf 102 hN
  have hlenl := lenN_le l
  have hv0 := vl_nonneg hu
  refine zsr <| zas rfl (hd 6 rfl) <| jo_nil <| zsr <| zas rfl (hd 7 rfl) <| jo_nil <| jc_seq <| jc_own0 (id := 0) 7 3 1 rfl rfl <| jc_region <| zmv rfl (hd 17 rfl) ?_
  refine jo_call Tryz.f129 (word_s b hb hb2) rfl Tryz.func129 rfl rfl (ovL_cons rfl ovL_nil) (.cons .i .nil) (hd 18 rfl) ?_ (fun ch hp => by simp at hp)
  rintro y ⟨n, hy, hn1, hn2, hn3⟩; injection hy with hy; subst hy; refine zmv rfl (hd 16 rfl) <| jo_l (ly_ext rfl rfl) (hd 19 rfl) <| jo_l (ly_ext rfl rfl) (hd 20 rfl) <| zas rfl (hd 8 rfl) <| zas rfl (hd 9 rfl) <| jo_nil <| jc_seq <| jc_block ?_
  refine jc_loopD (G := List Int × Nat × List Int × List Int) 1 (fun g => u64s g.1 ∧ g.1.length ≤ 1048576 ∧ rng b g.2.2.1 ∧ vb b g.2.2.1 + (b : Int) ^ g.2.2.1.length * vl g.1 = vl l ∧ g.2.2.1.length ≤ 67108928 ∧ g.2.2.1.length ≤ g.2.2.2.length ∧ g.2.2.2.take g.2.2.1.length = g.2.2.1) (fun g => [(0, .n false .u64 g.1), (7, .o 0 g.2.1 0 g.2.2.1.length), (10, .u), (11, .u), (12, .u), (21, .u), (22, .u), (23, .u), (24, .u), (25, .u), (26, .u), (27, .u), (28, .u), (29, .u), (30, .u), (31, .u), (32, .u), (33, .u), (34, .u), (35, .u), (36, .u), (37, .u), (38, .u), (39, .u), (40, .u), (41, .u), (42, .u), (43, .u), (44, .u), (45, .u), (46, .u), (47, .u), (48, .u), (49, .u), (50, .u), (51, .u), (52, .u), (53, .u), (54, .u), (55, .u), (56, .u), (57, .u)]) (fun g => [⟨3, 1, g.2.1, true, ints .i64 g.2.2.2⟩]) (fun g => (vl g.1).toNat) (l, 0, [], []) ?_ ?_ rfl hR rfl (fun _ _ => rfl) (fun g _ => .cons ints_id .nil) ?_
  · exact ⟨hu, hl, (fun x hx => by simp at hx), by simp [vb], Nat.zero_le _, Nat.le_refl _, rfl⟩
  · exact (.cons rfl (.cons rfl (.u (.u (.u (.u (.u (.u (.u (.u (.u (.u (.u (.u (.u (.u (.u (.u (.u (.u (.u (.u (.u (.u (.u (.u (.u (.u (.u (.u (.u (.u (.u (.u (.u (.u (.u (.u (.u (.u (.u (.u .nil))))))))))))))))))))))))))))))))))))))))))
  · rintro ⟨A, ver, acc, C⟩ ⟨uA, hA, hr, hI, hal, hC1, hC2⟩
    dsimp only at uA hA hr hI hal hC1 hC2
    have hlA := lenN_le A
    have hvA := vl_nonneg uA
    refine jc_seq <| zsr <| zmv rfl (hd 21 rfl) ?_
    refine jo_call Tryz.f39 (Length_s A (by omega) uA) rfl Tryz.func39 rfl rfl (ovL_cons rfl ovL_nil) (.cons .n .nil) (hd 22 rfl) ?_ (fun ch hp => by simp at hp)
    rintro _ ⟨⟩; refine jo_l (ly_gt rfl rfl) (hd 23 rfl) <| jo_nil ?_
    refine jc_if rfl (fun h1 => ?_) (fun h1 => ?_)
    · have hvp : 0 < vl A := by
        rcases Int.lt_or_le 0 (vl A) with h | h
        · exact h
        · have h2 := (lenN_zero uA).2 (by omega)
          omega
      have hcap := dg_cap (L := 1048576) hb hr hvp hu hl hI
      have hbn : (0 : Int) < ((b ^ n : Nat) : Int) := by exact_mod_cast Nat.pow_pos (by omega)
      have hbn2 : ((b ^ n : Nat) : Int) ≤ 9223372036854775808 := by omega
      have hq0 : 0 ≤ vl A / ((b ^ n : Nat) : Int) := Int.ediv_nonneg hvA (by omega)
      have hrl : vl A % ((b ^ n : Nat) : Int) < 18446744073709551616 := by have := Int.emod_lt_of_pos (vl A) hbn; omega
      have hfA : lenV (vl A) ≤ 67108864 := by rw [← lenN_lenV uA rfl]; omega
      have hlq : (lm (vl A / ((b ^ n : Nat) : Int))).length ≤ 1048576 := lenV_lm (Nat.le_trans (lenV_mono (w := vl A) (by have := Int.ediv_le_self ((b ^ n : Nat) : Int) hvA; omega)) hfA)
      refine jc_skip <| jc_block <| zsr <| zmv rfl (hd 25 rfl) <| zmv rfl (hd 26 rfl) ?_
      refine jo_call Tryz.f130 (Through_s A ((b ^ n : Nat) : Int) (by omega) uA hbn (by omega) (by omega)) rfl Tryz.func130 rfl rfl (ovL_cons rfl (ovL_cons rfl ovL_nil)) (.cons .n (.cons .i .nil)) (hd 27 rfl) ?_ (fun ch hp => by simp at hp)
      rintro _ ⟨⟩; refine zmv rfl (hd 24 rfl) <| jo_l (ly_ext rfl rfl) (hd 28 rfl) <| jo_l (ly_ext rfl rfl) (hd 29 rfl) <| jo_l (ly_ext rfl rfl) (hd 30 rfl) <| zas rfl (hd 10 rfl) <| zas rfl (hd 11 rfl) <| zas rfl (hd 12 rfl) <| jo_nil <| jc_seq <| zsr <| zmv rfl (hd 31 rfl) <| jo_l (ly_ff (ly_ne rfl rfl) (by decide)) (hd 32 rfl) ?_; refine jo_nil <| jc_litf rfl <| jc_skip <| jc_seq <| zsr <| zmv rfl (hd 41 rfl) <| zmv rfl (hd 42 rfl) <| jo_nil <| jc_block ?_
      refine jc_loopD (G := Nat × Nat × List Int × List Int × Int) 1 (fun g => g.1 ≤ n ∧ rng b g.2.2.1 ∧ g.2.2.1.length = acc.length + g.1 ∧ vb b g.2.2.1 + (b : Int) ^ g.2.2.1.length * g.2.2.2.2 = vb b acc + (b : Int) ^ acc.length * (vl A % ((b ^ n : Nat) : Int)) ∧ 0 ≤ g.2.2.2.2 ∧ g.2.2.2.2 < (b : Int) ^ (n - g.1) ∧ g.2.2.1.length ≤ g.2.2.2.1.length ∧ g.2.2.2.1.take g.2.2.1.length = g.2.2.1 ∧ g.2.2.2.2 < 18446744073709551616) (fun g => [(7, .o 0 g.2.1 0 g.2.2.1.length), (11, .i .u64 g.2.2.2.2), (42, .i .i64 (g.1 : Int)), (43, .u), (44, .u), (45, .u), (46, .u), (47, .u), (48, .u), (49, .u), (50, .u), (51, .u), (52, .u), (53, .u), (54, .u), (55, .u), (56, .u)]) (fun g => [⟨3, 1, g.2.1, true, ints .i64 g.2.2.2.1⟩]) (fun g => n - g.1) (0, ver, acc, C, vl A % ((b ^ n : Nat) : Int)) ?_ ?_ rfl hR rfl (fun _ _ => rfl) (fun g _ => .cons ints_id .nil) ?_
      · exact ⟨Nat.zero_le _, hr, rfl, rfl, (dg_rlt hb).1, (dg_rlt hb).2, hC1, hC2, hrl⟩
      · exact (.cons rfl (.cons rfl (.cons rfl (.u (.u (.u (.u (.u (.u (.u (.u (.u (.u (.u (.u (.u (.u .nil)))))))))))))))))
      · rintro ⟨i, ver2, acc2, C2, r⟩ ⟨hi, hr2, hal2, hI2, h0, h1r, hD1, hD2, hr64⟩
        dsimp only at hi hr2 hal2 hI2 h0 h1r hD1 hD2 hr64
        refine zsr <| jo_l (ly_lt rfl rfl) (hd 43 rfl) <| jo_nil <| jc_seq ?_
        refine jc_if rfl (fun h3 => ?_) (fun h3 => ?_)
        · have hilt : i < n := by omega
          refine jc_skip <| jc_seq <| jc_block <| zsr <| zmv rfl (hd 44 rfl) <| zmv rfl (hd 45 rfl) <| zmv rfl (hd 46 rfl) <| jo_l (ly_conv und3 und82 rfl (r := (b : Int)) (wrap_u64 (by omega) (by omega))) (hd 47 rfl) <| jo_l (ly_is (ly_rem rfl rfl (by omega) rfl) (show V.i .u64 _ = V.i .u64 (r % (b : Int)) from congrArg (V.i .u64) (Int.tmod_eq_emod_of_nonneg h0))) (hd 48 rfl) <| jo_l (ly_conv und82 und3 rfl (r := r % (b : Int)) (wrap_i64 (by have := Int.emod_nonneg r (show (b : Int) ≠ 0 by omega); omega) (by have := Int.emod_lt_of_pos r (show (0 : Int) < b by omega); omega))) (hd 49 rfl) <| jo_h (hy_lit (id := 1) (xs := [.tmp 49]) el1122 rfl (ovL_cons rfl ovL_nil) rfl (all2_of rfl) (by decide) rfl) (hd 50 rfl) ?_
          refine jo_appI (C := C2) (v := (r % (b : Int))) el1122 rfl rfl hD1 rfl (src_o (cs := ints .i64 [(r % (b : Int))]) rfl rfl rfl) (by show (_ + 1) * 8 ≤ _; first | omega | (dsimp only; omega)) (by show _ + 1 ≤ 9223372036854775807; first | omega | (dsimp only; omega)) (hd 51 rfl) (fun ver' C' hE1 hE2 => ?_)
          refine zas rfl (hd 7 rfl) <| jo_nil <| jc_region <| zmv rfl (hd 52 rfl) <| zmv rfl (hd 53 rfl) <| jo_l (ly_conv und3 und82 rfl (r := (b : Int)) (wrap_u64 (by omega) (by omega))) (hd 54 rfl) <| jo_l (ly_quo rfl rfl (by omega) (r := r / (b : Int)) (by rw [Int.tdiv_eq_ediv_of_nonneg h0]; exact wrap_u64 (Int.ediv_nonneg h0 (by omega)) (by have := Int.ediv_le_self (b : Int) h0; omega))) (hd 55 rfl) <| zas rfl (hd 11 rfl) <| jo_nil <| jc_region <| jo_l (ly_add rfl rfl (r := ((i + 1 : Nat) : Int)) (by rw [wrap_i64 (by omega) (by omega)]; omega)) (hd 56 rfl) <| zmv rfl (hd 42 rfl) <| jo_nil ?_
          refine ⟨(i + 1, ver', acc2 ++ [r % (b : Int)], C', r / (b : Int)), ?_, ?_, rfl, cov_n 34 rfl rfl ?_⟩
          · exact ⟨by omega, rng_app hr2 (rng_one (Int.emod_nonneg _ (by omega)) (Int.emod_lt_of_pos _ (by omega))), by simp only [List.length_append, List.length_singleton]; omega, by simp only [List.length_append, List.length_singleton]; rw [dg_in]; exact hI2, (dgr_lt hb hilt h0 h1r).1, (dgr_lt hb hilt h0 h1r).2, by simp only [List.length_append, List.length_singleton]; exact hE1, by simp only [List.length_append, List.length_singleton]; rw [hE2, hD2], by have := Int.ediv_le_self (b : Int) h0; dsimp only; omega⟩
          · show n - (i + 1) < n - i
            omega
          · exact (.cons (by show some _ = some _; rw [List.length_append]; rfl) (.cons rfl (.cons rfl (.u (.u (.u (.u (.u (.u (.u (.u (.u (.u (.u (.u (.u (.u .nil)))))))))))))))))
        · obtain rfl : n = i := by omega
          have hr0 := dg_zero h0 h1r
          refine jc_exit <| jc_region <| zmv rfl (hd 57 rfl) <| zas rfl (hd 0 rfl) <| jo_nil ?_
          refine ⟨(lm (vl A / ((b ^ n : Nat) : Int)), ver2, acc2, C2), ?_, ?_, rfl, cov_n 79 rfl rfl ?_⟩
          · exact ⟨lm_u _, hlq, hr2, by dsimp only; rw [vl_lm hq0, dg_out hal2 hI2 hr0, hI], by dsimp only; omega, hD1, hD2⟩
          · show (vl (lm _)).toNat < (vl A).toNat
            rw [vl_lm hq0]
            exact dg_less hvp hb hn1
          · exact (.cons rfl (.cons rfl (.u (.u (.u (.u (.u (.u (.u (.u (.u (.u (.u (.u (.u (.u (.u (.u (.u (.u (.u (.u (.u (.u (.u (.u (.u (.u (.u (.u (.u (.u (.u (.u (.u (.u (.u (.u (.u (.u (.u (.u .nil))))))))))))))))))))))))))))))))))))))))))
    · have hv00 : vl A = 0 := (lenN_zero uA).1 (by omega)
      have hvacc : vb b acc = vl l := by rw [hv00, Int.mul_zero, Int.add_zero] at hI; exact hI
      refine jc_exit ?_
      refine jc_meetH (G := Nat) (fun k => k ≤ acc.length ∧ acc.take k = (digs b (vl l).toNat)) (fun k => [(7, .o 0 ver 0 k), (58, .u), (59, .u), (60, .u), (61, .u), (62, .u), (63, .u), (64, .u), (65, .u), (66, .u), (67, .u), (68, .u), (69, .u), (70, .u), (71, .u), (72, .u), (73, .u), (74, .u)]) ?_ ?_
      · refine jc_block ?_
        refine jc_loopF (G := Nat) (fun k => k ≤ acc.length ∧ vb b (acc.take k) = vb b acc) (fun k => [(7, .o 0 ver 0 k), (58, .u), (59, .u), (60, .u), (61, .u), (62, .u), (63, .u), (64, .u), (65, .u), (66, .u), (67, .u), (68, .u), (69, .u), (70, .u), (71, .u), (72, .u), (73, .u), (74, .u)]) (fun _ => _) (fun k => k) acc.length ?_ ?_ rfl ?_
        · exact ⟨Nat.le_refl _, by rw [List.take_length]⟩
        · exact (.cons rfl (.u (.u (.u (.u (.u (.u (.u (.u (.u (.u (.u (.u (.u (.u (.u (.u (.u .nil))))))))))))))))))
        · rintro k ⟨hk, hkv⟩; refine jc_seq <| zsr <| zmv rfl (hd 58 rfl) <| jo_l (ly_leno sl1122 rfl rfl) (hd 59 rfl) <| jo_l (ly_gt rfl rfl) (hd 60 rfl) <| zmv rfl (hd 61 rfl) ?_
          refine jo_ifp 61 rfl (fun h4 => ?_) (fun h4 => ?_)
          · refine jo_g 61 rfl rfl (ly_mv rfl) (hd 62 rfl) <| jo_g 61 rfl rfl (ly_mv rfl) (hd 63 rfl) <| jo_g 61 rfl rfl (ly_leno sl1122 rfl rfl) (hd 64 rfl) <| jo_g 61 rfl rfl (ly_sub rfl rfl (wrap_i64 (by omega) (by omega))) (hd 65 rfl) <| jo_g 61 rfl rfl (ly_ia (i := k - 1) sl1122 rfl rfl rfl (by omega) (by omega) rfl) (hd 66 rfl) <| jo_g 61 rfl rfl (ly_is (ly_ldi one3 rfl rfl (by first | omega | (dsimp only; omega))) (show V.i .i64 _ = V.i .i64 (acc.getD (k - 1) 0) by rw [getT hC2 (by omega)])) (hd 67 rfl) <| jo_g 61 rfl rfl (ly_eq rfl rfl) (hd 68 rfl) <| jo_l (ly_pick_t rfl rfl) (hd 69 rfl) <| jo_nil ?_
            refine jc_if rfl (fun h5 => ?_) (fun h5 => ?_)
            · have hz0 := h5
              refine jc_skip <| jc_block <| jc_region <| zmv rfl (hd 70 rfl) <| zmv rfl (hd 71 rfl) <| jo_l (ly_leno sl1122 rfl rfl) (hd 72 rfl) <| jo_l (ly_sub rfl rfl (wrap_i64 (by omega) (by omega))) (hd 73 rfl) <| jo_l (ly_slo (l := 0) (h := k - 1) (r := 0) (n := k - 1) sl1122 rfl rfl bnd_none (bnd_some' rfl (by omega)) (by omega) (by omega) rfl (by omega)) (hd 74 rfl) <| zas rfl (hd 7 rfl) <| jo_nil ?_
              refine ⟨k - 1, ?_, ?_, rfl, cov_n 37 rfl rfl ?_⟩
              · exact ⟨by omega, by rw [cut_step (by omega) hk hz0]; exact hkv⟩
              · omega
              · exact (.cons rfl (.u (.u (.u (.u (.u (.u (.u (.u (.u (.u (.u (.u (.u (.u (.u (.u (.u .nil))))))))))))))))))
            · refine jc_exit ?_
              refine ⟨k, ?_, rfl, cov_n 31 rfl rfl ?_⟩
              · exact ⟨hk, cut_digs hb hk hr (by rw [hkv, hvacc]; exact (Int.toNat_of_nonneg hv0).symm) (by first | (left; omega) | (right; assumption))⟩
              · exact (.cons rfl (.u (.u (.u (.u (.u (.u (.u (.u (.u (.u (.u (.u (.u (.u (.u (.u (.u .nil))))))))))))))))))
          · refine jo_s 61 rfl rfl rfl (hd 62 rfl) <| jo_s 61 rfl rfl rfl (hd 63 rfl) <| jo_s 61 rfl rfl rfl (hd 64 rfl) <| jo_s 61 rfl rfl rfl (hd 65 rfl) <| jo_s 61 rfl rfl rfl (hd 66 rfl) <| jo_s 61 rfl rfl rfl (hd 67 rfl) <| jo_s 61 rfl rfl rfl (hd 68 rfl) <| jo_l (ly_pick_f rfl rfl) (hd 69 rfl) <| jo_nil <| jc_litf rfl <| jc_exit ?_
            refine ⟨k, ?_, rfl, cov_n 31 rfl rfl ?_⟩
            · exact ⟨hk, cut_digs hb hk hr (by rw [hkv, hvacc]; exact (Int.toNat_of_nonneg hv0).symm) (by first | (left; omega) | (right; assumption))⟩
            · exact (.cons rfl (.u (.u (.u (.u (.u (.u (.u (.u (.u (.u (.u (.u (.u (.u (.u (.u (.u .nil))))))))))))))))))
      · rintro k ⟨hk, hdk⟩
        have hdl : (digs b (vl l).toNat).length = k := by rw [← hdk, List.length_take]; omega
        have hck : C.take k = (digs b (vl l).toNat) := by rw [takeT hC2 hk, hdk]
        refine jc_seq <| jc_block ?_
        refine jc_loopD (G := Nat × List Int × Nat) 1 (fun g => (digs b (vl l).toNat).length ≤ g.2.2 ∧ g.2.2 ≤ max m (digs b (vl l).toNat).length ∧ g.2.2 ≤ g.2.1.length ∧ g.2.1.take g.2.2 = (digs b (vl l).toNat) ++ List.replicate (g.2.2 - (digs b (vl l).toNat).length) 0) (fun g => [(7, .o 0 g.1 0 g.2.2), (75, .u), (76, .u), (77, .u), (78, .u), (79, .u), (80, .u), (81, .u)]) (fun g => [⟨3, 1, g.1, true, ints .i64 g.2.1⟩]) (fun g => m - g.2.2) (ver, C, k) ?_ ?_ rfl hR rfl (fun _ _ => rfl) (fun g _ => .cons ints_id .nil) ?_
        · exact ⟨by rw [hdl]; exact Nat.le_refl _, by dsimp only; omega, by dsimp only; omega, by dsimp only; rw [hck, hdl, Nat.sub_self]; simp⟩
        · exact (.cons rfl (.u (.u (.u (.u (.u (.u (.u .nil))))))))
        · rintro ⟨ver3, C3, k3⟩ ⟨hp1, hp2, hp3, hp4⟩
          dsimp only at hp1 hp2 hp3 hp4
          refine jc_seq <| zsr <| zmv rfl (hd 75 rfl) <| jo_l (ly_leno sl1122 rfl rfl) (hd 76 rfl) <| zmv rfl (hd 77 rfl) <| jo_l (ly_lt rfl rfl) (hd 78 rfl) <| jo_nil ?_
          refine jc_if rfl (fun h7 => ?_) (fun h7 => ?_)
          · dsimp only at h7
            refine jc_skip <| jc_block <| jc_region <| zmv rfl (hd 79 rfl) <| jo_h (hy_lit (id := 1) (xs := [.const (.int .i64 0)]) el1122 rfl (ovL_cons rfl ovL_nil) rfl (all2_of rfl) (by decide) rfl) (hd 80 rfl) ?_
            refine jo_appI (C := C3) (v := 0) el1122 rfl rfl hp3 rfl (src_o (cs := ints .i64 [0]) rfl rfl rfl) (by show (_ + 1) * 8 ≤ _; first | omega | (dsimp only; omega)) (by show _ + 1 ≤ 9223372036854775807; first | omega | (dsimp only; omega)) (hd 81 rfl) (fun ver' C' hE1 hE2 => ?_)
            refine zas rfl (hd 7 rfl) <| jo_nil ?_
            refine ⟨(ver', C', k3 + 1), ?_, ?_, rfl, cov_n 16 rfl rfl ?_⟩
            · exact ⟨by dsimp only; omega, by dsimp only; omega, hE1, pad_step hp1 hp4 hE2⟩
            · show m - (k3 + 1) < m - k3
              omega
            · exact (.cons rfl (.u (.u (.u (.u (.u (.u (.u .nil))))))))
          · dsimp only at h7 ⊢
            have hB : (C3.take k3).length = k3 := by rw [List.length_take]; omega
            have hpd := pad_end hp4 hp1 (by omega) hp2
            refine jc_exit <| zsr <| zmv rfl (hd 82 rfl) <| jo_l (ly_leno sl1122 rfl rfl) (hd 83 rfl) <| jo_h (hy_mk (m := k3) el1122 rfl rfl rfl (by show 8 * k3 ≤ _; omega) (by unfold maxLen; omega) rfl) (hd 84 rfl) <| zas rfl (hd 13 rfl) <| jo_nil <| jc_seq <| zsr <| zmv rfl (hd 85 rfl) <| jo_l (ly_leno sl1122 rfl rfl) (hd 86 rfl) ?_; refine zmv rfl (hd 87 rfl) <| jo_nil <| jc_block <| jc_H (H' := [⟨3, 1, ver3, true, ints .i64 C3⟩, ⟨3, 1, 0, true, ints .i64 (revI (C3.take k3) 0)⟩]) (by rw [revI_0, hB]; rfl) ?_
            refine jc_loopF (G := Nat) (fun i => i ≤ k3) (fun i => [(87, .i .i64 (i : Int)), (14, .u), (15, .u), (88, .u), (89, .u), (90, .u), (91, .u), (92, .u), (93, .u), (94, .u), (95, .u), (96, .u), (97, .u), (98, .u), (99, .u), (100, .u)]) (fun i => [⟨3, 1, ver3, true, ints .i64 C3⟩, ⟨3, 1, 0, true, ints .i64 (revI (C3.take k3) i)⟩]) (fun i => k3 - i) 0 ?_ ?_ rfl ?_
            · exact Nat.zero_le _
            · exact (.cons rfl (.u (.u (.u (.u (.u (.u (.u (.u (.u (.u (.u (.u (.u (.u (.u .nil))))))))))))))))
            · rintro i hi9
              have hrl9 := revI_len (B := (C3.take k3)) (i := i) (by rw [hB]; exact hi9)
              refine zsr <| jo_l (ly_lt rfl rfl) (hd 88 rfl) <| jo_nil <| jc_seq ?_
              refine jc_if rfl (fun h8 => ?_) (fun h8 => ?_)
              · refine jc_skip <| jc_seq <| jc_block <| zsr <| zmv rfl (hd 89 rfl) <| jo_l (ly_ia (i := i) sl1122 rfl rfl rfl (by first | rfl | omega) (by omega) rfl) (hd 90 rfl) <| jo_l (ly_is (ly_ldi one3 rfl rfl (by first | omega | (dsimp only; omega))) (show V.i .i64 _ = V.i .i64 ((C3.take k3).getD i 0) by rw [getT (acc := (C3.take k3)) (by rw [hB]) (by rw [hB]; omega)])) (hd 91 rfl) <| zas rfl (hd 14 rfl) <| zas rfl (hd 15 rfl) <| jo_nil ?_
                have hset : (revI (C3.take k3) i).set ((0 + (k3 - 1 - i)) * 1) ((C3.take k3).getD i 0) = revI (C3.take k3) (i + 1) := by
                  rw [Nat.zero_add, Nat.mul_one]
                  have h := revI_set (B := (C3.take k3)) (i := i) (by rw [hB]; omega)
                  rwa [hB] at h
                refine jc_region <| zmv rfl (hd 92 rfl) <| zmv rfl (hd 93 rfl) <| jo_l (ly_leno sl1122 rfl rfl) (hd 94 rfl) <| jo_l (ly_sub rfl rfl (wrap_i64 (by omega) (by omega))) (hd 95 rfl) <| zmv rfl (hd 96 rfl) <| jo_l (ly_sub rfl rfl (r := ((k3 - 1 - i : Nat) : Int)) (by rw [wrap_i64 (by omega) (by omega)]; omega)) (hd 97 rfl) <| zmv rfl (hd 98 rfl) <| jo_l (ly_ia (i := k3 - 1 - i) sl1122 rfl rfl rfl (by first | rfl | omega) (by omega) rfl) (hd 99 rfl) <| jo_st (sy_storei rfl rfl rfl one3 (by rw [hrl9, hB]; first | omega | (dsimp only; omega))) <| jo_nil <| jc_region <| jo_l (ly_add rfl rfl (r := ((i + 1 : Nat) : Int)) (by rw [wrap_i64 (by omega) (by omega)]; omega)) (hd 100 rfl) ?_; refine zmv rfl (hd 87 rfl) <| jo_nil ?_
                refine ⟨i + 1, ?_, ?_, (by show [_, (⟨3, 1, 0, true, ints .i64 _⟩ : Ob)] = [_, ⟨3, 1, 0, true, ints .i64 _⟩]; rw [hset]), cov_n 32 rfl rfl ?_⟩
                · omega
                · omega
                · exact (.cons rfl (.u (.u (.u (.u (.u (.u (.u (.u (.u (.u (.u (.u (.u (.u (.u .nil))))))))))))))))
              · obtain rfl : i = k3 := by omega
                have hR : revI (C3.take i) i = (hdg b m (vl l).toNat) := by
                  have h := revI_all (C3.take i)
                  rw [hB] at h
                  rw [h, hpd]; rfl
                have hRl : (hdg b m (vl l).toNat).length = i := by rw [← hR, revI_len (by omega), hB]
                refine jc_exit <| zsr <| zmv rfl (hd 101 rfl) <| zas rfl (hd 6 rfl) <| jo_nil <| jc_ret ?_
                refine ⟨[1], _, (.o 0 0 0 i), (.cons rfl .nil), rfl, rfl, (by decide), (by first | exact idless_cons ints_id idless_nil | exact idless_cons rfl idless_nil), ?_⟩
                exact ⟨by rw [hRl], by rw [← hR]; rfl⟩

theorem caughtR_0 (a b c ue : Value) (ha : a.oneCell' = true) (hb : b.oneCell' = true) (hc : c.oneCell' = true) (hu : ue.oneCell' = true) : Spec Tryz.prog 30 [.c .nilIface, .a [.c a, .c b, .c c], .c ue] (fun o => o = .ret (.t [.a [.c a, .c b, .c c], .c ue])) := by
  refine spec_of' [(0, .c .nilIface), (1, .a [.c a, .c b, .c c]), (2, .c ue)] rfl Tryz.func30 rfl (zlb rfl) fun Γ hN hds hL hR => ?_
  have hd := hdOf 26 hN
  refine zsr <| jo_h (hy_box (id := 0) (n := 3) rfl (one_c3V ha hb hc) rfl (by decide) rfl) (hd 4 rfl) <| jo_h (hy_alloc (id := 1) zero1027 (by decide) rfl (by decide) rfl) (hd 6 rfl) <| zas rfl (hd 7 rfl) <| jo_nil <| jc_seq <| zsr <| zmv rfl (hd 11 rfl) <| jo_l (ly_eqi0 undI20 rfl) (hd 12 rfl) <| jo_nil <| jc_litt rfl ?_; refine zsr <| jo_l (ly_lda agg1027 rfl rfl rfl rfl) (hd 13 rfl) <| zmv rfl (hd 14 rfl) <| jo_st (sy_store rfl rfl rfl siz1027 rfl (one_c3 ha hb hc) (zlb rfl)) <| zas rfl (hd 7 rfl) <| jo_nil <| jc_ret ?_
  refine ⟨_, _, (.cons (ResV.cell agg1027 rfl rfl rfl rfl) (.cons rfl .nil)), (.t1 (.a1 .c (.a1 .c (.a1 .c .a0))) (.t1 .c .t0)), ?_⟩
  exact rfl

theorem caughtR_1 (a b c ue : Value) (ha : a.oneCell' = true) (hb : b.oneCell' = true) (hc : c.oneCell' = true) (hu : ue.oneCell' = true) (e : Int) : Spec Tryz.prog 30 [.c (.iface 100 (.agg #[.int .i64 e])), .a [.c a, .c b, .c c], .c ue] (fun o => o = .ret (.t [(.a [.b false, .n false .u64 [], .n false .u64 []]), .i .i64 e])) := by
  refine spec_of' [(0, .c (.iface 100 (.agg #[.int .i64 e]))), (1, .a [.c a, .c b, .c c]), (2, .c ue)] rfl Tryz.func30 rfl (zlb rfl) fun Γ hN hds hL hR => ?_
  have hd := hdOf 26 hN
  refine zsr <| jo_h (hy_box (id := 0) (n := 3) rfl (one_c3V ha hb hc) rfl (by decide) rfl) (hd 4 rfl) <| jo_h (hy_alloc (id := 1) zero1027 (by decide) rfl (by decide) rfl) (hd 6 rfl) <| zas rfl (hd 7 rfl) <| jo_nil <| jc_seq <| zsr <| zmv rfl (hd 11 rfl) <| jo_l (ly_eqi1 undI20 rfl) (hd 12 rfl) <| jo_nil <| jc_litf rfl ?_; refine jc_skip <| zsr <| zmv rfl (hd 16 rfl) <| jo_l (ly_ta ndi1100 rfl) (hd 17 rfl) <| zmv rfl (hd 15 rfl) <| jo_l (ly_ext rfl rfl) (hd 18 rfl) <| jo_l (ly_ext rfl rfl) (hd 19 rfl) <| jo_h (hy_alloc (id := 2) zero1100 (by decide) rfl (by decide) rfl) (hd 8 rfl) <| jo_st (sy_store rfl rfl rfl siz1100 rfl rfl (zlb rfl)) <| zas rfl (hd 9 rfl) <| jo_nil <| jc_seq ?_; refine zsr <| zmv rfl (hd 20 rfl) <| jo_l (ly_not rfl) (hd 21 rfl) <| jo_nil <| jc_litf rfl <| jc_skip <| zsr <| jo_h (hy_alloc (id := 3) zero1027 (by decide) rfl (by decide) rfl) (hd 10 rfl) <| jo_nil <| jc_seq <| jc_draw (n := 5) _ rfl mixed ?_; refine zal 0 (lo_l (ly_lda agg1027 rfl rfl rfl rfl) (hd 23 rfl)) rfl ?_
  refine ja_2 1 3 ?_ ?_ rfl rfl (by kernel_rfl)
  · refine js_l (ly_fa fld1100_0 rfl rfl rfl) (hd 24 rfl) ?_
    refine ja_2 2 3 ?_ ?_ rfl rfl (by kernel_rfl)
    · refine js_l (ly_ld one23 rfl rfl rfl) (hd 25 rfl) ?_
      refine ja_1 3 ?_ rfl (by kernel_rfl)
      refine js_st (sy_store rfl rfl rfl siz1027 rfl rfl (zlb rfl)) rfl <| zal 4 (lo_l (ly_as rfl) (hd 7 rfl)) rfl <| ja_nil (by kernel_rfl) <| jc_ret ?_
      refine ⟨_, _, (.cons (ResV.cell agg1027 rfl rfl rfl rfl) (.cons rfl .nil)), (.t1 (.a1 .b (.a1 (.nil (fr := false) (k := .u64)) (.a1 (.nil (fr := false) (k := .u64)) .a0))) (.t1 .i .t0)), ?_⟩
      exact rfl
    · refine js_st (sy_store rfl rfl rfl siz1027 rfl rfl (zlb rfl)) rfl <| zal 2 (lo_l (ly_ld one23 rfl rfl rfl) (hd 25 rfl)) rfl <| zal 4 (lo_l (ly_as rfl) (hd 7 rfl)) rfl <| ja_nil (by kernel_rfl) <| jc_ret ?_
      refine ⟨_, _, (.cons (ResV.cell agg1027 rfl rfl rfl rfl) (.cons rfl .nil)), (.t1 (.a1 .b (.a1 (.nil (fr := false) (k := .u64)) (.a1 (.nil (fr := false) (k := .u64)) .a0))) (.t1 .i .t0)), ?_⟩
      exact rfl
  · refine js_st (sy_store rfl rfl rfl siz1027 rfl rfl (zlb rfl)) rfl <| zal 1 (lo_l (ly_fa fld1100_0 rfl rfl rfl) (hd 24 rfl)) rfl <| zal 2 (lo_l (ly_ld one23 rfl rfl rfl) (hd 25 rfl)) rfl <| zal 4 (lo_l (ly_as rfl) (hd 7 rfl)) rfl <| ja_nil (by kernel_rfl) <| jc_ret ?_
    refine ⟨_, _, (.cons (ResV.cell agg1027 rfl rfl rfl rfl) (.cons rfl .nil)), (.t1 (.a1 .b (.a1 (.nil (fr := false) (k := .u64)) (.a1 (.nil (fr := false) (k := .u64)) .a0))) (.t1 .i .t0)), ?_⟩
    exact rfl

theorem caughtI_0 (a ue : Value) (ha : a.oneCell' = true) (hu : ue.oneCell' = true) : Spec Tryz.prog 48 [.c .nilIface, .c a, .c ue] (fun o => o = .ret (.t [.c a, .c ue])) := by
  refine spec_of' [(0, .c .nilIface), (1, .c a), (2, .c ue)] rfl Tryz.func48 rfl (zlb rfl) fun Γ hN hds hL hR => ?_
  have hd := hdOf 26 hN
  refine zsr <| zas rfl (hd 6 rfl) <| zas rfl (hd 7 rfl) <| jo_nil <| jc_seq <| zsr <| zmv rfl (hd 11 rfl) <| jo_l (ly_eqi0 undI20 rfl) (hd 12 rfl) <| jo_nil <| jc_litt rfl <| jc_seq ?_; refine jc_region <| zmv rfl (hd 13 rfl) <| zmv rfl (hd 14 rfl) <| zas rfl (hd 6 rfl) <| zas rfl (hd 7 rfl) <| jo_nil <| jc_ret ?_
  refine ⟨_, _, (.cons rfl (.cons rfl .nil)), (.t1 .c (.t1 .c .t0)), ?_⟩
  exact rfl

theorem caughtI_1 (a ue : Value) (ha : a.oneCell' = true) (hu : ue.oneCell' = true) (e : Int) : Spec Tryz.prog 48 [.c (.iface 100 (.agg #[.int .i64 e])), .c a, .c ue] (fun o => o = .ret (.t [(.i .i64 0), .i .i64 e])) := by
  refine spec_of' [(0, .c (.iface 100 (.agg #[.int .i64 e]))), (1, .c a), (2, .c ue)] rfl Tryz.func48 rfl (zlb rfl) fun Γ hN hds hL hR => ?_
  have hd := hdOf 26 hN
  refine zsr <| zas rfl (hd 6 rfl) <| zas rfl (hd 7 rfl) <| jo_nil <| jc_seq <| zsr <| zmv rfl (hd 11 rfl) <| jo_l (ly_eqi1 undI20 rfl) (hd 12 rfl) <| jo_nil <| jc_litf rfl <| jc_skip ?_; refine zsr <| zmv rfl (hd 16 rfl) <| jo_l (ly_ta ndi1100 rfl) (hd 17 rfl) <| zmv rfl (hd 15 rfl) <| jo_l (ly_ext rfl rfl) (hd 18 rfl) <| jo_l (ly_ext rfl rfl) (hd 19 rfl) <| jo_h (hy_alloc (id := 0) zero1100 (by decide) rfl (by decide) rfl) (hd 8 rfl) <| jo_st (sy_store rfl rfl rfl siz1100 rfl rfl (zlb rfl)) <| zas rfl (hd 9 rfl) <| jo_nil <| jc_seq <| jc_seq ?_; refine jc_region <| zmv rfl (hd 20 rfl) <| jo_l (ly_not rfl) (hd 21 rfl) <| jo_nil <| jc_litf rfl <| jc_skip <| zsr <| zas rfl (hd 10 rfl) <| jo_nil <| jc_seq <| jc_draw (n := 5) _ rfl mixed <| zal 0 (lo_l (ly_mv rfl) (hd 23 rfl)) rfl ?_; refine zal 1 (lo_l (ly_fa fld1100_0 rfl rfl rfl) (hd 24 rfl)) rfl <| zal 2 (lo_l (ly_ld one23 rfl rfl rfl) (hd 25 rfl)) rfl <| zal 3 (lo_l (ly_as rfl) (hd 6 rfl)) rfl <| zal 4 (lo_l (ly_as rfl) (hd 7 rfl)) rfl <| ja_nil (by kernel_rfl) <| jc_ret ?_
  refine ⟨_, _, (.cons rfl (.cons rfl .nil)), (.t1 .i (.t1 .i .t0)), ?_⟩
  exact rfl

theorem caughtS_0 (a ue : Value) (ha : a.oneCell' = true) (hu : ue.oneCell' = true) : Spec Tryz.prog 64 [.c .nilIface, .c a, .c ue] (fun o => o = .ret (.t [.c a, .c ue])) := by
  refine spec_of' [(0, .c .nilIface), (1, .c a), (2, .c ue)] rfl Tryz.func64 rfl (zlb rfl) fun Γ hN hds hL hR => ?_
  have hd := hdOf 26 hN
  refine zsr <| zas rfl (hd 6 rfl) <| zas rfl (hd 7 rfl) <| jo_nil <| jc_seq <| zsr <| zmv rfl (hd 11 rfl) <| jo_l (ly_eqi0 undI20 rfl) (hd 12 rfl) <| jo_nil <| jc_litt rfl <| jc_seq ?_; refine jc_region <| zmv rfl (hd 13 rfl) <| zmv rfl (hd 14 rfl) <| zas rfl (hd 6 rfl) <| zas rfl (hd 7 rfl) <| jo_nil <| jc_ret ?_
  refine ⟨_, _, (.cons rfl (.cons rfl .nil)), (.t1 .c (.t1 .c .t0)), ?_⟩
  exact rfl

theorem caughtS_1 (a ue : Value) (ha : a.oneCell' = true) (hu : ue.oneCell' = true) (e : Int) : Spec Tryz.prog 64 [.c (.iface 100 (.agg #[.int .i64 e])), .c a, .c ue] (fun o => o = .ret (.t [(.s .empty), .i .i64 e])) := by
  refine spec_of' [(0, .c (.iface 100 (.agg #[.int .i64 e]))), (1, .c a), (2, .c ue)] rfl Tryz.func64 rfl (zlb rfl) fun Γ hN hds hL hR => ?_
  have hd := hdOf 26 hN
  refine zsr <| zas rfl (hd 6 rfl) <| zas rfl (hd 7 rfl) <| jo_nil <| jc_seq <| zsr <| zmv rfl (hd 11 rfl) <| jo_l (ly_eqi1 undI20 rfl) (hd 12 rfl) <| jo_nil <| jc_litf rfl <| jc_skip ?_; refine zsr <| zmv rfl (hd 16 rfl) <| jo_l (ly_ta ndi1100 rfl) (hd 17 rfl) <| zmv rfl (hd 15 rfl) <| jo_l (ly_ext rfl rfl) (hd 18 rfl) <| jo_l (ly_ext rfl rfl) (hd 19 rfl) <| jo_h (hy_alloc (id := 0) zero1100 (by decide) rfl (by decide) rfl) (hd 8 rfl) <| jo_st (sy_store rfl rfl rfl siz1100 rfl rfl (zlb rfl)) <| zas rfl (hd 9 rfl) <| jo_nil <| jc_seq <| jc_seq ?_; refine jc_region <| zmv rfl (hd 20 rfl) <| jo_l (ly_not rfl) (hd 21 rfl) <| jo_nil <| jc_litf rfl <| jc_skip <| zsr <| zas rfl (hd 10 rfl) <| jo_nil <| jc_seq <| jc_draw (n := 5) _ rfl mixed <| zal 0 (lo_l (ly_mv rfl) (hd 23 rfl)) rfl ?_; refine zal 1 (lo_l (ly_fa fld1100_0 rfl rfl rfl) (hd 24 rfl)) rfl <| zal 2 (lo_l (ly_ld one23 rfl rfl rfl) (hd 25 rfl)) rfl <| zal 3 (lo_l (ly_as rfl) (hd 6 rfl)) rfl <| zal 4 (lo_l (ly_as rfl) (hd 7 rfl)) rfl <| ja_nil (by kernel_rfl) <| jc_ret ?_
  refine ⟨_, _, (.cons rfl (.cons rfl .nil)), (.t1 .s (.t1 .i .t0)), ?_⟩
  exact rfl

theorem clo_2346 : Clo Tryz.prog 94 27 33 3 true 100 (.a [.b false, .n false .u64 [], .n false .u64 []]) where
  shape := ⟨Tryz.f94, Tryz.f30, 30, 34, 20, "ratio.go:70", Tryz.func94, rfl, rfl, rfl, Tryz.func30, rfl, rfl, fun us ue hl h1 h2 => by
    obtain ⟨a, b, c, rfl⟩ : ∃ a b c, us = [a, b, c] := by
      match us, hl with
      | [a, b, c], _ => exact ⟨a, b, c, rfl⟩
    exact caughtR_0 a b c ue (h1 a (by simp)) (h1 b (by simp)) (h1 c (by simp)) h2, fun us ue e hl h1 h2 => by
    obtain ⟨a, b, c, rfl⟩ : ∃ a b c, us = [a, b, c] := by
      match us, hl with
      | [a, b, c], _ => exact ⟨a, b, c, rfl⟩
    exact caughtR_1 a b c ue (h1 a (by simp)) (h1 b (by simp)) (h1 c (by simp)) h2 e⟩
  hm := mixed
  hld := .inl ⟨rfl, agg1027⟩
  hsz := siz1027
  hle := one23
  hz1 := rfl
  hz2 := rfl
  hz3 := fun _ => rfl

theorem clo_2347 : Clo Tryz.prog 29 27 33 3 true 100 (.a [.b false, .n false .u64 [], .n false .u64 []]) where
  shape := ⟨Tryz.f29, Tryz.f30, 30, 34, 20, "ratio.go:96", Tryz.func29, rfl, rfl, rfl, Tryz.func30, rfl, rfl, fun us ue hl h1 h2 => by
    obtain ⟨a, b, c, rfl⟩ : ∃ a b c, us = [a, b, c] := by
      match us, hl with
      | [a, b, c], _ => exact ⟨a, b, c, rfl⟩
    exact caughtR_0 a b c ue (h1 a (by simp)) (h1 b (by simp)) (h1 c (by simp)) h2, fun us ue e hl h1 h2 => by
    obtain ⟨a, b, c, rfl⟩ : ∃ a b c, us = [a, b, c] := by
      match us, hl with
      | [a, b, c], _ => exact ⟨a, b, c, rfl⟩
    exact caughtR_1 a b c ue (h1 a (by simp)) (h1 b (by simp)) (h1 c (by simp)) h2 e⟩
  hm := mixed
  hld := .inl ⟨rfl, agg1027⟩
  hsz := siz1027
  hle := one23
  hz1 := rfl
  hz2 := rfl
  hz3 := fun _ => rfl

theorem clo_2350 : Clo Tryz.prog 45 27 33 3 true 100 (.a [.b false, .n false .u64 [], .n false .u64 []]) where
  shape := ⟨Tryz.f45, Tryz.f30, 30, 34, 20, "ratio.go:122", Tryz.func45, rfl, rfl, rfl, Tryz.func30, rfl, rfl, fun us ue hl h1 h2 => by
    obtain ⟨a, b, c, rfl⟩ : ∃ a b c, us = [a, b, c] := by
      match us, hl with
      | [a, b, c], _ => exact ⟨a, b, c, rfl⟩
    exact caughtR_0 a b c ue (h1 a (by simp)) (h1 b (by simp)) (h1 c (by simp)) h2, fun us ue e hl h1 h2 => by
    obtain ⟨a, b, c, rfl⟩ : ∃ a b c, us = [a, b, c] := by
      match us, hl with
      | [a, b, c], _ => exact ⟨a, b, c, rfl⟩
    exact caughtR_1 a b c ue (h1 a (by simp)) (h1 b (by simp)) (h1 c (by simp)) h2 e⟩
  hm := mixed
  hld := .inl ⟨rfl, agg1027⟩
  hsz := siz1027
  hle := one23
  hz1 := rfl
  hz2 := rfl
  hz3 := fun _ => rfl

theorem clo_2351 : Clo Tryz.prog 47 3 33 1 false 100 (.i .i64 0) where
  shape := ⟨Tryz.f47, Tryz.f48, 48, 36, 20, "ratio.go:146", Tryz.func47, rfl, rfl, rfl, Tryz.func48, rfl, rfl, fun us ue hl h1 h2 => by
    obtain ⟨a, rfl⟩ : ∃ a, us = [a] := by
      match us, hl with
      | [a], _ => exact ⟨a, rfl⟩
    exact caughtI_0 a ue (h1 a (by simp)) h2, fun us ue e hl h1 h2 => by
    obtain ⟨a, rfl⟩ : ∃ a, us = [a] := by
      match us, hl with
      | [a], _ => exact ⟨a, rfl⟩
    exact caughtI_1 a ue (h1 a (by simp)) h2 e⟩
  hm := mixed
  hld := .inr ⟨rfl, rfl, one3⟩
  hsz := siz3
  hle := one23
  hz1 := rfl
  hz2 := rfl
  hz3 := fun _ => rfl

theorem clo_2353 : Clo Tryz.prog 46 27 33 3 true 100 (.a [.b false, .n false .u64 [], .n false .u64 []]) where
  shape := ⟨Tryz.f46, Tryz.f30, 30, 34, 20, "ratio.go:136", Tryz.func46, rfl, rfl, rfl, Tryz.func30, rfl, rfl, fun us ue hl h1 h2 => by
    obtain ⟨a, b, c, rfl⟩ : ∃ a b c, us = [a, b, c] := by
      match us, hl with
      | [a, b, c], _ => exact ⟨a, b, c, rfl⟩
    exact caughtR_0 a b c ue (h1 a (by simp)) (h1 b (by simp)) (h1 c (by simp)) h2, fun us ue e hl h1 h2 => by
    obtain ⟨a, b, c, rfl⟩ : ∃ a b c, us = [a, b, c] := by
      match us, hl with
      | [a, b, c], _ => exact ⟨a, b, c, rfl⟩
    exact caughtR_1 a b c ue (h1 a (by simp)) (h1 b (by simp)) (h1 c (by simp)) h2 e⟩
  hm := mixed
  hld := .inl ⟨rfl, agg1027⟩
  hsz := siz1027
  hle := one23
  hz1 := rfl
  hz2 := rfl
  hz3 := fun _ => rfl

theorem clo_2354 : Clo Tryz.prog 69 27 33 3 true 100 (.a [.b false, .n false .u64 [], .n false .u64 []]) where
  shape := ⟨Tryz.f69, Tryz.f30, 30, 34, 20, "ratio.go:256", Tryz.func69, rfl, rfl, rfl, Tryz.func30, rfl, rfl, fun us ue hl h1 h2 => by
    obtain ⟨a, b, c, rfl⟩ : ∃ a b c, us = [a, b, c] := by
      match us, hl with
      | [a, b, c], _ => exact ⟨a, b, c, rfl⟩
    exact caughtR_0 a b c ue (h1 a (by simp)) (h1 b (by simp)) (h1 c (by simp)) h2, fun us ue e hl h1 h2 => by
    obtain ⟨a, b, c, rfl⟩ : ∃ a b c, us = [a, b, c] := by
      match us, hl with
      | [a, b, c], _ => exact ⟨a, b, c, rfl⟩
    exact caughtR_1 a b c ue (h1 a (by simp)) (h1 b (by simp)) (h1 c (by simp)) h2 e⟩
  hm := mixed
  hld := .inl ⟨rfl, agg1027⟩
  hsz := siz1027
  hle := one23
  hz1 := rfl
  hz2 := rfl
  hz3 := fun _ => rfl

theorem clo_2358 : Clo Tryz.prog 63 9 33 1 false 100 (.s .empty) where
  shape := ⟨Tryz.f63, Tryz.f64, 64, 45, 20, "ratio.go:291", Tryz.func63, rfl, rfl, rfl, Tryz.func64, rfl, rfl, fun us ue hl h1 h2 => by
    obtain ⟨a, rfl⟩ : ∃ a, us = [a] := by
      match us, hl with
      | [a], _ => exact ⟨a, rfl⟩
    exact caughtS_0 a ue (h1 a (by simp)) h2, fun us ue e hl h1 h2 => by
    obtain ⟨a, rfl⟩ : ∃ a, us = [a] := by
      match us, hl with
      | [a], _ => exact ⟨a, rfl⟩
    exact caughtS_1 a ue (h1 a (by simp)) h2 e⟩
  hm := mixed
  hld := .inr ⟨rfl, rfl, one9⟩
  hsz := siz9
  hle := one23
  hz1 := rfl
  hz2 := rfl
  hz3 := fun _ => rfl

theorem mustN (l : List Int) : Spec Tryz.prog 34 [.n false .u64 l, .i .i64 0] (fun o => o = .ret (.n false .u64 l)) := by
  refine spec_of' [(0, .n false .u64 l), (1, .i .i64 0)] rfl Tryz.func34 rfl (zlb rfl) fun Γ hN hds hL hR => ?_
  have hd := hdOf 11 hN
  refine zsr <| zas rfl (hd 4 rfl) <| jo_nil <| jc_seq <| zsr <| zmv rfl (hd 5 rfl) <| jo_l (ly_ff (ly_ne rfl rfl) (by decide)) (hd 6 rfl) <| jo_nil <| jc_litf rfl <| jc_skip <| jc_seq ?_; refine jc_region <| zmv rfl (hd 10 rfl) <| zas rfl (hd 4 rfl) <| jo_nil <| jc_ret ?_
  refine ⟨_, _, (.cons rfl .nil), .n, ?_⟩
  exact rfl

theorem mustW (s : Bool) (l : List Int) : Spec Tryz.prog 36 [.a [.b s, .n false .u64 l], .i .i64 0] (fun o => o = .ret (.a [.b s, .n false .u64 l])) := by
  refine spec_of' [(0, .a [.b s, .n false .u64 l]), (1, .i .i64 0)] rfl Tryz.func36 rfl (zlb rfl) fun Γ hN hds hL hR => ?_
  have hd := hdOf 11 hN
  refine zsr <| jo_h (hy_box (id := 0) (n := 2) rfl rfl rfl (by decide) rfl) (hd 2 rfl) <| jo_h (hy_alloc (id := 1) zero30 (by decide) rfl (by decide) rfl) (hd 4 rfl) <| jo_nil <| jc_seq <| zsr <| zmv rfl (hd 5 rfl) <| jo_l (ly_ff (ly_ne rfl rfl) (by decide)) (hd 6 rfl) <| jo_nil <| jc_litf rfl <| jc_skip ?_; refine zsr <| jo_l (ly_lda agg30 rfl rfl rfl rfl) (hd 10 rfl) <| jo_st (sy_store rfl rfl rfl siz30 rfl rfl (zlb rfl)) <| jo_nil <| jc_ret ?_
  refine ⟨_, _, (.cons (ResV.cell agg30 rfl rfl rfl rfl) .nil), (.a1 .b (.a1 .n .a0)), ?_⟩
  exact rfl

theorem mustS (s : ByteArray) : Spec Tryz.prog 65 [.s s, .i .i64 0] (fun o => o = .ret (.s s)) := by
  refine spec_of' [(0, .s s), (1, .i .i64 0)] rfl Tryz.func65 rfl (zlb rfl) fun Γ hN hds hL hR => ?_
  have hd := hdOf 11 hN
  refine zsr <| zas rfl (hd 4 rfl) <| jo_nil <| jc_seq <| zsr <| zmv rfl (hd 5 rfl) <| jo_l (ly_ff (ly_ne rfl rfl) (by decide)) (hd 6 rfl) <| jo_nil <| jc_litf rfl <| jc_skip <| jc_seq ?_; refine jc_region <| zmv rfl (hd 10 rfl) <| zas rfl (hd 4 rfl) <| jo_nil <| jc_ret ?_
  refine ⟨_, _, (.cons rfl .nil), .s, ?_⟩
  exact rfl

theorem mustR (s : Bool) (l d : List Int) : Spec Tryz.prog 43 [.a [.b s, .n false .u64 l, .n false .u64 d], .i .i64 0] (fun o => o = .ret (.a [.b s, .n false .u64 l, .n false .u64 d])) := by
  refine spec_of' [(0, .a [.b s, .n false .u64 l, .n false .u64 d]), (1, .i .i64 0)] rfl Tryz.func43 rfl (zlb rfl) fun Γ hN hds hL hR => ?_
  have hd := hdOf 11 hN
  refine zsr <| jo_h (hy_box (id := 0) (n := 3) rfl rfl rfl (by decide) rfl) (hd 2 rfl) <| jo_h (hy_alloc (id := 1) zero1027 (by decide) rfl (by decide) rfl) (hd 4 rfl) <| jo_nil <| jc_seq <| zsr <| zmv rfl (hd 5 rfl) <| jo_l (ly_ff (ly_ne rfl rfl) (by decide)) (hd 6 rfl) <| jo_nil <| jc_litf rfl <| jc_skip ?_; refine zsr <| jo_l (ly_lda agg1027 rfl rfl rfl rfl) (hd 10 rfl) <| jo_st (sy_store rfl rfl rfl siz1027 rfl rfl (zlb rfl)) <| jo_nil <| jc_ret ?_
  refine ⟨_, _, (.cons (ResV.cell agg1027 rfl rfl rfl rfl) .nil), (.a1 .b (.a1 .n (.a1 .n .a0))), ?_⟩
  exact rfl

theorem caughtL_0 (a ue : Value) (ha : a.oneCell' = true) (hu : ue.oneCell' = true) : Spec Tryz.prog 74 [.c .nilIface, .c a, .c ue] (fun o => o = .ret (.t [.c a, .c ue])) := by
  refine spec_of' [(0, .c .nilIface), (1, .c a), (2, .c ue)] rfl Tryz.func74 rfl (zlb rfl) fun Γ hN hds hL hR => ?_
  have hd := hdOf 26 hN
  refine zsr <| zas rfl (hd 6 rfl) <| zas rfl (hd 7 rfl) <| jo_nil <| jc_seq <| zsr <| zmv rfl (hd 11 rfl) <| jo_l (ly_eqi0 undI20 rfl) (hd 12 rfl) <| jo_nil <| jc_litt rfl <| jc_seq ?_; refine jc_region <| zmv rfl (hd 13 rfl) <| zmv rfl (hd 14 rfl) <| zas rfl (hd 6 rfl) <| zas rfl (hd 7 rfl) <| jo_nil <| jc_ret ?_
  refine ⟨_, _, (.cons rfl (.cons rfl .nil)), (.t1 .c (.t1 .c .t0)), ?_⟩
  exact rfl

theorem caughtL_1 (a ue : Value) (ha : a.oneCell' = true) (hu : ue.oneCell' = true) (e : Int) : Spec Tryz.prog 74 [.c (.iface 100 (.agg #[.int .i64 e])), .c a, .c ue] (fun o => o = .ret (.t [.c (.slice none 0 0), .i .i64 e])) := by
  refine spec_of' [(0, .c (.iface 100 (.agg #[.int .i64 e]))), (1, .c a), (2, .c ue)] rfl Tryz.func74 rfl (zlb rfl) fun Γ hN hds hL hR => ?_
  have hd := hdOf 26 hN
  refine zsr <| zas rfl (hd 6 rfl) <| zas rfl (hd 7 rfl) <| jo_nil <| jc_seq <| zsr <| zmv rfl (hd 11 rfl) <| jo_l (ly_eqi1 undI20 rfl) (hd 12 rfl) <| jo_nil <| jc_litf rfl <| jc_skip ?_; refine zsr <| zmv rfl (hd 16 rfl) <| jo_l (ly_ta ndi1100 rfl) (hd 17 rfl) <| zmv rfl (hd 15 rfl) <| jo_l (ly_ext rfl rfl) (hd 18 rfl) <| jo_l (ly_ext rfl rfl) (hd 19 rfl) <| jo_h (hy_alloc (id := 0) zero1100 (by decide) rfl (by decide) rfl) (hd 8 rfl) <| jo_st (sy_store rfl rfl rfl siz1100 rfl rfl (zlb rfl)) <| zas rfl (hd 9 rfl) <| jo_nil <| jc_seq <| jc_seq ?_; refine jc_region <| zmv rfl (hd 20 rfl) <| jo_l (ly_not rfl) (hd 21 rfl) <| jo_nil <| jc_litf rfl <| jc_skip <| zsr <| zas rfl (hd 10 rfl) <| jo_nil <| jc_seq <| jc_draw (n := 5) _ rfl mixed <| zal 0 (lo_l (ly_mv rfl) (hd 23 rfl)) rfl ?_; refine zal 1 (lo_l (ly_fa fld1100_0 rfl rfl rfl) (hd 24 rfl)) rfl <| zal 2 (lo_l (ly_ld one23 rfl rfl rfl) (hd 25 rfl)) rfl <| zal 3 (lo_l (ly_as rfl) (hd 6 rfl)) rfl <| zal 4 (lo_l (ly_as rfl) (hd 7 rfl)) rfl <| ja_nil (by kernel_rfl) <| jc_ret ?_
  refine ⟨_, _, (.cons rfl (.cons rfl .nil)), (.t1 .c (.t1 .i .t0)), ?_⟩
  exact rfl

theorem clo_2383 : Clo Tryz.prog 73 48 33 1 false 100 (.c (.slice none 0 0)) where
  shape := ⟨Tryz.f73, Tryz.f74, 74, 49, 20, "ratio.go:306", Tryz.func73, rfl, rfl, rfl, Tryz.func74, rfl, rfl, fun us ue hl h1 h2 => by
    obtain ⟨a, rfl⟩ : ∃ a, us = [a] := by
      match us, hl with
      | [a], _ => exact ⟨a, rfl⟩
    exact caughtL_0 a ue (h1 a (by simp)) h2, fun us ue e hl h1 h2 => by
    obtain ⟨a, rfl⟩ : ∃ a, us = [a] := by
      match us, hl with
      | [a], _ => exact ⟨a, rfl⟩
    exact caughtL_1 a ue (h1 a (by simp)) h2 e⟩
  hm := mixed
  hld := .inr ⟨rfl, rfl, one56⟩
  hsz := siz56
  hle := one23
  hz1 := rfl
  hz2 := rfl
  hz3 := fun _ => rfl

theorem clo_2385 : Clo Tryz.prog 77 27 33 3 true 100 (.a [.b false, .n false .u64 [], .n false .u64 []]) where
  shape := ⟨Tryz.f77, Tryz.f30, 30, 34, 20, "ratio.go:325", Tryz.func77, rfl, rfl, rfl, Tryz.func30, rfl, rfl, fun us ue hl h1 h2 => by
    obtain ⟨a, b, c, rfl⟩ : ∃ a b c, us = [a, b, c] := by
      match us, hl with
      | [a, b, c], _ => exact ⟨a, b, c, rfl⟩
    exact caughtR_0 a b c ue (h1 a (by simp)) (h1 b (by simp)) (h1 c (by simp)) h2, fun us ue e hl h1 h2 => by
    obtain ⟨a, b, c, rfl⟩ : ∃ a b c, us = [a, b, c] := by
      match us, hl with
      | [a, b, c], _ => exact ⟨a, b, c, rfl⟩
    exact caughtR_1 a b c ue (h1 a (by simp)) (h1 b (by simp)) (h1 c (by simp)) h2 e⟩
  hm := mixed
  hld := .inl ⟨rfl, agg1027⟩
  hsz := siz1027
  hle := one23
  hz1 := rfl
  hz2 := rfl
  hz3 := fun _ => rfl

theorem rel_oldn {w : World} {M : Nat → Prop} {B : Nat} {ρ : List Re} {fr : Bool} {k : IntKind} {l : List Int} {v : Value} (h : Rel w M B ρ (.n fr k l) v) : Rel w M B ρ (.n false k l) v := by
  obtain ⟨A, c, e, h1, h2, h3⟩ := h
  exact ⟨A, c, e, h1, h2, fun hl => by obtain ⟨ad, e1, hb, hc⟩ := h3 hl; exact ⟨ad, e1, ⟨hb.1, hb.2.1, by simp⟩, hc⟩⟩
theorem relL_map {w : World} {M : Nat → Prop} {B : Nat} {ρ : List Re} {f : V → V} (hf : ∀ y v, Rel w M B ρ y v → Rel w M B ρ (f y) v) : ∀ (ys : List V) (us : List Value), RelL w M B ρ ys us → RelL w M B ρ (ys.map f) us
  | [], us, h => h
  | y :: ys, us, ⟨u, us', e, h1, h2⟩ => ⟨u, us', e, hf y u h1, relL_map hf ys us' h2⟩
def olds : V → V
  | .a [.b s, .n _ k l] => .a [.b s, .n false k l]
  | v => v
theorem rel_olds {w : World} {M : Nat → Prop} {B : Nat} {ρ : List Re} (y : V) (v : Value) (h : Rel w M B ρ y v) : Rel w M B ρ (olds y) v := by
  unfold olds
  split
  · obtain ⟨us, e, u, us', e1, h1, u2, us2, e2, h2, h3⟩ := h
    exact ⟨us, e, u, us', e1, h1, u2, us2, e2, rel_oldn h2, h3⟩
  · exact h
theorem Spec.olds {P : Program} {f : FuncId} {args : List V} {ys : List V} (h : Spec P f args (fun o => o = .ret (.t ys))) : Spec P f args (fun o => o = .ret (.t (ys.map Vc.olds))) :=
  h.weak fun o ho => by
    subst ho
    refine ⟨_, rfl, fun w M B e h => ?_⟩
    obtain ⟨v, h1, us, h2, h3⟩ := h
    exact ⟨v, h1, us, h2, relL_map rel_olds _ _ h3⟩

theorem Rw.mk' {l : List Int} (hu : u64s l) (hl : l.length ≤ 1048576) : Rw l (vl l).toNat := ⟨hu, (Int.toNat_of_nonneg (vl_nonneg hu)).symm, hl⟩
set_option maxRecDepth 100000 in
theorem openQ {H : Type} {enc : TypeId × Value → H} {w : World} {sp : Nat → Bool} {held : Bool} {r : Reach} {b0 : Nat} {v : Value} {d : DataW H} {ps : List MemPlace} (hval : Value.okWide Tryz.prog w r b0 27 v) (hd : DataW.Trod enc Tryz.prog w 0 sp held 27 v d ps) :
    ∃ (s : Bool) (l e : List Int), Rel w (fun _ => False) w.heap.size [] (.a [.b s, .n false .u64 l, .n false .u64 e]) v ∧ l.length + e.length + 3 ≤ Rows.uptoBulk d ∧ u64s l ∧ u64s e := by
  obtain ⟨cs, rfl, hsz⟩ := Go.WideShapes.okWide_struct Tryz.underlying27 hval
  obtain ⟨fuel, hd⟩ := hd
  have hcl : (Value.agg cs).cells.toList = cs.toList := rfl
  rw [hcl] at hd
  obtain ⟨y0, y1, n, hx, hl, h0, h1⟩ := Go.ChangeShapes.trod_struct2 Tryz.underlying27 hd
  injection hx with hx _; subst hx
  have hl' : cs.toList.length = 3 := hl
  obtain ⟨c0, c1, c2, hcs⟩ : ∃ c0 c1 c2, cs.toList = [c0, c1, c2] := by
    match hm : cs.toList, hl' with
    | [a, b, c], _ => exact ⟨a, b, c, rfl⟩
  rw [hcs] at h0 h1
  have h0' : DataW.trod enc Tryz.prog w 0 sp held n 25 [c0, c1] = some y0 := h0
  obtain ⟨u0, u1, m, hy, hl2, g0, g1⟩ := Go.ChangeShapes.trod_struct2 Tryz.underlying25 h0'
  subst hy
  obtain ⟨s, e0, hy0⟩ := DataW.trod_bool Tryz.underlying4 g0
  have e0' : [c0] = [Value.bool s] := e0
  injection e0' with e0'; subst e0'; subst hy0
  have g1' : DataW.trod enc Tryz.prog w 0 sp held m 23 [c1] = some u1 := g1
  obtain ⟨l, k1, k2, k3⟩ := open_numsV Tryz.underlying23 Tryz.underlying79 (show Tryz.prog.cellsOf 79 = 1 by kernel_rfl) g1'
  have h1' : DataW.trod enc Tryz.prog w 0 sp held n 23 [c2] = some y1 := h1
  obtain ⟨e, k4, k5, k6⟩ := open_numsV Tryz.underlying23 Tryz.underlying79 (show Tryz.prog.cellsOf 79 = 1 by kernel_rfl) h1'
  refine ⟨s, l, e, ⟨cs.toList, by simp, ?_⟩, ?_, fun y hy => wf_u64 (k3 y hy), fun y hy => wf_u64 (k6 y hy)⟩
  · rw [hcs]; exact ⟨_, _, rfl, rfl, _, _, rfl, k1, _, _, rfl, k4, rfl⟩
  · simp only [Rows.uptoBulk, Rows.uptoBulkAll]; omega
theorem short1q {H : Type} {d0 : DataW H} {rest : List (DataW H)} {l0 e0 : List Int} (hk : Rows.uptoSmall H (d0 :: rest) = true) (h0 : l0.length + e0.length + 3 ≤ Rows.uptoBulk d0) : l0.length + e0.length ≤ 1048573 := by
  have h : Rows.uptoBulkAll (d0 :: rest) ≤ 1048576 := of_decide_eq_true hk
  simp only [Rows.uptoBulkAll] at h
  omega

theorem mfits_l (l : List Int) (hl : l.length < 1099511627776) (hu : u64s l) : Spec Tryz.prog 115 [.n false .u64 l] (fun o => ∃ (r : List Int) (e : Int), o = .ret (.t [.n true .u64 r, .i .i64 e]) ∧ ErrL (vl l) r e) := by
  refine spec_of' [(0, .n false .u64 l)] rfl Tryz.func115 rfl (zlb rfl) fun Γ hN hds hL hR => ?_
  have hd := hdOf 10 hN
  have hm := trm_len l
  refine zsr <| zas rfl (hd 2 rfl) <| zas rfl (hd 3 rfl) <| jo_nil <| zsr <| zmv rfl (hd 4 rfl) ?_
  refine jo_call Tryz.f51 (Norm_s l hl) rfl Tryz.func51 rfl rfl (ovL_cons rfl ovL_nil) (.cons .n .nil) (hd 5 rfl) ?_ (fun ch hp => by simp at hp)
  rintro _ ⟨⟩; refine zas rfl (hd 0 rfl) <| jo_nil <| jc_seq <| zsr <| zmv rfl (hd 6 rfl) ?_
  refine jo_call Tryz.f39 (Length_s (trm l) (by omega) (u64s_trm hu)) rfl Tryz.func39 rfl rfl (ovL_cons rfl ovL_nil) (.cons .n .nil) (hd 7 rfl) ?_ (fun ch hp => by simp at hp)
  rintro _ ⟨⟩; refine jo_l (ly_gt rfl rfl) (hd 8 rfl) <| jo_nil ?_
  refine jc_if rfl (fun h1 => ?_) (fun h1 => ?_)
  · refine zsr <| zas rfl (hd 2 rfl) <| zas rfl (hd 3 rfl) <| jo_nil <| jc_ret ?_
    refine ⟨_, _, (.cons rfl (.cons rfl .nil)), (.t1 (.nil (fr := true) (k := .u64)) (.t1 .i .t0)), ?_⟩
    exact ⟨[], 3, rfl, errL_big hu rfl (by rw [lenN_trm] at *; omega)⟩
  · refine jc_skip <| zsr <| zmv rfl (hd 9 rfl) <| zas rfl (hd 2 rfl) <| zas rfl (hd 3 rfl) <| jo_nil <| jc_ret ?_
    refine ⟨_, _, (.cons rfl (.cons rfl .nil)), (.t1 .n (.t1 .i .t0)), ?_⟩
    exact ⟨_, 0, rfl, errL_ok hu rfl (by rw [lenN_trm] at *; omega)⟩

theorem product_l (a b : List Int) (hla : a.length < 4294967296) (hlb : b.length < 4294967296) (ua : u64s a) (ub : u64s b) : Spec Tryz.prog 88 [.n false .u64 a, .n false .u64 b, .f 89 []] (fun o => ∃ (r : List Int) (e : Int), o = .ret (.t [.n true .u64 r, .i .i64 e]) ∧ ErrL (vl a * vl b) r e) := by
  refine spec_of' [(0, .n false .u64 a), (1, .n false .u64 b), (2, .f 89 [])] rfl Tryz.func88 rfl (zlb rfl) fun Γ hN hds hL hR => ?_
  have hd := hdOf 22 hN
  have hma := trm_len a
  have hmb := trm_len b
  refine zsr <| zas rfl (hd 6 rfl) <| zas rfl (hd 7 rfl) <| jo_nil <| zsr <| zmv rfl (hd 8 rfl) ?_
  refine jo_call Tryz.f51 (Norm_s a (by omega)) rfl Tryz.func51 rfl rfl (ovL_cons rfl ovL_nil) (.cons .n .nil) (hd 9 rfl) ?_ (fun ch hp => by simp at hp)
  rintro _ ⟨⟩; refine zmv rfl (hd 10 rfl) ?_
  refine jo_call Tryz.f51 (Norm_s b (by omega)) rfl Tryz.func51 rfl rfl (ovL_cons rfl ovL_nil) (.cons .n .nil) (hd 11 rfl) ?_ (fun ch hp => by simp at hp)
  rintro _ ⟨⟩; refine zas rfl (hd 0 rfl) <| zas rfl (hd 1 rfl) <| jo_nil <| jc_seq <| zsr <| zmv rfl (hd 12 rfl) <| zmv rfl (hd 13 rfl) ?_
  refine jo_call Tryz.f114 (great_e (trm a) (trm b) (by omega) (by omega) (u64s_trm ua) (u64s_trm ub)) rfl Tryz.func114 rfl rfl (ovL_cons rfl (ovL_cons rfl ovL_nil)) (.cons .n (.cons .n .nil)) (hd 14 rfl) ?_ (fun ch hp => by simp at hp)
  rintro y ⟨x, hy, hx⟩; injection hy with hy; subst hy; refine jo_nil ?_
  refine jc_cond rfl (fun h1 => ?_) (fun h1 => ?_)
  · refine zsr <| zas rfl (hd 6 rfl) <| zas rfl (hd 7 rfl) <| jo_nil <| jc_ret ?_
    refine ⟨_, _, (.cons rfl (.cons rfl .nil)), (.t1 (.nil (fr := true) (k := .u64)) (.t1 .i .t0)), ?_⟩
    refine ⟨[], 3, rfl, ?_⟩
    obtain ⟨g1, g2, g3⟩ := hx (by assumption)
    have := errN_great (r := []) (u64s_trm ua) (u64s_trm ub) g1 g2 g3
    rw [vl_trm, vl_trm] at this
    exact errL_of this
  · refine jc_skip <| zsr <| zmv rfl (hd 15 rfl) <| zmv rfl (hd 16 rfl) <| zmv rfl (hd 17 rfl) ?_
    refine jo_call Tryz.f89 (way_s (trm a) (trm b) (by omega) (by omega) (u64s_trm ua) (u64s_trm ub)) rfl Tryz.func89 rfl rfl (ovL_cons rfl (ovL_cons rfl ovL_nil)) (.cons .n (.cons .n .nil)) (hd 18 rfl) ?_ (fun ch hp => by simp at hp)
    rintro y ⟨rs, hy, us, ls, vs⟩; injection hy with hy; subst hy
    refine jo_call Tryz.f115 (mfits_l rs (by omega) us) rfl Tryz.func115 rfl rfl (ovL_cons rfl ovL_nil) (.cons .n .nil) (hd 19 rfl) ?_ (fun ch hp => by simp at hp)
    rintro y ⟨rf, ef, hy, hf⟩; injection hy with hy; subst hy; refine jo_l (ly_ext rfl rfl) (hd 20 rfl) <| jo_l (ly_ext rfl rfl) (hd 21 rfl) <| zas rfl (hd 6 rfl) <| zas rfl (hd 7 rfl) <| jo_nil <| jc_ret ?_
    refine ⟨_, _, (.cons rfl (.cons rfl .nil)), (.t1 .n (.t1 .i .t0)), ?_⟩
    exact ⟨rf, ef, rfl, by rwa [vs, vl_trm, vl_trm] at hf⟩

theorem Mul_l (a b : List Int) (hla : a.length < 4294967296) (hlb : b.length < 4294967296) (ua : u64s a) (ub : u64s b) : Spec Tryz.prog 41 [.n false .u64 a, .n false .u64 b] (fun o => ∃ (r : List Int) (e : Int), o = .ret (.t [.n true .u64 r, .i .i64 e]) ∧ ErrL (vl a * vl b) r e) := by
  refine spec_of' [(0, .n false .u64 a), (1, .n false .u64 b)] rfl Tryz.func41 rfl (zlb rfl) fun Γ hN hds hL hR => ?_
  have hd := hdOf 11 hN
  refine zsr <| zas rfl (hd 4 rfl) <| zas rfl (hd 5 rfl) <| jo_nil <| zsr <| zmv rfl (hd 6 rfl) <| zmv rfl (hd 7 rfl) ?_
  refine jo_call Tryz.f88 (product_l a b hla hlb ua ub) rfl Tryz.func88 rfl rfl (ovL_cons rfl (ovL_cons rfl (ovL_cons rfl ovL_nil))) (.cons .n (.cons .n (.cons .f .nil))) (hd 8 rfl) ?_ (fun ch hp => by simp at hp)
  rintro y ⟨rp, ep, hy, hp⟩; injection hy with hy; subst hy; refine jo_l (ly_ext rfl rfl) (hd 9 rfl) <| jo_l (ly_ext rfl rfl) (hd 10 rfl) <| zas rfl (hd 4 rfl) <| zas rfl (hd 5 rfl) <| jo_nil <| jc_ret ?_
  refine ⟨_, _, (.cons rfl (.cons rfl .nil)), (.t1 .n (.t1 .i .t0)), ?_⟩
  exact ⟨rp, ep, rfl, hp⟩


theorem Both_r (l : List Int) (w : Int) (hl : l.length ≤ 1048576) (hu : u64s l) (hw : lenV w ≤ 67108864) (h0 : w ≠ 0) : Spec Tryz.prog 121 [.n false .u64 l, .n false .u64 (lm w)] (fun o => o = .ret (.t [.n false .u64 (lm (qn (vl l) w)), .n false .u64 (lm (rn (vl l) w)), .i .i64 0])) := by
  refine spec_of' [(0, .n false .u64 l), (1, .n false .u64 (lm w))] rfl Tryz.func121 rfl (zlb rfl) fun Γ hN hds hL hR => ?_
  have hd := hdOf 32 hN
  have hv : lenV (vl l) ≤ 67108864 := by have := lenV_64 (s := false) hu; have e : sv false l = vl l := rfl; rw [e] at this; omega
  have hlw := lenV_lm hw
  have hle := lenV_mono (v := qn (vl l) w) (w := vl l) qn_le
  have hlr := lenV_mono (v := rn (vl l) w) (w := w) (rn_le h0).1
  have hlq := lenV_lm (v := qn (vl l) w) (by omega)
  have hlR := lenV_lm (v := rn (vl l) w) (by omega)
  have hne := lm_ne h0
  have hlv := lenV_lm hv
  have hNl : Spec Tryz.prog 51 [.n false .u64 l] (fun o => o = .ret (.n true .u64 (lm (vl l)))) := by have h := Norm_s l (by omega); rwa [trm_lm hu rfl] at h
  refine zsr <| zas rfl (hd 4 rfl) <| zas rfl (hd 5 rfl) <| zas rfl (hd 6 rfl) <| jo_nil <| zsr <| zmv rfl (hd 9 rfl) ?_
  refine jo_call Tryz.f51 (hNl) rfl Tryz.func51 rfl rfl (ovL_cons rfl ovL_nil) (.cons .n .nil) (hd 10 rfl) ?_ (fun ch hp => by simp at hp)
  rintro _ ⟨⟩; refine zmv rfl (hd 11 rfl) ?_
  refine jo_call Tryz.f51 (Norm_v w (by omega)) rfl Tryz.func51 rfl rfl (ovL_cons rfl ovL_nil) (.cons .n .nil) (hd 12 rfl) ?_ (fun ch hp => by simp at hp)
  rintro _ ⟨⟩; refine zas rfl (hd 0 rfl) <| zas rfl (hd 1 rfl) <| jo_nil <| jc_seq <| zsr <| zmv rfl (hd 13 rfl) <| jo_l (ly_lenn sl28 rfl) (hd 14 rfl) <| jo_l (ly_ff (ly_eq rfl rfl) (fun h => hne (List.eq_nil_of_length_eq_zero (by omega)))) (hd 15 rfl) <| jo_nil <| jc_litf rfl <| jc_skip <| jc_seq ?_; refine jc_region <| zmv rfl (hd 17 rfl) <| zmv rfl (hd 18 rfl) ?_
  refine jo_call Tryz.f80 (divide_v (vl l) w (by omega) (by omega) h0) rfl Tryz.func80 rfl rfl (ovL_cons rfl (ovL_cons rfl ovL_nil)) (.cons .n (.cons .n .nil)) (hd 19 rfl) ?_ (fun ch hp => by simp at hp)
  rintro _ ⟨⟩; refine zmv rfl (hd 16 rfl) <| jo_l (ly_ext rfl rfl) (hd 20 rfl) <| jo_l (ly_ext rfl rfl) (hd 21 rfl) <| zas rfl (hd 7 rfl) <| zas rfl (hd 8 rfl) <| jo_nil <| jc_seq <| zsr <| zmv rfl (hd 22 rfl) ?_
  refine jo_call Tryz.f39 (Length_v (qn (vl l) w) (by omega)) rfl Tryz.func39 rfl rfl (ovL_cons rfl ovL_nil) (.cons .n .nil) (hd 23 rfl) ?_ (fun ch hp => by simp at hp)
  rintro _ ⟨⟩; refine jo_l (ly_ff (ly_gt rfl rfl) (by omega)) (hd 24 rfl) <| zmv rfl (hd 25 rfl) <| jo_g 25 rfl rfl (ly_mv rfl) (hd 26 rfl) ?_
  refine jo_callg Tryz.f39 25 rfl rfl (Length_v (rn (vl l) w) (by omega)) rfl Tryz.func39 rfl rfl (ovL_cons rfl ovL_nil) (.cons .n .nil) (hd 27 rfl) ?_ (fun ch hp => by simp at hp)
  rintro _ ⟨⟩; refine jo_g 25 rfl rfl (ly_ff (ly_gt rfl rfl) (by omega)) (hd 28 rfl) <| jo_l (ly_pick_f rfl rfl) (hd 29 rfl) <| jo_nil <| jc_litf rfl <| jc_skip <| zsr <| zmv rfl (hd 30 rfl) <| zmv rfl (hd 31 rfl) <| zas rfl (hd 4 rfl) <| zas rfl (hd 5 rfl) <| zas rfl (hd 6 rfl) <| jo_nil ?_; refine jc_ret ?_
  refine ⟨_, _, (.cons rfl (.cons rfl (.cons rfl .nil))), (.t1 .n (.t1 .n (.t1 .i .t0))), ?_⟩
  exact rfl

theorem Square_l (a : List Int) (hla : a.length < 67108864) (ua : u64s a) : Spec Tryz.prog 102 [.n false .u64 a] (fun o => ∃ (r : List Int) (e : Int), o = .ret (.t [.n true .u64 r, .i .i64 e]) ∧ ErrL (vl a * vl a) r e) := by
  refine spec_of' [(0, .n false .u64 a)] rfl Tryz.func102 rfl (zlb rfl) fun Γ hN hds hL hR => ?_
  have hd := hdOf 9 hN
  refine zsr <| zas rfl (hd 2 rfl) <| zas rfl (hd 3 rfl) <| jo_nil <| zsr <| zmv rfl (hd 4 rfl) <| zmv rfl (hd 5 rfl) ?_
  refine jo_call Tryz.f41 (Mul_l a a (by omega) (by omega) ua ua) rfl Tryz.func41 rfl rfl (ovL_cons rfl (ovL_cons rfl ovL_nil)) (.cons .n (.cons .n .nil)) (hd 6 rfl) ?_ (fun ch hp => by simp at hp)
  rintro y ⟨rp, ep, hy, hp⟩; injection hy with hy; subst hy; refine jo_l (ly_ext rfl rfl) (hd 7 rfl) <| jo_l (ly_ext rfl rfl) (hd 8 rfl) <| zas rfl (hd 2 rfl) <| zas rfl (hd 3 rfl) <| jo_nil <| jc_ret ?_
  refine ⟨_, _, (.cons rfl (.cons rfl .nil)), (.t1 .n (.t1 .i .t0)), ?_⟩
  exact ⟨rp, ep, rfl, hp⟩




theorem fits_l (s : Bool) (l : List Int) (v : Int) (hl : l.length < 1099511627776) (hu : u64s l) (hv : sv s l = v) : Spec Tryz.prog 110 [.a [.b s, .n false .u64 l]] (fun o => ∃ (s2 : Bool) (r : List Int) (e : Int), o = .ret (.t [.a [.b s2, .n true .u64 r], .i .i64 e]) ∧ Res (v) s2 r e) := by
  refine spec_of' [(0, .a [.b s, .n false .u64 l])] rfl Tryz.func110 rfl (zlb rfl) fun Γ hN hds hL hR => ?_
  have hd := hdOf 11 hN
  refine zsr <| jo_h (hy_box (id := 0) (n := 2) rfl rfl rfl (by decide) rfl) (hd 1 rfl) <| jo_h (hy_alloc (id := 1) zero30 (by decide) rfl (by decide) rfl) (hd 2 rfl) <| zas rfl (hd 3 rfl) <| jo_nil <| jc_seq <| zsr <| jo_l (ly_fa fld30_1 rfl rfl rfl) (hd 4 rfl) <| jo_l (ly_ld one28 rfl rfl rfl) (hd 5 rfl) ?_
  refine jo_call Tryz.f39 (Length_s l hl hu) rfl Tryz.func39 rfl rfl (ovL_cons rfl ovL_nil) (.cons .n .nil) (hd 6 rfl) ?_ (fun ch hp => by simp at hp)
  rintro _ ⟨⟩; refine jo_l (ly_gt rfl rfl) (hd 7 rfl) <| jo_nil ?_
  refine jc_if rfl (fun h1 => ?_) (fun h1 => ?_)
  · refine zsr <| jo_l (ly_build (is := []) (xs := []) (pls := []) zero30 pls30_ rfl ovL_nil rfl trivial (all_of rfl) rfl) (hd 8 rfl) <| jo_st (sy_store rfl rfl rfl siz30 rfl rfl (zlb rfl)) <| zas rfl (hd 3 rfl) <| jo_nil <| jc_ret ?_
    refine ⟨_, _, (.cons (ResV.cell agg30 rfl rfl rfl rfl) (.cons rfl .nil)), (.t1 (.a1 .b (.a1 (.nil (fr := true) (k := .u64)) .a0)) (.t1 .i .t0)), ?_⟩
    exact ⟨false, [], 3, rfl, res_big hu hv (by omega)⟩
  · refine jc_skip <| zsr <| jo_l (ly_lda agg30 rfl rfl rfl rfl) (hd 9 rfl) ?_
    refine jo_call Tryz.f82 (norm_s s l hl) rfl Tryz.func82 rfl rfl (ovL_cons rfl ovL_nil) (.cons (.a1 .b (.a1 .n .a0)) .nil) (hd 10 rfl) ?_ (fun ch hp => by simp at hp)
    rintro _ ⟨⟩; refine jo_st (sy_store rfl rfl rfl siz30 rfl rfl (zlb rfl)) <| zas rfl (hd 3 rfl) <| jo_nil <| jc_ret ?_
    refine ⟨_, _, (.cons (ResV.cell agg30 rfl rfl rfl rfl) (.cons rfl .nil)), (.t1 (.a1 .b (.a1 .n .a0)) (.t1 .i .t0)), ?_⟩
    exact ⟨_, _, 0, rfl, res_ok hu hv (by omega)⟩

theorem result_l (s : Bool) (l : List Int) (e v : Int) (hRs : ResN v s l e) : Spec Tryz.prog 81 [.b s, .n false .u64 l, .i .i64 e] (fun o => ∃ (s2 : Bool) (r : List Int) (e : Int), o = .ret (.t [.a [.b s2, .n true .u64 r], .i .i64 e]) ∧ Res (v) s2 r e) := by
  refine spec_of' [(0, .b s), (1, .n false .u64 l), (2, .i .i64 e)] rfl Tryz.func81 rfl (zlb rfl) fun Γ hN hds hL hR => ?_
  have hd := hdOf 18 hN
  refine zsr <| jo_h (hy_alloc (id := 0) zero30 (by decide) rfl (by decide) rfl) (hd 6 rfl) <| zas rfl (hd 7 rfl) <| jo_nil <| jc_seq <| zsr <| zmv rfl (hd 8 rfl) <| jo_l (ly_ne rfl rfl) (hd 9 rfl) <| jo_nil ?_
  refine jc_if rfl (fun h1 => ?_) (fun h1 => ?_)
  · have hE : e = 3 ∧ 67108864 < lenV v := by
      rcases hRs with ⟨h, _⟩ | h
      · omega
      · exact h
    refine zsr <| jo_l (ly_build (is := []) (xs := []) (pls := []) zero30 pls30_ rfl ovL_nil rfl trivial (all_of rfl) rfl) (hd 10 rfl) <| zmv rfl (hd 11 rfl) <| jo_st (sy_store rfl rfl rfl siz30 rfl rfl (zlb rfl)) <| zas rfl (hd 7 rfl) <| jo_nil <| jc_ret ?_
    refine ⟨_, _, (.cons (ResV.cell agg30 rfl rfl rfl rfl) (.cons rfl .nil)), (.t1 (.a1 .b (.a1 (.nil (fr := true) (k := .u64)) .a0)) (.t1 .i .t0)), ?_⟩
    exact ⟨false, [], e, rfl, .inr ⟨hE.2, rfl, rfl, hE.1⟩⟩
  · have hE : u64s l ∧ l.length < 1099511627776 ∧ sv s l = v := by
      rcases hRs with ⟨_, h⟩ | ⟨h, _⟩
      · exact h
      · omega
    refine jc_skip <| zsr <| zmv rfl (hd 12 rfl) <| zmv rfl (hd 13 rfl) <| jo_l (ly_build (is := [0, 1]) (xs := [.tmp 12, .tmp 13]) zero30 pls30_0_1 rfl (ovL_cons rfl (ovL_cons rfl ovL_nil)) rfl (by first | (simp [plsOk, cellsV]; done) | (simp [plsOk, cellsV, old]; done)) (all_of rfl) rfl) (hd 14 rfl) ?_
    refine jo_call Tryz.f110 (fits_l s l v hE.2.1 hE.1 hE.2.2) rfl Tryz.func110 rfl rfl (ovL_cons rfl ovL_nil) (.cons (.a1 .b (.a1 .n .a0)) .nil) (hd 15 rfl) ?_ (fun ch hp => by simp at hp)
    rintro y ⟨sf, rf, ef, hy, hf⟩; injection hy with hy; subst hy; refine jo_l (ly_ext rfl rfl) (hd 16 rfl) <| jo_l (ly_ext rfl rfl) (hd 17 rfl) <| jo_st (sy_store rfl rfl rfl siz30 rfl rfl (zlb rfl)) <| zas rfl (hd 7 rfl) <| jo_nil <| jc_ret ?_
    refine ⟨_, _, (.cons (ResV.cell agg30 rfl rfl rfl rfl) (.cons rfl .nil)), (.t1 (.a1 .b (.a1 .n .a0)) (.t1 .i .t0)), ?_⟩
    exact ⟨sf, rf, ef, rfl, hf⟩

theorem WMul_l (s t : Bool) (a b : List Int) (hla : a.length < 4294967296) (hlb : b.length < 4294967296) (ua : u64s a) (ub : u64s b) : Spec Tryz.prog 37 [.a [.b s, .n false .u64 a], .a [.b t, .n false .u64 b]] (fun o => ∃ (s2 : Bool) (r : List Int) (e : Int), o = .ret (.t [.a [.b s2, .n true .u64 r], .i .i64 e]) ∧ Res (sv s a * sv t b) s2 r e) := by
  refine spec_of' [(0, .a [.b s, .n false .u64 a]), (1, .a [.b t, .n false .u64 b])] rfl Tryz.func37 rfl (zlb rfl) fun Γ hN hds hL hR => ?_
  have hd := hdOf 26 hN
  have ha0 := vl_nonneg ua
  have hb0 := vl_nonneg ub
  refine zsr <| jo_h (hy_box (id := 0) (n := 2) rfl rfl rfl (by decide) rfl) (hd 2 rfl) <| jo_h (hy_box (id := 1) (n := 2) rfl rfl rfl (by decide) rfl) (hd 3 rfl) <| jo_h (hy_alloc (id := 2) zero30 (by decide) rfl (by decide) rfl) (hd 4 rfl) <| zas rfl (hd 5 rfl) <| jo_nil <| zsr <| jo_l (ly_fa fld30_1 rfl rfl rfl) (hd 9 rfl) <| jo_l (ly_ld one28 rfl rfl rfl) (hd 10 rfl) <| jo_l (ly_fa fld30_1 rfl rfl rfl) (hd 11 rfl) <| jo_l (ly_ld one28 rfl rfl rfl) (hd 12 rfl) ?_
  refine jo_call Tryz.f41 (MulN_e a b hla hlb ua ub) rfl Tryz.func41 rfl rfl (ovL_cons rfl (ovL_cons rfl ovL_nil)) (.cons .n (.cons .n .nil)) (hd 13 rfl) ?_ (fun ch hp => by simp at hp)
  rintro y ⟨rp, ep, hy, hp⟩; injection hy with hy; subst hy; refine zmv rfl (hd 8 rfl) <| jo_l (ly_ext rfl rfl) (hd 14 rfl) <| jo_l (ly_ext rfl rfl) (hd 15 rfl) <| zas rfl (hd 6 rfl) <| zas rfl (hd 7 rfl) <| jo_nil <| zsr <| jo_l (ly_fa fld30_0 rfl rfl rfl) (hd 16 rfl) <| jo_l (ly_ld one4 rfl rfl rfl) (hd 17 rfl) <| jo_l (ly_fa fld30_0 rfl rfl rfl) (hd 18 rfl) <| jo_l (ly_ld one4 rfl rfl rfl) (hd 19 rfl) <| jo_l (ly_neb und4 rfl rfl) (hd 20 rfl) ?_; refine zmv rfl (hd 21 rfl) <| zmv rfl (hd 22 rfl) ?_
  refine jo_call Tryz.f81 (result_l (!(s == t)) rp ep (sv s a * sv t b) (resN_of hp (Int.mul_nonneg ha0 hb0) (fun q uq hq => sv_mul hq))) rfl Tryz.func81 rfl rfl (ovL_cons rfl (ovL_cons rfl (ovL_cons rfl ovL_nil))) (.cons .b (.cons .n (.cons .i .nil))) (hd 23 rfl) ?_ (fun ch hp => by simp at hp)
  rintro y ⟨sr, rr, er, hy, hr⟩; injection hy with hy; subst hy; refine jo_l (ly_ext rfl rfl) (hd 24 rfl) <| jo_l (ly_ext rfl rfl) (hd 25 rfl) <| jo_st (sy_store rfl rfl rfl siz30 rfl rfl (zlb rfl)) <| zas rfl (hd 5 rfl) <| jo_nil <| jc_ret ?_
  refine ⟨_, _, (.cons (ResV.cell agg30 rfl rfl rfl rfl) (.cons rfl .nil)), (.t1 (.a1 .b (.a1 .n .a0)) (.t1 .i .t0)), ?_⟩
  exact ⟨sr, rr, er, rfl, hr⟩

theorem WAdd_l (s t : Bool) (a b : List Int) (hla : a.length < 4294967296) (hlb : b.length < 4294967296) (ua : u64s a) (ub : u64s b) : Spec Tryz.prog 38 [.a [.b s, .n false .u64 a], .a [.b t, .n false .u64 b]] (fun o => ∃ (s2 : Bool) (r : List Int) (e : Int), o = .ret (.t [.a [.b s2, .n true .u64 r], .i .i64 e]) ∧ Res (sv s a + sv t b) s2 r e) := by
  refine spec_of' [(0, .a [.b s, .n false .u64 a]), (1, .a [.b t, .n false .u64 b])] rfl Tryz.func38 rfl (zlb rfl) fun Γ hN hds hL hR => ?_
  have hd := hdOf 57 hN
  have hma := trm_len a
  have hmb := trm_len b
  have hcv := cmpL_val (u64s_trm ua) (u64s_trm ub)
  rw [trm_trm, trm_trm] at hcv
  have ea1 := sv_norm (s := s) ua
  have eb1 := sv_norm (s := t) ub
  have ha0 := vl_nonneg (u64s_trm ua)
  have hb0 := vl_nonneg (u64s_trm ub)
  refine zsr <| jo_h (hy_box (id := 0) (n := 2) rfl rfl rfl (by decide) rfl) (hd 2 rfl) <| jo_h (hy_box (id := 1) (n := 2) rfl rfl rfl (by decide) rfl) (hd 3 rfl) <| jo_h (hy_alloc (id := 2) zero30 (by decide) rfl (by decide) rfl) (hd 4 rfl) <| zas rfl (hd 5 rfl) <| jo_nil <| jc_seq <| jc_draw (n := 6) _ rfl mixed <| zal2 0 [1, 3, 4, 5] (lo_l (ly_lda agg30 rfl rfl rfl rfl) (hd 10 rfl)) rfl <| zal2 2 [3, 4, 5] (lo_l (ly_lda agg30 rfl rfl rfl rfl) (hd 12 rfl)) rfl ?_
  refine ja_1 1 ?_ rfl (by kernel_rfl)
  refine js_call Tryz.f82 (norm_s s a (by omega)) rfl Tryz.func82 rfl rfl (ovL_cons rfl ovL_nil) (.cons (.a1 .b (.a1 .n .a0)) .nil) (hd 11 rfl) ?_ (fun ch hp => by simp at hp)
  rintro y hy; injection hy with hy; subst hy
  refine ja_1 3 ?_ rfl (by kernel_rfl)
  refine js_call Tryz.f82 (norm_s t b (by omega)) rfl Tryz.func82 rfl rfl (ovL_cons rfl ovL_nil) (.cons (.a1 .b (.a1 .n .a0)) .nil) (hd 13 rfl) ?_ (fun ch hp => by simp at hp)
  rintro y hy; injection hy with hy; subst hy
  refine ja_1 4 ?_ rfl (by kernel_rfl)
  refine js_st (sy_store rfl rfl rfl siz30 rfl rfl (zlb rfl)) rfl ?_
  refine ja_1 5 ?_ rfl (by kernel_rfl)
  refine js_st (sy_store rfl rfl rfl siz30 rfl rfl (zlb rfl)) rfl <| ja_nil (by kernel_rfl) <| jc_seq <| zsr <| jo_l (ly_fa fld30_0 rfl rfl rfl) (hd 14 rfl) <| jo_l (ly_ld one4 rfl rfl rfl) (hd 15 rfl) <| jo_l (ly_fa fld30_0 rfl rfl rfl) (hd 16 rfl) <| jo_l (ly_ld one4 rfl rfl rfl) (hd 17 rfl) <| jo_l (ly_eqb und4 rfl rfl) (hd 18 rfl) <| jo_nil ?_
  refine jc_cond rfl (fun h1 => ?_) (fun h1 => ?_)
  · refine zsr <| jo_l (ly_fa fld30_1 rfl rfl rfl) (hd 20 rfl) <| jo_l (ly_ld one28 rfl rfl rfl) (hd 21 rfl) <| jo_l (ly_fa fld30_1 rfl rfl rfl) (hd 22 rfl) <| jo_l (ly_ld one28 rfl rfl rfl) (hd 23 rfl) ?_
    refine jo_call Tryz.f83 (AddN_e (trm a) (trm b) (by omega) (by omega) (u64s_trm ua) (u64s_trm ub)) rfl Tryz.func83 rfl rfl (ovL_cons rfl (ovL_cons rfl ovL_nil)) (.cons .n (.cons .n .nil)) (hd 24 rfl) ?_ (fun ch hp => by simp at hp)
    rintro y ⟨ra, ea, hy, ha⟩; injection hy with hy; subst hy; refine zmv rfl (hd 19 rfl) <| jo_l (ly_ext rfl rfl) (hd 25 rfl) <| jo_l (ly_ext rfl rfl) (hd 26 rfl) <| zas rfl (hd 6 rfl) <| zas rfl (hd 7 rfl) <| jo_nil <| zsr <| jo_l (ly_fa fld30_0 rfl rfl rfl) (hd 27 rfl) <| jo_l (ly_ld one4 rfl rfl rfl) (hd 28 rfl) <| zmv rfl (hd 29 rfl) <| zmv rfl (hd 30 rfl) ?_
    refine jo_call Tryz.f81 (result_l (s && decide (0 < ((trm a).length : Int))) ra ea (sv s a + sv t b) (resN_of ha (by omega) (fun q uq hq => add_val (by assumption) hq ea1 eb1))) rfl Tryz.func81 rfl rfl (ovL_cons rfl (ovL_cons rfl (ovL_cons rfl ovL_nil))) (.cons .b (.cons .n (.cons .i .nil))) (hd 31 rfl) ?_ (fun ch hp => by simp at hp)
    rintro y ⟨sr, rr, er, hy, hr⟩; injection hy with hy; subst hy; refine jo_l (ly_ext rfl rfl) (hd 32 rfl) <| jo_l (ly_ext rfl rfl) (hd 33 rfl) <| jo_st (sy_store rfl rfl rfl siz30 rfl rfl (zlb rfl)) <| zas rfl (hd 5 rfl) <| jo_nil <| jc_ret ?_
    refine ⟨_, _, (.cons (ResV.cell agg30 rfl rfl rfl rfl) (.cons rfl .nil)), (.t1 (.a1 .b (.a1 .n .a0)) (.t1 .i .t0)), ?_⟩
    exact ⟨sr, rr, er, rfl, hr⟩
  · refine jc_skip <| jc_seq <| zsr <| jo_l (ly_fa fld30_1 rfl rfl rfl) (hd 34 rfl) <| jo_l (ly_ld one28 rfl rfl rfl) (hd 35 rfl) <| jo_l (ly_fa fld30_1 rfl rfl rfl) (hd 36 rfl) <| jo_l (ly_ld one28 rfl rfl rfl) (hd 37 rfl) ?_
    refine jo_call Tryz.f67 (Compare_s (trm a) (trm b) (by omega) (by omega)) rfl Tryz.func67 rfl rfl (ovL_cons rfl (ovL_cons rfl ovL_nil)) (.cons .n (.cons .n .nil)) (hd 38 rfl) ?_ (fun ch hp => by simp at hp)
    rintro _ ⟨⟩; refine jo_l (ly_lt rfl rfl) (hd 39 rfl) <| jo_nil ?_
    refine jc_if rfl (fun h2 => ?_) (fun h2 => ?_)
    · rw [trm_trm, trm_trm] at h2
      refine jc_region <| jo_l (ly_lda agg30 rfl rfl rfl rfl) (hd 40 rfl) <| jo_l (ly_lda agg30 rfl rfl rfl rfl) (hd 41 rfl) <| jo_st (sy_store rfl rfl rfl siz30 rfl rfl (zlb rfl)) <| jo_st (sy_store rfl rfl rfl siz30 rfl rfl (zlb rfl)) <| jo_nil <| zsr <| jo_l (ly_fa fld30_1 rfl rfl rfl) (hd 43 rfl) <| jo_l (ly_ld one28 rfl rfl rfl) (hd 44 rfl) <| jo_l (ly_fa fld30_1 rfl rfl rfl) (hd 45 rfl) <| jo_l (ly_ld one28 rfl rfl rfl) (hd 46 rfl) ?_
      refine jo_call Tryz.f84 (SubN_e (trm b) (trm a) (by omega) (by omega) (u64s_trm ub) (u64s_trm ua) (by rcases hcv with ⟨c, v⟩ | ⟨c, v⟩ | ⟨c, v⟩ <;> omega)) rfl Tryz.func84 rfl rfl (ovL_cons rfl (ovL_cons rfl ovL_nil)) (.cons .n (.cons .n .nil)) (hd 47 rfl) ?_ (fun ch hp => by simp at hp)
      rintro y ⟨ra, ea, hy, ha⟩; injection hy with hy; subst hy; refine zmv rfl (hd 42 rfl) <| jo_l (ly_ext rfl rfl) (hd 48 rfl) <| jo_l (ly_ext rfl rfl) (hd 49 rfl) <| zas rfl (hd 8 rfl) <| zas rfl (hd 9 rfl) <| jo_nil <| zsr <| jo_l (ly_fa fld30_0 rfl rfl rfl) (hd 50 rfl) <| jo_l (ly_ld one4 rfl rfl rfl) (hd 51 rfl) <| zmv rfl (hd 52 rfl) <| zmv rfl (hd 53 rfl) ?_
      refine jo_call Tryz.f81 (result_l (t && decide (0 < ((trm b).length : Int))) ra ea (sv s a + sv t b) (resN_of ha (by rcases hcv with ⟨c, v⟩ | ⟨c, v⟩ | ⟨c, v⟩ <;> omega) (fun q uq hq => (sub_val (by rw [Bool.beq_comm]; assumption) hq eb1 ea1).trans (Int.add_comm _ _)))) rfl Tryz.func81 rfl rfl (ovL_cons rfl (ovL_cons rfl (ovL_cons rfl ovL_nil))) (.cons .b (.cons .n (.cons .i .nil))) (hd 54 rfl) ?_ (fun ch hp => by simp at hp)
      rintro y ⟨sr, rr, er, hy, hr⟩; injection hy with hy; subst hy; refine jo_l (ly_ext rfl rfl) (hd 55 rfl) <| jo_l (ly_ext rfl rfl) (hd 56 rfl) <| jo_st (sy_store rfl rfl rfl siz30 rfl rfl (zlb rfl)) <| zas rfl (hd 5 rfl) <| jo_nil <| jc_ret ?_
      refine ⟨_, _, (.cons (ResV.cell agg30 rfl rfl rfl rfl) (.cons rfl .nil)), (.t1 (.a1 .b (.a1 .n .a0)) (.t1 .i .t0)), ?_⟩
      exact ⟨sr, rr, er, rfl, hr⟩
    · rw [trm_trm, trm_trm] at h2
      refine jc_skip <| zsr <| jo_l (ly_fa fld30_1 rfl rfl rfl) (hd 43 rfl) <| jo_l (ly_ld one28 rfl rfl rfl) (hd 44 rfl) <| jo_l (ly_fa fld30_1 rfl rfl rfl) (hd 45 rfl) <| jo_l (ly_ld one28 rfl rfl rfl) (hd 46 rfl) ?_
      refine jo_call Tryz.f84 (SubN_e (trm a) (trm b) (by omega) (by omega) (u64s_trm ua) (u64s_trm ub) (by rcases hcv with ⟨c, v⟩ | ⟨c, v⟩ | ⟨c, v⟩ <;> omega)) rfl Tryz.func84 rfl rfl (ovL_cons rfl (ovL_cons rfl ovL_nil)) (.cons .n (.cons .n .nil)) (hd 47 rfl) ?_ (fun ch hp => by simp at hp)
      rintro y ⟨ra, ea, hy, ha⟩; injection hy with hy; subst hy; refine zmv rfl (hd 42 rfl) <| jo_l (ly_ext rfl rfl) (hd 48 rfl) <| jo_l (ly_ext rfl rfl) (hd 49 rfl) <| zas rfl (hd 8 rfl) <| zas rfl (hd 9 rfl) <| jo_nil <| zsr <| jo_l (ly_fa fld30_0 rfl rfl rfl) (hd 50 rfl) <| jo_l (ly_ld one4 rfl rfl rfl) (hd 51 rfl) <| zmv rfl (hd 52 rfl) <| zmv rfl (hd 53 rfl) ?_
      refine jo_call Tryz.f81 (result_l (s && decide (0 < ((trm a).length : Int))) ra ea (sv s a + sv t b) (resN_of ha (by rcases hcv with ⟨c, v⟩ | ⟨c, v⟩ | ⟨c, v⟩ <;> omega) (fun q uq hq => sub_val (by assumption) hq ea1 eb1))) rfl Tryz.func81 rfl rfl (ovL_cons rfl (ovL_cons rfl (ovL_cons rfl ovL_nil))) (.cons .b (.cons .n (.cons .i .nil))) (hd 54 rfl) ?_ (fun ch hp => by simp at hp)
      rintro y ⟨sr, rr, er, hy, hr⟩; injection hy with hy; subst hy; refine jo_l (ly_ext rfl rfl) (hd 55 rfl) <| jo_l (ly_ext rfl rfl) (hd 56 rfl) <| jo_st (sy_store rfl rfl rfl siz30 rfl rfl (zlb rfl)) <| zas rfl (hd 5 rfl) <| jo_nil <| jc_ret ?_
      refine ⟨_, _, (.cons (ResV.cell agg30 rfl rfl rfl rfl) (.cons rfl .nil)), (.t1 (.a1 .b (.a1 .n .a0)) (.t1 .i .t0)), ?_⟩
      exact ⟨sr, rr, er, rfl, hr⟩


theorem Of_0  : Spec Tryz.prog 87 [.i .i64 0] (fun o => o = .ret (.a [.b false, .n true .u64 []])) := by
  refine spec_of' [(0, .i .i64 0)] rfl Tryz.func87 rfl (zlb rfl) fun Γ hN hds hL hR => ?_
  have hd := hdOf 14 hN
  have rF : Spec Tryz.prog 68 [.i .u64 0] (fun o => o = .ret (.n true .u64 [])) := by have h := From_s 0; rwa [if_pos rfl] at h
  refine zsr <| jo_h (hy_alloc (id := 0) zero30 (by decide) rfl (by decide) rfl) (hd 2 rfl) <| jo_nil <| jc_seq <| zsr <| zmv rfl (hd 3 rfl) <| jo_l (ly_ff (ly_lt rfl rfl) (by decide)) (hd 4 rfl) <| jo_nil <| jc_litf rfl <| jc_skip <| jc_seq ?_; refine jc_region <| zmv rfl (hd 10 rfl) <| jo_l (ly_conv und3 und82 rfl (r := 0) rfl) (hd 11 rfl) ?_
  refine jo_call Tryz.f68 (rF) rfl Tryz.func68 rfl rfl (ovL_cons rfl ovL_nil) (.cons .i .nil) (hd 12 rfl) ?_ (fun ch hp => by simp at hp)
  rintro _ ⟨⟩; refine jo_l (ly_build (is := [1]) (xs := [.tmp 12]) zero30 pls30_1 rfl (ovL_cons rfl ovL_nil) rfl (by first | (simp [plsOk, cellsV]; done) | (simp [plsOk, cellsV, old]; done)) (all_of rfl) rfl) (hd 13 rfl) <| jo_st (sy_store rfl rfl rfl siz30 rfl rfl (zlb rfl)) <| jo_nil <| jc_ret ?_
  refine ⟨_, _, (.cons (ResV.cell agg30 rfl rfl rfl rfl) .nil), (.a1 .b (.a1 .n .a0)), ?_⟩
  exact rfl

theorem Of_v (v : Int) (h : inI v) : Spec Tryz.prog 87 [.i .i64 v] (fun o => o = .ret (.a [.b (decide (v < 0)), .n true .u64 (lm v)])) := by
  have e := of_lm h
  obtain ⟨h1, h2⟩ := h
  rw [e]
  unfold fl
  rcases Int.lt_trichotomy v 0 with hv | hv | hv
  · rw [decide_eq_true hv, if_neg (by omega), show ((v.natAbs : Nat) : Int) = -v by omega]
    exact Of_neg v hv h1
  · subst hv
    exact Of_0
  · rw [decide_eq_false (by omega), if_neg (by omega), show ((v.natAbs : Nat) : Int) = v by omega]
    exact Of_pos v hv h2


theorem Quo_v (v w : Int) (hv : lenV v ≤ 67108864) (hw : lenV w ≤ 67108864) (h0 : w ≠ 0) : Spec Tryz.prog 35 [.n false .u64 (lm v), .n false .u64 (lm w)] (fun o => o = .ret (.t [.n false .u64 (lm (qn v w)), .i .i64 0])) := by
  refine spec_of' [(0, .n false .u64 (lm v)), (1, .n false .u64 (lm w))] rfl Tryz.func35 rfl (zlb rfl) fun Γ hN hds hL hR => ?_
  have hd := hdOf 25 hN
  have hlv := lenV_lm hv
  have hlw := lenV_lm hw
  have hle := lenV_mono (v := qn v w) (w := v) qn_le
  have hlq := lenV_lm (v := qn v w) (by omega)
  have hne := lm_ne h0
  refine zsr <| zas rfl (hd 4 rfl) <| zas rfl (hd 5 rfl) <| jo_nil <| zsr <| zmv rfl (hd 8 rfl) ?_
  refine jo_call Tryz.f51 (Norm_v v (by omega)) rfl Tryz.func51 rfl rfl (ovL_cons rfl ovL_nil) (.cons .n .nil) (hd 9 rfl) ?_ (fun ch hp => by simp at hp)
  rintro _ ⟨⟩; refine zmv rfl (hd 10 rfl) ?_
  refine jo_call Tryz.f51 (Norm_v w (by omega)) rfl Tryz.func51 rfl rfl (ovL_cons rfl ovL_nil) (.cons .n .nil) (hd 11 rfl) ?_ (fun ch hp => by simp at hp)
  rintro _ ⟨⟩; refine zas rfl (hd 0 rfl) <| zas rfl (hd 1 rfl) <| jo_nil <| jc_seq <| zsr <| zmv rfl (hd 12 rfl) <| jo_l (ly_lenn sl28 rfl) (hd 13 rfl) <| jo_l (ly_ff (ly_eq rfl rfl) (fun h => hne (List.eq_nil_of_length_eq_zero (by omega)))) (hd 14 rfl) <| jo_nil <| jc_litf rfl <| jc_skip <| jc_seq ?_; refine jc_region <| zmv rfl (hd 16 rfl) <| zmv rfl (hd 17 rfl) ?_
  refine jo_call Tryz.f80 (divide_v v w (by omega) (by omega) h0) rfl Tryz.func80 rfl rfl (ovL_cons rfl (ovL_cons rfl ovL_nil)) (.cons .n (.cons .n .nil)) (hd 18 rfl) ?_ (fun ch hp => by simp at hp)
  rintro _ ⟨⟩; refine zmv rfl (hd 15 rfl) <| jo_l (ly_ext rfl rfl) (hd 19 rfl) <| jo_l (ly_ext rfl rfl) (hd 20 rfl) <| zas rfl (hd 6 rfl) <| zas rfl (hd 7 rfl) <| jo_nil <| jc_seq <| zsr <| zmv rfl (hd 21 rfl) ?_
  refine jo_call Tryz.f39 (Length_v (qn v w) (by omega)) rfl Tryz.func39 rfl rfl (ovL_cons rfl ovL_nil) (.cons .n .nil) (hd 22 rfl) ?_ (fun ch hp => by simp at hp)
  rintro _ ⟨⟩; refine jo_l (ly_ff (ly_gt rfl rfl) (by omega)) (hd 23 rfl) <| jo_nil <| jc_litf rfl <| jc_skip <| zsr <| zmv rfl (hd 24 rfl) <| zas rfl (hd 4 rfl) <| zas rfl (hd 5 rfl) <| jo_nil <| jc_ret ?_
  refine ⟨_, _, (.cons rfl (.cons rfl .nil)), (.t1 .n (.t1 .i .t0)), ?_⟩
  exact rfl



theorem part_0 (b K : Nat) (hlb : 2 ≤ b) (hb2 : b ≤ 36) (hK : ∀ k, k < K → lenV ((b ^ 2 ^ k : Nat) : Int) ≤ 67108864) (hK2 : K ≤ 40) (l : List Int) (n : Nat) (hl : l.length ≤ 1048576) (hu : u64s l) (hx : (vl l).toNat < b ^ 2 ^ 0) (hn : 0 ≤ n) (hjK : 0 ≤ K) : SpecM Tryz.prog 124 [.n false .u64 l, .i .i64 (((0 : Nat) : Int) - 1), .q [.i .i64 (b : Int)], .q [.l true 1 (pwR b K)], .q [cyc 124 [.q [.i .i64 (b : Int)], .q [.l true 1 (pwR b K)]] [] n]] [] (fun o G => ∃ ver, o = .ret (.o 0 ver 0 (hdg b (2 ^ 0) (vl l).toNat).length) ∧ G = [⟨3, 1, ver, true, ints .i64 (hdg b (2 ^ 0) (vl l).toNat)⟩]) := by
  refine specS_of [(0, .n false .u64 l), (1, .i .i64 (((0 : Nat) : Int) - 1)), (2, .q [.i .i64 (b : Int)]), (3, .q [.l true 1 (pwR b K)]), (4, .q [cyc 124 [.q [.i .i64 (b : Int)], .q [.l true 1 (pwR b K)]] [] n])] rfl Tryz.func124 rfl (zlb rfl) fun Γ hN hds hL hR => ?_
  have hd := hdOf 45 hN
  have hj40 : 2 ^ 0 ≤ 2 ^ 40 := two_cap (by omega)
  refine zsr <| zas rfl (hd 7 rfl) <| jo_nil <| jc_seq <| zsr <| zmv rfl (hd 11 rfl) <| jo_l (ly_tt (ly_lt rfl rfl) (by omega)) (hd 12 rfl) <| zmv rfl (hd 13 rfl) <| jo_s 13 rfl rfl rfl (hd 14 rfl) <| jo_s 13 rfl rfl rfl (hd 15 rfl) <| jo_s 13 rfl rfl rfl (hd 16 rfl) ?_; refine jo_l (ly_pick_t rfl rfl) (hd 17 rfl) <| jo_nil <| jc_litt rfl <| jc_seq <| jc_draw (n := 7) _ rfl mixed <| zal 0 (lo_l (ly_mv rfl) (hd 18 rfl)) rfl <| zal 1 (lo_l (ly_ldq one3 rfl rfl) (hd 19 rfl)) rfl <| zal2 2 [3, 4, 5, 6] (lo_l (ly_mv rfl) (hd 20 rfl)) rfl <| zal2 3 [4, 5, 6] (lo_l (ly_add rfl rfl (r := (0 : Int)) (by rw [wrap_i64 (by omega) (by omega)]; omega)) (hd 21 rfl)) rfl <| zal 4 (lo_l (ly_is (ly_shl rfl rfl (by omega) rfl) (show V.i .i64 _ = V.i .i64 ((2 ^ 0 : Nat) : Int) from rfl)) (hd 22 rfl)) rfl ?_
  refine ja_1 5 ?_ rfl (by kernel_rfl)
  refine js_callN Tryz.f123 (digits_n l b (2 ^ 0) hl hu hlb hb2 (by omega)) (fun o G ⟨_, h⟩ => h ▸ idless_cons ints_id idless_nil) rfl Tryz.func123 rfl rfl (ovL_cons rfl (ovL_cons rfl (ovL_cons rfl ovL_nil))) (.cons .n (.cons .i (.cons .i .nil))) (hd 23 rfl) ?_ (fun ch G hp => by simp at hp)
  rintro y G ⟨hy, rfl⟩; injection hy with hy; subst hy
  show JA _ _ _ _ _ ((23, .o 0 0 0 (hdg b (2 ^ 0) (vl l).toNat).length) :: _) _ _
  refine zal 6 (lo_l (ly_as rfl) (hd 7 rfl)) rfl <| ja_nil (by kernel_rfl) <| jc_ret ?_
  refine ⟨[0], _, (.o 0 0 0 (hdg b (2 ^ 0) (vl l).toNat).length), (.cons rfl .nil), rfl, rfl, (by decide), (by first | exact idless_cons ints_id idless_nil | exact idless_cons (by show List.all (ints _ _ ++ ints _ _) _ = true; rw [ints_append]; exact ints_id) idless_nil), ?_⟩
  exact ⟨0, rfl, rfl⟩

theorem part_1 (b K j : Nat) (hlb : 2 ≤ b) (hb2 : b ≤ 36) (hK : ∀ k, k < K → lenV ((b ^ 2 ^ k : Nat) : Int) ≤ 67108864) (hK2 : K ≤ 40) (ih : ∀ (l : List Int) (n : Nat) (hl : l.length ≤ 1048576) (hu : u64s l) (hx : (vl l).toNat < b ^ 2 ^ j) (hn : j ≤ n) (hjK : j ≤ K), SpecM Tryz.prog 124 [.n false .u64 l, .i .i64 (((j : Nat) : Int) - 1), .q [.i .i64 (b : Int)], .q [.l true 1 (pwR b K)], .q [cyc 124 [.q [.i .i64 (b : Int)], .q [.l true 1 (pwR b K)]] [] n]] [] (fun o G => o = .ret (.o 0 0 0 (hdg b (2 ^ j) (vl l).toNat).length) ∧ G = [⟨3, 1, 0, true, ints .i64 (hdg b (2 ^ j) (vl l).toNat)⟩])) (l : List Int) (n : Nat) (hl : l.length ≤ 1048576) (hu : u64s l) (hx : (vl l).toNat < b ^ 2 ^ (j + 1)) (hn : (j + 1) ≤ n) (hjK : (j + 1) ≤ K) : SpecM Tryz.prog 124 [.n false .u64 l, .i .i64 ((((j + 1) : Nat) : Int) - 1), .q [.i .i64 (b : Int)], .q [.l true 1 (pwR b K)], .q [cyc 124 [.q [.i .i64 (b : Int)], .q [.l true 1 (pwR b K)]] [] n]] [] (fun o G => ∃ ver, o = .ret (.o 0 ver 0 (hdg b (2 ^ (j + 1)) (vl l).toNat).length) ∧ G = [⟨3, 1, ver, true, ints .i64 (hdg b (2 ^ (j + 1)) (vl l).toNat)⟩]) := by
  refine specS_of [(0, .n false .u64 l), (1, .i .i64 ((((j + 1) : Nat) : Int) - 1)), (2, .q [.i .i64 (b : Int)]), (3, .q [.l true 1 (pwR b K)]), (4, .q [cyc 124 [.q [.i .i64 (b : Int)], .q [.l true 1 (pwR b K)]] [] n])] rfl Tryz.func124 rfl (zlb rfl) fun Γ hN hds hL hR => ?_
  have hd := hdOf 45 hN
  have hj40 : 2 ^ (j + 1) ≤ 2 ^ 40 := two_cap (by omega)
  obtain ⟨n, rfl⟩ : ∃ m, n = m + 1 := ⟨n - 1, by omega⟩
  have hp0 := pw_pos (b := b) (k := j) hlb
  have hxv := nat_of hu
  have hv : lenV (vl l) ≤ 67108864 := by have := lenV_64 (s := false) hu; have e : sv false l = vl l := rfl; rw [e] at this; omega
  have hpw : ((b ^ 2 ^ j : Nat) : Int) ≠ 0 := by omega
  have hQn := qn_nat2 (p := b ^ 2 ^ j) hxv.symm
  have hRn := rn_nat2 (p := b ^ 2 ^ j) hxv.symm
  have hQl := lenV_lm (Nat.le_trans (lenV_mono (qn_le (v := vl l) (w := ((b ^ 2 ^ j : Nat) : Int)))) hv)
  have hRl := lenV_lm (Nat.le_trans (lenV_mono (rn_le (v := vl l) hpw).1) (hK j (by omega)))
  have hQx := part_q hx
  have hRx := part_r (j := j) (x := (vl l).toNat) hlb
  have hlQ : (hdg b (2 ^ j) (vl (lm (qn (vl l) ((b ^ 2 ^ j : Nat) : Int)))).toNat).length ≤ 1099511627776 := by rw [hdg_le, hQn]; have h1 := digs_len hlb _ _ hQx; have h2 : 2 ^ j ≤ 2 ^ 40 := two_cap (by omega); omega
  have hlR : (hdg b (2 ^ j) (vl (lm (rn (vl l) ((b ^ 2 ^ j : Nat) : Int)))).toNat).length ≤ 1099511627776 := by rw [hdg_le, hRn]; have h1 := digs_len hlb _ _ hRx; have h2 : 2 ^ j ≤ 2 ^ 40 := two_cap (by omega); omega
  refine zsr <| zas rfl (hd 7 rfl) <| jo_nil <| jc_seq <| zsr <| zmv rfl (hd 11 rfl) <| jo_l (ly_ff (ly_lt rfl rfl) (by omega)) (hd 12 rfl) <| zmv rfl (hd 13 rfl) <| jo_g 13 rfl rfl (ly_mv rfl) (hd 14 rfl) ?_
  refine jo_callg Tryz.f39 13 rfl rfl (Length_s l (by omega) hu) rfl Tryz.func39 rfl rfl (ovL_cons rfl ovL_nil) (.cons .n .nil) (hd 15 rfl) ?_ (fun ch hp => by simp at hp)
  rintro _ ⟨⟩; refine jo_g 13 rfl rfl (ly_le rfl rfl) (hd 16 rfl) <| jo_l (ly_pick_f rfl rfl) (hd 17 rfl) <| jo_nil ?_
  refine jc_if rfl (fun h1 => ?_) (fun h1 => ?_)
  · refine jc_seq <| jc_draw (n := 7) _ rfl mixed <| zal 0 (lo_l (ly_mv rfl) (hd 18 rfl)) rfl <| zal 1 (lo_l (ly_ldq one3 rfl rfl) (hd 19 rfl)) rfl <| zal2 2 [3, 4, 5, 6] (lo_l (ly_mv rfl) (hd 20 rfl)) rfl <| zal2 3 [4, 5, 6] (lo_l (ly_add rfl rfl (r := (((j + 1 : Nat) : Int) : Int)) (by rw [wrap_i64 (by omega) (by omega)]; omega)) (hd 21 rfl)) rfl <| zal 4 (lo_l (ly_is (ly_shl rfl rfl (by omega) rfl) (show V.i .i64 _ = V.i .i64 ((2 ^ (j + 1) : Nat) : Int) by rw [Int.one_mul, Int.toNat_natCast, Nat.min_eq_left (by have h : IntKind.i64.bits = 64 := rfl; omega), show (2 : Int) ^ (j + 1) = ((2 ^ (j + 1) : Nat) : Int) by simp]; generalize 2 ^ (j + 1) = q at *; exact congrArg (V.i .i64) (wrap_i64 (by omega) (by omega)))) (hd 22 rfl)) rfl ?_
    refine ja_1 5 ?_ rfl (by kernel_rfl)
    refine js_callN Tryz.f123 (digits_n l b (2 ^ (j + 1)) hl hu hlb hb2 (by omega)) (fun o G ⟨_, h⟩ => h ▸ idless_cons ints_id idless_nil) rfl Tryz.func123 rfl rfl (ovL_cons rfl (ovL_cons rfl (ovL_cons rfl ovL_nil))) (.cons .n (.cons .i (.cons .i .nil))) (hd 23 rfl) ?_ (fun ch G hp => by simp at hp)
    rintro y G ⟨hy, rfl⟩; injection hy with hy; subst hy
    show JA _ _ _ _ _ ((23, .o 0 0 0 (hdg b (2 ^ (j + 1)) (vl l).toNat).length) :: _) _ _
    refine zal 6 (lo_l (ly_as rfl) (hd 7 rfl)) rfl <| ja_nil (by kernel_rfl) <| jc_ret ?_
    refine ⟨[0], _, (.o 0 0 0 (hdg b (2 ^ (j + 1)) (vl l).toNat).length), (.cons rfl .nil), rfl, rfl, (by decide), (by first | exact idless_cons ints_id idless_nil | exact idless_cons (by show List.all (ints _ _ ++ ints _ _) _ = true; rw [ints_append]; exact ints_id) idless_nil), ?_⟩
    exact ⟨0, rfl, rfl⟩
  · refine jc_skip <| zsr <| zmv rfl (hd 25 rfl) <| jo_l (ly_ldq one1140 rfl rfl) (hd 26 rfl) <| zmv rfl (hd 27 rfl) <| jo_l (ly_ial (i := j) (row := [pwV b j]) sl1140 rfl rfl (by omega) (pw_at (by omega))) (hd 28 rfl) <| jo_l (ly_ldq one28 rfl rfl) (hd 29 rfl) ?_
    refine jo_call Tryz.f121 (Both_r l ((b ^ 2 ^ j : Nat) : Int) hl hu (hK j (by omega)) hpw) rfl Tryz.func121 rfl rfl (ovL_cons rfl (ovL_cons rfl ovL_nil)) (.cons .n (.cons .n .nil)) (hd 30 rfl) ?_ (fun ch hp => by simp at hp)
    rintro _ ⟨⟩; refine zmv rfl (hd 24 rfl) <| jo_l (ly_ext rfl rfl) (hd 31 rfl) <| jo_l (ly_ext rfl rfl) (hd 32 rfl) <| jo_l (ly_ext rfl rfl) (hd 33 rfl) <| zas rfl (hd 8 rfl) <| zas rfl (hd 9 rfl) <| zas rfl (hd 10 rfl) <| jo_nil <| jc_seq <| jc_draw (n := 12) _ rfl mixed <| zal2 0 [4, 9, 10, 11] (lo_l (ly_ldqf one1123 rfl rfl) (hd 34 rfl)) rfl <| zal2 1 [4, 9, 10, 11] (lo_l (ly_mv rfl) (hd 35 rfl)) rfl <| zal2 2 [3, 4, 9, 10, 11] (lo_l (ly_mv rfl) (hd 36 rfl)) rfl ?_; refine zal2 3 [4, 9, 10, 11] (lo_l (ly_is (ly_sub rfl rfl (wrap_i64 (by omega) (by omega))) (show V.i .i64 _ = V.i .i64 ((j : Int) - 1) by congr 1; omega)) (hd 37 rfl)) rfl <| zal2 5 [9, 10, 11] (lo_l (ly_ldqf one1123 rfl rfl) (hd 39 rfl)) rfl <| zal2 6 [9, 10, 11] (lo_l (ly_mv rfl) (hd 40 rfl)) rfl <| zal2 7 [8, 9, 10, 11] (lo_l (ly_mv rfl) (hd 41 rfl)) rfl <| zal2 8 [9, 10, 11] (lo_l (ly_is (ly_sub rfl rfl (wrap_i64 (by omega) (by omega))) (show V.i .i64 _ = V.i .i64 ((j : Int) - 1) by congr 1; omega)) (hd 42 rfl)) rfl ?_
    refine ja_1 4 ?_ rfl (by kernel_rfl)
    refine js_callNC Tryz.f124 (ih (lm (qn (vl l) ((b ^ 2 ^ j : Nat) : Int))) n hQl (lm_u _) (by rw [hQn]; exact hQx) (by omega) (by omega)) (fun o G ⟨_, h⟩ => h ▸ idless_cons ints_id idless_nil) rfl Tryz.func124 rfl rfl (ovL_cons rfl (ovL_cons rfl ovL_nil)) (.cons .n (.cons .i (.cons .q (.cons .q (.cons .q .nil))))) (hd 38 rfl) ?_ (fun ch G hp => by simp at hp)
    rintro y G ⟨hy, rfl⟩; injection hy with hy; subst hy
    show JA _ _ _ _ _ ((38, .o 0 0 0 (hdg b (2 ^ j) (vl (lm (qn (vl l) ((b ^ 2 ^ j : Nat) : Int)))).toNat).length) :: _) _ _
    refine ja_1 9 ?_ rfl (by kernel_rfl)
    refine js_callNC Tryz.f124 (ih (lm (rn (vl l) ((b ^ 2 ^ j : Nat) : Int))) n hRl (lm_u _) (by rw [hRn]; exact hRx) (by omega) (by omega)) (fun o G ⟨_, h⟩ => h ▸ idless_cons ints_id idless_nil) rfl Tryz.func124 rfl rfl (ovL_cons rfl (ovL_cons rfl ovL_nil)) (.cons .n (.cons .i (.cons .q (.cons .q (.cons .q .nil))))) (hd 43 rfl) ?_ (fun ch G hp => by simp at hp)
    rintro y G ⟨hy, rfl⟩; injection hy with hy; subst hy
    show JA _ _ _ _ _ ((43, .o 1 0 0 (hdg b (2 ^ j) (vl (lm (rn (vl l) ((b ^ 2 ^ j : Nat) : Int)))).toNat).length) :: _) _ _
    refine ja_1 10 ?_ rfl (by kernel_rfl)
    refine js_app el1122 rfl rfl (by rw [ints_length, Nat.mul_one]) rfl (src_o rfl (by rw [ints_length, Nat.mul_one]) ints_one) (by show ((hdg b (2 ^ j) (vl (lm (qn (vl l) ((b ^ 2 ^ j : Nat) : Int)))).toNat).length + (hdg b (2 ^ j) (vl (lm (rn (vl l) ((b ^ 2 ^ j : Nat) : Int)))).toNat).length) * 8 ≤ _; omega) (by show (hdg b (2 ^ j) (vl (lm (qn (vl l) ((b ^ 2 ^ j : Nat) : Int)))).toNat).length + (hdg b (2 ^ j) (vl (lm (rn (vl l) ((b ^ 2 ^ j : Nat) : Int)))).toNat).length ≤ 9223372036854775807; omega) (hd 44 rfl) rfl <| zal 11 (lo_l (ly_as rfl) (hd 7 rfl)) rfl <| ja_nil (by kernel_rfl) <| jc_ret ?_
    refine ⟨[0], _, (.o 0 1 0 ((hdg b (2 ^ j) (vl (lm (qn (vl l) ((b ^ 2 ^ j : Nat) : Int)))).toNat).length + (hdg b (2 ^ j) (vl (lm (rn (vl l) ((b ^ 2 ^ j : Nat) : Int)))).toNat).length)), (.cons rfl .nil), rfl, rfl, (by decide), (by first | exact idless_cons ints_id idless_nil | exact idless_cons (by show List.all (ints _ _ ++ ints _ _) _ = true; rw [ints_append]; exact ints_id) idless_nil), ?_⟩
    exact ⟨1, by show Out.ret (V.o _ _ _ ((hdg b (2 ^ j) (vl (lm (qn (vl l) ((b ^ 2 ^ j : Nat) : Int)))).toNat).length + (hdg b (2 ^ j) (vl (lm (rn (vl l) ((b ^ 2 ^ j : Nat) : Int)))).toNat).length)) = _; rw [← List.length_append, hQn, hRn, part_join hlb hx], by show [(⟨3, 1, 1, true, ints .i64 (hdg b (2 ^ j) (vl (lm (qn (vl l) ((b ^ 2 ^ j : Nat) : Int)))).toNat) ++ ints .i64 (hdg b (2 ^ j) (vl (lm (rn (vl l) ((b ^ 2 ^ j : Nat) : Int)))).toNat)⟩ : Ob)] = [⟨3, 1, 1, true, ints .i64 (hdg b (2 ^ (j + 1)) (vl l).toNat)⟩]; rw [ints_append, hQn, hRn, part_join hlb hx]⟩

theorem part_n (b K : Nat) (hlb : 2 ≤ b) (hb2 : b ≤ 36) (hK : ∀ k, k < K → lenV ((b ^ 2 ^ k : Nat) : Int) ≤ 67108864) (hK2 : K ≤ 40) : ∀ (j : Nat) (l : List Int) (n : Nat) (hl : l.length ≤ 1048576) (hu : u64s l) (hx : (vl l).toNat < b ^ 2 ^ j) (hn : j ≤ n) (hjK : j ≤ K), SpecM Tryz.prog 124 [.n false .u64 l, .i .i64 (((j : Nat) : Int) - 1), .q [.i .i64 (b : Int)], .q [.l true 1 (pwR b K)], .q [cyc 124 [.q [.i .i64 (b : Int)], .q [.l true 1 (pwR b K)]] [] n]] [] (fun o G => o = .ret (.o 0 0 0 (hdg b (2 ^ j) (vl l).toNat).length) ∧ G = [⟨3, 1, 0, true, ints .i64 (hdg b (2 ^ j) (vl l).toNat)⟩])
  | 0, l, n, hl, hu, hx, hn, hjK => (part_0 b K hlb hb2 hK hK2 l n hl hu hx hn hjK).ver0 ints_id
  | j + 1, l, n, hl, hu, hx, hn, hjK => (part_1 b K j hlb hb2 hK hK2 (fun l n hl hu hx hn hjK => part_n b K hlb hb2 hK hK2 j l n hl hu hx hn hjK) l n hl hu hx hn hjK).ver0 ints_id

theorem all_n (l : List Int) (b : Nat) (hl : l.length ≤ 1048576) (hu : u64s l) (hlb : 2 ≤ b) (hb2 : b ≤ 36) : SpecM Tryz.prog 101 [.n false .u64 l, .i .i64 (b : Int)] [] (fun o G => o = .ret (.o 0 0 0 (hdg b 1 (vl l).toNat).length) ∧ G = [⟨3, 1, 0, true, ints .i64 (hdg b 1 (vl l).toNat)⟩]) := by
  refine specS_of [(0, .n false .u64 l), (1, .i .i64 (b : Int))] rfl Tryz.func101 rfl (zlb rfl) fun Γ hN hds hL hR => ?_
  have hd := hdOf 75 hN
  have hlenl := lenN_le l
  have hxv := nat_of hu
  have hv0 := vl_nonneg hu
  have hv : lenV (vl l) ≤ 67108864 := by have := lenV_64 (s := false) hu; have e : sv false l = vl l := rfl; rw [e] at this; omega
  have hxp := lenV_pow hv0 hv
  have hF : Spec Tryz.prog 68 [.i .u64 (b : Int)] (fun o => o = .ret (.n true .u64 (lm ((b ^ 2 ^ 0 : Nat) : Int)))) := by have h := From_s (b : Int); rwa [show (if (b : Int) = 0 then [] else [(b : Int)]) = lm ((b ^ 2 ^ 0 : Nat) : Int) from by rw [Nat.pow_zero, Nat.pow_one]; exact fl_lm (by omega) (by omega)] at h
  refine zsr <| jo_h (hy_box (id := 0) (n := 1) rfl rfl rfl (by decide) rfl) (hd 3 rfl) <| zas rfl (hd 4 rfl) <| jo_nil <| jc_seq <| zsr <| zmv rfl (hd 12 rfl) ?_
  refine jo_call Tryz.f39 (Length_s l (by omega) hu) rfl Tryz.func39 rfl rfl (ovL_cons rfl ovL_nil) (.cons .n .nil) (hd 13 rfl) ?_ (fun ch hp => by simp at hp)
  rintro _ ⟨⟩; refine jo_l (ly_le rfl rfl) (hd 14 rfl) <| zmv rfl (hd 15 rfl) ?_
  refine jo_ifp 15 rfl (fun h1 => ?_) (fun h1 => ?_)
  · refine jo_s 15 rfl rfl rfl (hd 16 rfl) <| jo_s 15 rfl rfl rfl (hd 17 rfl) <| jo_s 15 rfl rfl rfl (hd 18 rfl) <| jo_l (ly_pick_t rfl rfl) (hd 19 rfl) <| jo_nil <| jc_litt rfl <| zsr <| zmv rfl (hd 20 rfl) <| jo_l (ly_ld one3 rfl rfl rfl) (hd 21 rfl) ?_
    refine jo_callN Tryz.f123 (digits_n l b 1 hl hu hlb hb2 (by decide)) (fun o G ⟨_, h⟩ => h ▸ idless_cons ints_id idless_nil) rfl Tryz.func123 rfl rfl (ovL_cons rfl (ovL_cons rfl (ovL_cons rfl ovL_nil))) (.cons .n (.cons .i (.cons .i .nil))) (hd 22 rfl) ?_ (fun ch G hp => by simp at hp)
    rintro y G ⟨hy, rfl⟩; injection hy with hy; subst hy
    show JO _ _ _ _ ((22, .o 1 0 0 (hdg b 1 (vl l).toNat).length) :: _) _ _
    refine zas rfl (hd 4 rfl) <| jo_nil <| jc_ret ?_
    refine ⟨[1], _, (.o 0 0 0 (hdg b 1 (vl l).toNat).length), (.cons rfl .nil), rfl, rfl, (by decide), (idless_cons ints_id idless_nil), ?_⟩
    exact ⟨rfl, rfl⟩
  · refine jo_g 15 rfl rfl (ly_mv rfl) (hd 16 rfl) ?_
    refine jo_callg Tryz.f39 15 rfl rfl (Length_s l (by omega) hu) rfl Tryz.func39 rfl rfl (ovL_cons rfl ovL_nil) (.cons .n .nil) (hd 17 rfl) ?_ (fun ch hp => by simp at hp)
    rintro _ ⟨⟩; refine jo_g 15 rfl rfl (ly_ff (ly_gt rfl rfl) (by omega)) (hd 18 rfl) <| jo_l (ly_pick_f rfl rfl) (hd 19 rfl) <| jo_nil <| jc_litf rfl <| jc_skip <| zsr <| jo_l (ly_ld one3 rfl rfl rfl) (hd 23 rfl) <| jo_l (ly_conv und3 und82 rfl (r := (b : Int)) (wrap_u64 (by omega) (by omega))) (hd 24 rfl) ?_
    refine jo_call Tryz.f68 (hF) rfl Tryz.func68 rfl rfl (ovL_cons rfl ovL_nil) (.cons .i .nil) (hd 25 rfl) ?_ (fun ch hp => by simp at hp)
    rintro _ ⟨⟩; refine jo_h (hy_lit (id := 1) (xs := [.tmp 25]) el1140 rfl (ovL_cons rfl ovL_nil) rfl (all2_of rfl) (by decide) rfl) (hd 26 rfl) <| jo_h (hy_alloc (id := 2) zero1140 (by decide) rfl (by decide) rfl) (hd 5 rfl) <| jo_st (sy_store rfl rfl rfl siz1140 rfl rfl (zlb rfl)) <| jo_nil ?_
    refine jc_meet (G := Nat) (fun k => k ≤ 26 ∧ lenV ((b ^ 2 ^ k : Nat) : Int) ≤ 67108864 ∧ (vl l).toNat < b ^ 2 ^ (k + 1)) (fun k => [(6, .u), (7, .u), (8, .u), (27, .u), (28, .u), (29, .u), (30, .u), (31, .u), (32, .u), (33, .u), (34, .u), (35, .u), (36, .u), (37, .u), (38, .u), (39, .u), (40, .u), (41, .u), (42, .u), (43, .u), (44, .u), (45, .u), (46, .u), (47, .u), (48, .u), (49, .u)]) (fun k => [⟨3, 1, 0, true, [.i .i64 (b : Int)]⟩, ⟨23, 1, k, true, (pwR b (k + 1)).flatten⟩, ⟨140, 1, 0, true, [.o 1 k 0 (k + 1)]⟩]) ?_ ?_
    · refine jc_block <| jc_H (H' := [⟨3, 1, 0, true, [.i .i64 (b : Int)]⟩, ⟨23, 1, 0, true, (pwR b (0 + 1)).flatten⟩, ⟨140, 1, 0, true, [.o 1 0 0 (0 + 1)]⟩]) (by rw [← pw_one]; rfl) ?_
      refine jc_loopD (G := Nat) 3 (fun k => k ≤ 26 ∧ lenV ((b ^ 2 ^ k : Nat) : Int) ≤ 67108864) (fun k => [(6, .u), (7, .u), (8, .u), (27, .u), (28, .u), (29, .u), (30, .u), (31, .u), (32, .u), (33, .u), (34, .u), (35, .u), (36, .u), (37, .u), (38, .u), (39, .u), (40, .u), (41, .u), (42, .u), (43, .u), (44, .u), (45, .u), (46, .u), (47, .u), (48, .u), (49, .u)]) (fun k => [⟨3, 1, 0, true, [.i .i64 (b : Int)]⟩, ⟨23, 1, k, true, (pwR b (k + 1)).flatten⟩, ⟨140, 1, 0, true, [.o 1 k 0 (k + 1)]⟩]) (fun k => 27 - k) 0 ?_ ?_ rfl hR rfl (fun _ _ => rfl) (fun k _ => .cons rfl (.cons pw_id (.cons rfl .nil))) ?_
      · exact ⟨by decide, Nat.le_trans (lenV_mono (w := 36) (by rw [Int.natAbs_natCast, Nat.pow_zero, Nat.pow_one]; omega)) (by decide)⟩
      · exact (.u (.u (.u (.u (.u (.u (.u (.u (.u (.u (.u (.u (.u (.u (.u (.u (.u (.u (.u (.u (.u (.u (.u (.u (.u (.u .nil))))))))))))))))))))))))))
      · rintro k ⟨hk26, hkl⟩
        have hkm := lenV_lm hkl
        refine jc_block <| zsr <| jo_l (ly_ld one1140 rfl rfl rfl) (hd 27 rfl) <| jo_l (ly_ld one1140 rfl rfl rfl) (hd 28 rfl) <| jo_l (ly_leno sl1140 rfl rfl) (hd 29 rfl) <| jo_l (ly_sub rfl rfl (wrap_i64 (by omega) (by omega))) (hd 30 rfl) <| jo_l (ly_ia (i := k) sl1140 rfl rfl rfl (by omega) (by omega) rfl) (hd 31 rfl) <| jo_l (ly_ld (y := pwV b k) one28 rfl rfl (by rw [Nat.zero_add, Nat.mul_one]; exact pw_fat (by omega))) (hd 32 rfl) <| zas rfl (hd 6 rfl) <| jo_nil <| jc_seq <| jc_region ?_; refine zmv rfl (hd 34 rfl) ?_
        refine jo_call Tryz.f102 (Square_l (lm ((b ^ 2 ^ k : Nat) : Int)) (by omega) (lm_u _)) rfl Tryz.func102 rfl rfl (ovL_cons rfl ovL_nil) (.cons .n .nil) (hd 35 rfl) ?_ (fun ch hp => by simp at hp)
        rintro y ⟨r2, e2, hy, he2⟩; injection hy with hy; subst hy
        rw [pw_sqI] at he2
        have hle2 := errL_len he2
        have hu2 := errL_u he2
        have hcv := cmpL_val hu2 hu
        refine zmv rfl (hd 33 rfl) <| jo_l (ly_ext rfl rfl) (hd 36 rfl) <| jo_l (ly_ext rfl rfl) (hd 37 rfl) <| zas rfl (hd 7 rfl) <| zas rfl (hd 8 rfl) <| jo_nil <| jc_seq <| zsr <| zmv rfl (hd 38 rfl) <| jo_l (ly_ne rfl rfl) (hd 39 rfl) <| zmv rfl (hd 40 rfl) ?_
        refine jo_ifp 40 rfl (fun h4 => ?_) (fun h4 => ?_)
        · refine jo_s 40 rfl rfl rfl (hd 41 rfl) <| jo_s 40 rfl rfl rfl (hd 42 rfl) <| jo_s 40 rfl rfl rfl (hd 43 rfl) <| jo_s 40 rfl rfl rfl (hd 44 rfl) <| jo_l (ly_pick_t rfl rfl) (hd 45 rfl) <| jo_nil <| jc_litt rfl <| jc_exit ?_
          refine ⟨k, ?_, rfl, cov_n 49 rfl rfl ?_⟩
          · exact ⟨hk26, hkl, pw_big hv hv0 (errL_ne he2 (by assumption))⟩
          · exact (.u (.u (.u (.u (.u (.u (.u (.u (.u (.u (.u (.u (.u (.u (.u (.u (.u (.u (.u (.u (.u (.u (.u (.u (.u (.u .nil))))))))))))))))))))))))))
        · obtain ⟨hr2, hle9⟩ := errL_eq he2 (Decidable.not_not.1 h4)
          have hvr : vl r2 = ((b ^ 2 ^ (k + 1) : Nat) : Int) := by rw [hr2, vl_lm (Int.natCast_nonneg _)]
          refine jo_g 40 rfl rfl (ly_mv rfl) (hd 41 rfl) <| jo_g 40 rfl rfl (ly_mv rfl) (hd 42 rfl) ?_
          refine jo_callg Tryz.f67 40 rfl rfl (Compare_s r2 l (by omega) (by omega)) rfl Tryz.func67 rfl rfl (ovL_cons rfl (ovL_cons rfl ovL_nil)) (.cons .n (.cons .n .nil)) (hd 43 rfl) ?_ (fun ch hp => by simp at hp)
          rintro _ ⟨⟩; refine jo_g 40 rfl rfl (ly_gt rfl rfl) (hd 44 rfl) <| jo_l (ly_pick_f rfl rfl) (hd 45 rfl) <| jo_nil ?_
          refine jc_if rfl (fun h6 => ?_) (fun h6 => ?_)
          · refine jc_exit ?_
            refine ⟨k, ?_, rfl, cov_n 49 rfl rfl ?_⟩
            · exact ⟨hk26, hkl, by rcases hcv with ⟨c, v⟩ | ⟨c, v⟩ | ⟨c, v⟩ <;> omega⟩
            · exact (.u (.u (.u (.u (.u (.u (.u (.u (.u (.u (.u (.u (.u (.u (.u (.u (.u (.u (.u (.u (.u (.u (.u (.u (.u (.u .nil))))))))))))))))))))))))))
          · have hge : b ^ 2 ^ (k + 1) ≤ (vl l).toNat := by rcases hcv with ⟨c, v⟩ | ⟨c, v⟩ | ⟨c, v⟩ <;> omega
            have hkeep : k + 1 ≤ 26 ∧ lenV ((b ^ 2 ^ (k + 1) : Nat) : Int) ≤ 67108864 := ⟨pw_cap26 hlb hge hxp, hle9⟩
            refine jc_skip <| jc_region <| jo_l (ly_ld one1140 rfl rfl rfl) (hd 46 rfl) <| zmv rfl (hd 47 rfl) <| jo_h (hy_lit (id := 3) (xs := [.tmp 47]) el1140 rfl (ovL_cons rfl ovL_nil) rfl (all2_of rfl) (by decide) rfl) (hd 48 rfl) <| jo_app el1140 rfl rfl (by rw [pw_flen, Nat.mul_one]) rfl (src_o rfl rfl rfl) (by show (k + 1 + 1) * 24 ≤ _; omega) (by show k + 1 + 1 ≤ 9223372036854775807; omega) (hd 49 rfl) <| jo_st (sy_store rfl rfl rfl siz1140 rfl (by simp [cellsV, oneO]) (zlb rfl)) <| jo_nil ?_
            refine ⟨k + 1, ?_, ?_, (by show [_, (⟨23, 1, k + 1, true, (pwR b (k + 1)).flatten ++ [V.n true .u64 r2]⟩ : Ob), _] = [_, ⟨23, 1, k + 1, true, (pwR b (k + 1 + 1)).flatten⟩, _]; rw [hr2, ← pw_snoc (K := k + 1)]; rfl), cov_n 53 rfl rfl ?_⟩
            · exact hkeep
            · omega
            · exact (.u (.u (.u (.u (.u (.u (.u (.u (.u (.u (.u (.u (.u (.u (.u (.u (.u (.u (.u (.u (.u (.u (.u (.u (.u (.u .nil))))))))))))))))))))))))))
    · rintro k ⟨hk26, hkl, hx⟩
      have hK : ∀ j, j < k + 1 → lenV ((b ^ 2 ^ j : Nat) : Int) ≤ 67108864 := fun j hj => Nat.le_trans (pw_mono hlb (by omega)) hkl
      have hx0 : (vl l).toNat ≠ 0 := fun h0 => by have h1 := (lenN_zero hu).2 (by omega); omega
      have hdm := digs_len hlb _ _ hx
      have hlen : (hdg b (2 ^ (k + 1)) (vl l).toNat).length = 2 ^ (k + 1) := by rw [hdg_le]; omega
      have h27 : 2 ^ (k + 1) ≤ 2 ^ 27 := two_cap (by omega)
      refine zsr <| jo_h (hy_alloc (id := 3) zero1123 (by decide) rfl (by decide) rfl) (hd 9 rfl) <| jo_nil <| jc_seq <| jc_frzrc 0 (idB := 2) (id := 1) (pwR b (k + 1)) rfl rfl rfl rfl pw_length pw_sz pw_pure (by decide) hL <| jc_frzp 5 rfl rfl rfl rfl hL <| jc_frzp 3 rfl rfl rfl rfl hL <| jc_region <| jo_l (ly_mf (ovL_cons rfl (ovL_cons rfl (ovL_cons rfl ovL_nil)))) (hd 50 rfl) <| jo_st (sy_store rfl rfl rfl siz1123 rfl rfl (zlb rfl)) <| jo_nil <| jc_seq ?_; refine jc_cyc 9 [.q [.i .i64 (b : Int)], .q [.l true 1 (pwR b (k + 1))]] [] (k + 2) rfl rfl rfl rfl hL <| jc_region <| jo_l (ly_ldqf one1123 rfl rfl) (hd 51 rfl) <| zmv rfl (hd 52 rfl) <| jo_l (ly_ldq one1140 rfl rfl) (hd 53 rfl) <| jo_l (ly_is (ly_lenl sl1140 rfl) (show V.i .i64 _ = V.i .i64 ((k + 1 : Nat) : Int) by rw [pw_length])) (hd 54 rfl) <| jo_l (ly_sub rfl rfl (wrap_i64 (by omega) (by omega))) (hd 55 rfl) ?_
      refine jo_callNC Tryz.f124 (part_n b (k + 1) hlb hb2 hK (by omega) (k + 1) l (k + 1) hl hu hx (Nat.le_refl _) (Nat.le_refl _)) (fun o G ⟨_, h⟩ => h ▸ idless_cons ints_id idless_nil) rfl Tryz.func124 rfl rfl (ovL_cons rfl (ovL_cons rfl ovL_nil)) (.cons .n (.cons .i (.cons .q (.cons .q (.cons .q .nil))))) (hd 56 rfl) ?_ (fun ch G hp => by simp at hp)
      rintro y G ⟨hy, rfl⟩; injection hy with hy; subst hy
      show JO _ _ _ _ ((56, .o 4 0 0 (hdg b (2 ^ (k + 1)) (vl l).toNat).length) :: _) _ _
      refine zas rfl (hd 10 rfl) <| jo_nil <| zsr <| zas rfl (hd 11 rfl) <| jo_nil ?_
      refine jc_meetH (G := Nat) (fun i => i = (2 ^ (k + 1) - (digs b (vl l).toNat).length)) (fun i => [(11, .i .i64 (i : Int)), (57, .u), (58, .u), (59, .u), (60, .u), (61, .u), (62, .u), (63, .u), (64, .u), (65, .u), (66, .u), (67, .u), (68, .u), (69, .u), (70, .u)]) ?_ ?_
      · refine jc_block ?_
        refine jc_loopF (G := Nat) (fun i => i ≤ (2 ^ (k + 1) - (digs b (vl l).toNat).length)) (fun i => [(11, .i .i64 (i : Int)), (57, .u), (58, .u), (59, .u), (60, .u), (61, .u), (62, .u), (63, .u), (64, .u), (65, .u), (66, .u), (67, .u), (68, .u), (69, .u), (70, .u)]) (fun _ => _) (fun i => (2 ^ (k + 1) - (digs b (vl l).toNat).length) - i) 0 ?_ ?_ rfl ?_
        · exact Nat.zero_le _
        · exact (.cons rfl (.u (.u (.u (.u (.u (.u (.u (.u (.u (.u (.u (.u (.u (.u .nil)))))))))))))))
        · rintro i hiz; refine jc_seq <| zsr <| zmv rfl (hd 57 rfl) <| zmv rfl (hd 58 rfl) <| jo_l (ly_leno sl1122 rfl rfl) (hd 59 rfl) <| jo_l (ly_sub rfl rfl (wrap_i64 (by omega) (by omega))) (hd 60 rfl) <| jo_l (ly_lt rfl rfl) (hd 61 rfl) <| zmv rfl (hd 62 rfl) ?_
          refine jo_ifp 62 rfl (fun h7 => ?_) (fun h7 => ?_)
          · refine jo_g 62 rfl rfl (ly_mv rfl) (hd 63 rfl) <| jo_g 62 rfl rfl (ly_mv rfl) (hd 64 rfl) <| jo_g 62 rfl rfl (ly_ia (i := i) sl1122 rfl rfl rfl (by first | rfl | omega) (by omega) rfl) (hd 65 rfl) <| jo_g 62 rfl rfl (ly_is (ly_ldi one3 rfl rfl (by first | omega | (dsimp only; omega))) (show V.i .i64 _ = V.i .i64 ((hdg b (2 ^ (k + 1)) (vl l).toNat).getD i 0) by rw [Nat.zero_add, Nat.mul_one])) (hd 66 rfl) <| jo_g 62 rfl rfl (ly_eq rfl rfl) (hd 67 rfl) <| jo_l (ly_pick_t rfl rfl) (hd 68 rfl) <| jo_nil ?_
            refine jc_if rfl (fun h8 => ?_) (fun h8 => ?_)
            · have hz0 := h8
              refine jc_skip <| jc_block <| jc_region <| zmv rfl (hd 69 rfl) <| jo_l (ly_add rfl rfl (r := ((i + 1 : Nat) : Int)) (by rw [wrap_i64 (by omega) (by omega)]; omega)) (hd 70 rfl) <| zas rfl (hd 11 rfl) <| jo_nil ?_
              refine ⟨i + 1, ?_, ?_, rfl, cov_n 31 rfl rfl ?_⟩
              · exact cut_next hlb hx0 hdm hiz hz0
              · have := cut_next hlb hx0 hdm hiz hz0
                omega
              · exact (.cons rfl (.u (.u (.u (.u (.u (.u (.u (.u (.u (.u (.u (.u (.u (.u .nil)))))))))))))))
            · refine jc_exit ?_
              refine ⟨i, ?_, rfl, cov_n 28 rfl rfl ?_⟩
              · exact cut_at hlb hx0 hdm hiz (by first | (left; omega) | (right; assumption))
              · exact (.cons rfl (.u (.u (.u (.u (.u (.u (.u (.u (.u (.u (.u (.u (.u (.u .nil)))))))))))))))
          · refine jo_s 62 rfl rfl rfl (hd 63 rfl) <| jo_s 62 rfl rfl rfl (hd 64 rfl) <| jo_s 62 rfl rfl rfl (hd 65 rfl) <| jo_s 62 rfl rfl rfl (hd 66 rfl) <| jo_s 62 rfl rfl rfl (hd 67 rfl) <| jo_l (ly_pick_f rfl rfl) (hd 68 rfl) <| jo_nil <| jc_litf rfl <| jc_exit ?_
            refine ⟨i, ?_, rfl, cov_n 28 rfl rfl ?_⟩
            · exact cut_at hlb hx0 hdm hiz (by first | (left; omega) | (right; assumption))
            · exact (.cons rfl (.u (.u (.u (.u (.u (.u (.u (.u (.u (.u (.u (.u (.u (.u .nil)))))))))))))))
      · rintro i hiz
        have hdr := cut_drop (m := 2 ^ (k + 1)) hlb hx0
        have hR1l : (hdg b 1 (vl l).toNat).length = (hdg b (2 ^ (k + 1)) (vl l).toNat).length - i := by rw [← hdr, List.length_drop, hiz]
        refine zsr <| zmv rfl (hd 71 rfl) <| zmv rfl (hd 72 rfl) <| jo_l (ly_slo (l := i) (h := (hdg b (2 ^ (k + 1)) (vl l).toNat).length) (r := i) (n := (hdg b (2 ^ (k + 1)) (vl l).toNat).length - i) sl1122 rfl rfl (bnd_some' rfl rfl) bnd_none (by omega) (Nat.le_refl _) (by omega) rfl) (hd 73 rfl) <| jo_h (hy_app0 (id := 5) el1122 rfl rfl (src_oo rfl (by omega)) (by omega) (by show _ ≤ 9223372036854775807; omega) rfl) (hd 74 rfl) <| zas rfl (hd 4 rfl) <| jo_nil <| jc_ret ?_
        refine ⟨[5], _, (.o 0 0 0 ((hdg b (2 ^ (k + 1)) (vl l).toNat).length - i)), (.cons rfl .nil), rfl, rfl, (by decide), (idless_cons ints_id idless_nil), ?_⟩
        exact ⟨by rw [hR1l], by show [(⟨3, 1, 0, true, ints .i64 (((hdg b (2 ^ (k + 1)) (vl l).toNat).drop i).take ((hdg b (2 ^ (k + 1)) (vl l).toNat).length - i))⟩ : Ob)] = [⟨3, 1, 0, true, ints .i64 (hdg b 1 (vl l).toNat)⟩]; rw [List.take_of_length_le (by rw [List.length_drop]; exact Nat.le_refl _), hiz, hdr]⟩

theorem text_s (l : List Int) (hl : l.length < 1099511627776) (hr : rng 36 l) : Spec Tryz.prog 100 [.n false .i64 l] (fun o => o = .ret (.n true .u8 (bytesI (txt l)))) := by
  refine spec_of' [(0, .n false .i64 l)] rfl Tryz.func100 rfl (zlb rfl) fun Γ hN hds hL hR => ?_
  have hd := hdOf 23 hN
  refine zsr <| zas rfl (hd 2 rfl) <| jo_nil <| zsr <| zmv rfl (hd 6 rfl) <| jo_l (ly_lenn sl1122 rfl) (hd 7 rfl) <| jo_h (hy_mk (m := l.length) el1120 rfl rfl rfl (by show 1 * l.length ≤ _; omega) (by unfold maxLen; omega) rfl) (hd 8 rfl) <| zas rfl (hd 3 rfl) <| jo_nil <| jc_seq <| jc_seq ?_; refine jc_H (H' := [⟨5, 1, 0, true, ints .u8 (cpI (l.map ltr) 0)⟩]) (by rw [← cpI_0, List.length_map]; rfl) <| jc_region <| zmv rfl (hd 9 rfl) <| jo_l (ly_lenn sl1122 rfl) (hd 10 rfl) <| zmv rfl (hd 11 rfl) <| jo_nil <| jc_block ?_
  refine jc_loopF (G := Nat) (fun i => i ≤ l.length) (fun i => [(11, .i .i64 (i : Int)), (4, .u), (5, .u), (12, .u), (13, .u), (14, .u), (15, .u), (16, .u), (17, .u), (18, .u), (19, .u), (20, .u), (21, .u)]) (fun i => [⟨5, 1, 0, true, ints .u8 (cpI (l.map ltr) i)⟩]) (fun i => l.length - i) 0 ?_ ?_ rfl ?_
  · exact Nat.zero_le _
  · exact (.cons rfl (.u (.u (.u (.u (.u (.u (.u (.u (.u (.u (.u (.u .nil)))))))))))))
  · rintro i hi
    have hcl := cpI_len (l := l.map ltr) (i := i) (by rw [List.length_map]; exact hi)
    rw [List.length_map] at hcl
    have hx := rng_getD (by decide) hr i
    refine zsr <| jo_l (ly_lt rfl rfl) (hd 12 rfl) <| jo_nil <| jc_seq ?_
    refine jc_if rfl (fun h1 => ?_) (fun h1 => ?_)
    · refine jc_skip <| jc_seq <| jc_block <| zsr <| zmv rfl (hd 13 rfl) <| jo_l (ly_ian (i := i) sl1122 rfl rfl (by first | rfl | omega) (by omega)) (hd 14 rfl) <| jo_l (ly_ldq one3 rfl rfl) (hd 15 rfl) <| zas rfl (hd 4 rfl) <| zas rfl (hd 5 rfl) <| jo_nil <| jc_region <| zmv rfl (hd 16 rfl) ?_; refine zmv rfl (hd 17 rfl) <| zmv rfl (hd 18 rfl) <| jo_l (ly_ixs (b := ltrTab) (i := (l.getD i 0).toNat) und9 (by kernel_rfl) rfl (by omega) (by show _ < 36; omega)) (hd 19 rfl) <| jo_l (ly_ia (i := i) sl1120 rfl rfl rfl (by first | rfl | omega) (by omega) rfl) (hd 20 rfl) <| jo_st (sy_storei rfl rfl rfl one5 (by first | omega | (dsimp only; omega))) <| jo_nil <| jc_region <| jo_l (ly_add rfl rfl (r := ((i + 1 : Nat) : Int)) (by rw [wrap_i64 (by omega) (by omega)]; omega)) (hd 21 rfl) <| zmv rfl (hd 11 rfl) <| jo_nil ?_
      refine ⟨i + 1, ?_, ?_, (by show [(⟨5, 1, 0, true, ints .u8 _⟩ : Ob)] = [⟨5, 1, 0, true, ints .u8 _⟩]; rw [← cpI_set (by rw [List.length_map]; omega), txt_getD (by omega)]; rfl), cov_n 26 rfl rfl ?_⟩
      · omega
      · omega
      · exact (.cons rfl (.u (.u (.u (.u (.u (.u (.u (.u (.u (.u (.u (.u .nil)))))))))))))
    · refine jc_exit <| jc_seq ?_
      obtain rfl : i = l.length := by omega
      refine jc_frz (k := .u8) (l := cpI (l.map ltr) l.length) (l' := bytesI (txt l)) 3 rfl rfl (by rw [hcl]; omega) (by rw [txt_I, List.drop_zero, List.take_of_length_le (by omega)]; have h := cpI_all (l.map ltr); rwa [List.length_map] at h) hL <| jc_region <| zmv rfl (hd 22 rfl) <| zas rfl (hd 2 rfl) <| jo_nil <| jc_ret ?_
      refine ⟨_, _, (.cons rfl .nil), .n, ?_⟩
      rfl

theorem good_y (b : Nat) (hb : 2 ≤ b) (hb2 : b ≤ 36) : Spec Tryz.prog 99 [.i .i64 (b : Int)] (fun o => o = .ret (.b true)) := by
  refine spec_of' [(0, .i .i64 (b : Int))] rfl Tryz.func99 rfl (zlb rfl) fun Γ hN hds hL hR => ?_
  have hd := hdOf 9 hN
  refine zsr <| zas rfl (hd 2 rfl) <| jo_nil <| zsr <| zmv rfl (hd 3 rfl) <| jo_l (ly_tt (ly_ge rfl rfl) (by omega)) (hd 4 rfl) <| zmv rfl (hd 5 rfl) <| jo_g 5 rfl rfl (ly_mv rfl) (hd 6 rfl) <| jo_g 5 rfl rfl (ly_tt (ly_le rfl rfl) (by omega)) (hd 7 rfl) <| jo_l (ly_pick_t rfl rfl) (hd 8 rfl) <| zas rfl (hd 2 rfl) ?_; refine jo_nil <| jc_ret ?_
  refine ⟨_, _, (.cons rfl .nil), .b, ?_⟩
  exact rfl

theorem Print_s (l : List Int) (b : Nat) (hl : l.length ≤ 1048576) (hu : u64s l) (hlb : 2 ≤ b) (hb2 : b ≤ 36) : Spec Tryz.prog 66 [.n false .u64 l, .i .i64 (b : Int)] (fun o => o = .ret (.t [.s (txt (hdg b 1 (vl l).toNat)), .i .i64 0])) := by
  refine spec_of' [(0, .n false .u64 l), (1, .i .i64 (b : Int))] rfl Tryz.func66 rfl (zlb rfl) fun Γ hN hds hL hR => ?_
  have hd := hdOf 14 hN
  have hRl : (hdg b 1 (vl l).toNat).length ≤ 67108864 := by rw [hdg_le]; have h1 := digs_le_len hu hlb; omega
  refine zsr <| zas rfl (hd 4 rfl) <| zas rfl (hd 5 rfl) <| jo_nil <| jc_seq <| zsr <| zmv rfl (hd 6 rfl) ?_
  refine jo_call Tryz.f99 (good_y b hlb hb2) rfl Tryz.func99 rfl rfl (ovL_cons rfl ovL_nil) (.cons .i .nil) (hd 7 rfl) ?_ (fun ch hp => by simp at hp)
  rintro _ ⟨⟩; refine jo_l (ly_not rfl) (hd 8 rfl) <| jo_nil <| jc_litf rfl <| jc_skip <| zsr <| zmv rfl (hd 9 rfl) <| zmv rfl (hd 10 rfl) ?_
  refine jo_callN Tryz.f101 (all_n l b hl hu hlb hb2) (fun o G ⟨_, h⟩ => h ▸ idless_cons ints_id idless_nil) rfl Tryz.func101 rfl rfl (ovL_cons rfl (ovL_cons rfl ovL_nil)) (.cons .n (.cons .i .nil)) (hd 11 rfl) ?_ (fun ch G hp => by simp at hp)
  rintro y G ⟨hy, rfl⟩; injection hy with hy; subst hy
  show JO _ _ _ _ ((11, .o 0 0 0 (hdg b 1 (vl l).toNat).length) :: _) _ _
  refine jo_frz (k := .i64) (l := (hdg b 1 (vl l).toNat)) (l' := (hdg b 1 (vl l).toNat)) 11 rfl rfl (by omega) (by rw [List.drop_zero, List.take_length]) hL ?_
  refine jo_call Tryz.f100 (text_s (hdg b 1 (vl l).toNat) (by omega) (rng36 hb2 (hdg_rng hlb _ _))) rfl Tryz.func100 rfl rfl (ovL_cons rfl ovL_nil) (.cons .n .nil) (hd 12 rfl) ?_ (fun ch hp => by simp at hp)
  rintro _ ⟨⟩; refine jo_l (ly_b2s undS1120 und5 und9 rfl) (hd 13 rfl) <| zas rfl (hd 4 rfl) <| zas rfl (hd 5 rfl) <| jo_nil <| jc_ret ?_
  refine ⟨_, _, (.cons rfl (.cons rfl .nil)), (.t1 .s (.t1 .i .t0)), ?_⟩
  exact rfl


theorem part_12 (l : List Int) (b : Nat) (ys zs : List V) (hlb : 2 ≤ b) (hb2 : b ≤ 36) (hr : rng b l) (hl : l.length ≤ 12) : Spec Tryz.prog 126 [.n false .i64 l, .q [.i .i64 (b : Int)], .q ys, .q zs] (fun o => o = .ret (.t [.n false .u64 (lm (hv b l)), .i .i64 0])) := by
  refine spec_of' [(0, .n false .i64 l), (1, .q [.i .i64 (b : Int)]), (2, .q ys), (3, .q zs)] rfl Tryz.func126 rfl (zlb rfl) fun Γ hN hds hL hR => ?_
  have hd := hdOf 89 hN
  refine zsr <| zas rfl (hd 5 rfl) <| zas rfl (hd 6 rfl) <| jo_nil <| jc_seq <| zsr <| zmv rfl (hd 16 rfl) <| jo_l (ly_lenn sl1122 rfl) (hd 17 rfl) <| jo_l (ly_tt (ly_le rfl rfl) (by omega)) (hd 18 rfl) <| jo_nil <| jc_litt rfl ?_; refine zsr <| zas rfl (hd 7 rfl) <| jo_nil <| jc_seq <| zsr <| zmv rfl (hd 19 rfl) <| jo_l (ly_lenn sl1122 rfl) (hd 20 rfl) <| zmv rfl (hd 21 rfl) <| jo_nil <| jc_block ?_
  refine jc_loopF (G := Nat) (fun i => i ≤ l.length) (fun i => [(7, .i .u64 (hv b (l.take i))), (21, .i .i64 (i : Int)), (9, .u), (22, .u), (23, .u), (24, .u), (25, .u), (26, .u), (27, .u), (28, .u), (29, .u), (30, .u), (31, .u), (32, .u)]) (fun _ => _) (fun i => l.length - i) 0 ?_ ?_ rfl ?_
  · exact Nat.zero_le _
  · exact (.cons rfl (.cons rfl (.u (.u (.u (.u (.u (.u (.u (.u (.u (.u (.u (.u .nil))))))))))))))
  · rintro i hi
    have hrt := rng_take hr i
    have hn0 := hv_nonneg hrt
    have hn1 := hv_12 hb2 hlb hrt (by rw [List.length_take]; omega)
    have hx := rng_getD (by omega) hr i
    refine zsr <| jo_l (ly_lt rfl rfl) (hd 22 rfl) <| jo_nil <| jc_seq ?_
    refine jc_if rfl (fun h2 => ?_) (fun h2 => ?_)
    · have hrm := rng_take hr (i + 1)
      have hm0 := hv_nonneg hrm
      have hm1 := hv_12 hb2 hlb hrm (by rw [List.length_take]; omega)
      have hst := hv_step (b := b) (l := l) (i := i) (by omega)
      refine jc_skip <| jc_seq <| jc_block <| zsr <| jo_l (ly_ian (i := i) sl1122 rfl rfl (by first | rfl | omega) (by omega)) (hd 23 rfl) <| jo_l (ly_ldq one3 rfl rfl) (hd 24 rfl) <| zas rfl (hd 9 rfl) <| jo_nil <| jc_region <| zmv rfl (hd 25 rfl) <| jo_l (ly_ldq one3 rfl rfl) (hd 26 rfl) <| jo_l (ly_conv und3 und82 rfl (r := (b : Int)) (wrap_u64 (by omega) (by omega))) (hd 27 rfl) ?_; refine jo_l (ly_mul rfl rfl (r := (hv b (l.take i)) * b) (wrap_u64 (Int.mul_nonneg hn0 (by omega)) (by omega))) (hd 28 rfl) <| zmv rfl (hd 29 rfl) <| jo_l (ly_conv und3 und82 rfl (r := l.getD i 0) (wrap_u64 hx.1 (by omega))) (hd 30 rfl) <| jo_l (ly_add rfl rfl (r := hv b (l.take (i + 1))) (by rw [← hv_step (by omega)]; exact wrap_u64 hm0 (by omega))) (hd 31 rfl) <| zas rfl (hd 7 rfl) <| jo_nil <| jc_region <| jo_l (ly_add rfl rfl (r := ((i + 1 : Nat) : Int)) (by rw [wrap_i64 (by omega) (by omega)]; omega)) (hd 32 rfl) <| zmv rfl (hd 21 rfl) <| jo_nil ?_
      refine ⟨i + 1, ?_, ?_, rfl, cov_n 28 rfl rfl ?_⟩
      · omega
      · omega
      · exact (.cons rfl (.cons rfl (.u (.u (.u (.u (.u (.u (.u (.u (.u (.u (.u (.u .nil))))))))))))))
    · obtain rfl : i = l.length := by omega
      refine jc_exit <| zsr <| zmv rfl (hd 33 rfl) ?_
      refine jo_call Tryz.f68 (From_s (hv b (l.take l.length))) rfl Tryz.func68 rfl rfl (ovL_cons rfl ovL_nil) (.cons .i .nil) (hd 34 rfl) ?_ (fun ch hp => by simp at hp)
      rintro _ ⟨⟩; refine zas rfl (hd 5 rfl) <| zas rfl (hd 6 rfl) <| jo_nil <| jc_ret ?_
      refine ⟨_, _, (.cons rfl (.cons rfl .nil)), (.t1 .nn (.t1 .i .t0)), ?_⟩
      rw [fl_lm hn0 (by omega), List.take_length]


theorem Parse_k (s : ByteArray) (b : Nat) (r : List Int) (e : Int) (hlb : 2 ≤ b) (hb2 : b ≤ 36) (hs0 : s.size ≠ 0) (hs : s.size < 1099511627776) (hval : ∀ i, i < s.size → dgv (byteAt s i) < b) (hB : Spec Tryz.prog 103 [.n false .i64 (dgs s), .i .i64 (b : Int)] (fun o => o = .ret (.t [.n false .u64 r, .i .i64 e]))) : Spec Tryz.prog 72 [.s s, .i .i64 (b : Int)] (fun o => o = .ret (.t [.n false .u64 r, .i .i64 e])) := by
  refine spec_of' [(0, .s s), (1, .i .i64 (b : Int))] rfl Tryz.func72 rfl (zlb rfl) fun Γ hN hds hL hR => ?_
  have hd := hdOf 60 hN
  refine zsr <| zas rfl (hd 4 rfl) <| zas rfl (hd 5 rfl) <| jo_nil <| jc_seq <| zsr <| zmv rfl (hd 10 rfl) ?_
  refine jo_call Tryz.f99 (good_y b hlb hb2) rfl Tryz.func99 rfl rfl (ovL_cons rfl ovL_nil) (.cons .i .nil) (hd 11 rfl) ?_ (fun ch hp => by simp at hp)
  rintro _ ⟨⟩; refine jo_l (ly_not rfl) (hd 12 rfl) <| jo_nil <| jc_litf rfl <| jc_skip <| jc_seq <| zsr <| zmv rfl (hd 13 rfl) <| jo_l (ly_ff (ly_eqS rfl rfl) (fun h => hs0 (by rw [h]; rfl))) (hd 14 rfl) <| jo_nil <| jc_litf rfl <| jc_skip <| jc_seq ?_; refine jc_region <| zmv rfl (hd 15 rfl) <| jo_l (ly_lens und9 rfl) (hd 16 rfl) <| jo_h (hy_mk (m := s.size) el1122 rfl rfl rfl (by show 8 * s.size ≤ _; omega) (by unfold maxLen; omega) rfl) (hd 17 rfl) <| zas rfl (hd 6 rfl) <| jo_nil <| jc_seq <| jc_seq <| jc_H (H' := [⟨3, 1, 0, true, ints .i64 (cpI (dgs s) 0)⟩]) (by rw [← cpI_0, dgs_len]; rfl) <| jc_region <| zmv rfl (hd 18 rfl) <| jo_l (ly_lens und9 rfl) (hd 19 rfl) <| zmv rfl (hd 20 rfl) ?_; refine jo_nil <| jc_block ?_
  refine jc_loopF (G := Nat) (fun i => i ≤ s.size) (fun i => [(20, .i .i64 (i : Int)), (4, .u), (5, .u), (7, .u), (8, .u), (9, .u), (21, .u), (22, .u), (23, .u), (24, .u), (25, .u), (26, .u), (27, .u), (28, .u), (29, .u), (30, .u), (31, .u), (32, .u), (33, .u), (34, .u), (35, .u), (36, .u), (37, .u), (38, .u), (39, .u), (40, .u), (41, .u), (42, .u), (43, .u), (44, .u), (45, .u), (46, .u), (47, .u), (48, .u), (49, .u), (50, .u), (51, .u), (52, .u), (53, .u), (54, .u)]) (fun i => [⟨3, 1, 0, true, ints .i64 (cpI (dgs s) i)⟩]) (fun i => s.size - i) 0 ?_ ?_ rfl ?_
  · exact Nat.zero_le _
  · exact (.cons rfl (.u (.u (.u (.u (.u (.u (.u (.u (.u (.u (.u (.u (.u (.u (.u (.u (.u (.u (.u (.u (.u (.u (.u (.u (.u (.u (.u (.u (.u (.u (.u (.u (.u (.u (.u (.u (.u (.u (.u .nil))))))))))))))))))))))))))))))))))))))))
  · rintro i hi
    have hcl := cpI_len (l := dgs s) (i := i) (by rw [dgs_len]; omega)
    rw [dgs_len] at hcl
    have hbr := byteAt_range s i
    have hdr := dgv_rng hbr.1 hbr.2
    refine zsr <| jo_l (ly_lt rfl rfl) (hd 21 rfl) <| jo_nil <| jc_seq ?_
    refine jc_if rfl (fun h3 => ?_) (fun h3 => ?_)
    · refine jc_skip <| jc_seq <| jc_block <| zsr <| zmv rfl (hd 22 rfl) <| zas rfl (hd 7 rfl) <| jo_nil <| zsr <| zas rfl (hd 8 rfl) <| jo_nil ?_
      refine jc_meetH (G := Unit) (fun _ => True) (fun _ => [(7, .i .i64 (i : Int)), (8, .i .i64 (dgv (byteAt s i))), (9, .u), (23, .u), (24, .u), (25, .u), (26, .u), (27, .u), (28, .u), (29, .u), (30, .u), (31, .u), (32, .u), (33, .u), (34, .u), (35, .u), (36, .u), (37, .u), (38, .u), (39, .u), (40, .u), (41, .u), (42, .u), (43, .u), (44, .u), (45, .u), (46, .u)]) ?_ ?_
      · refine zsr <| zmv rfl (hd 23 rfl) <| zmv rfl (hd 24 rfl) <| jo_l (ly_ixs (i := i) und9 rfl rfl (by first | rfl | omega) (by omega)) (hd 25 rfl) <| zas rfl (hd 9 rfl) <| jo_nil <| jc_block <| zsr <| zmv rfl (hd 27 rfl) <| jo_l (ly_ge rfl rfl) (hd 28 rfl) <| zmv rfl (hd 29 rfl) ?_
        refine jo_ifp 29 rfl (fun h4 => ?_) (fun h4 => ?_)
        · refine jo_g 29 rfl rfl (ly_mv rfl) (hd 30 rfl) <| jo_g 29 rfl rfl (ly_le rfl rfl) (hd 31 rfl) <| jo_l (ly_pick_t rfl rfl) (hd 32 rfl) <| zas rfl (hd 26 rfl) <| jo_nil ?_
          refine jc_if rfl (fun h5 => ?_) (fun h5 => ?_)
          · refine jc_region <| zmv rfl (hd 33 rfl) <| jo_l (ly_sub rfl rfl (wrap_u8 (by omega) (by omega))) (hd 34 rfl) <| jo_l (ly_conv und5 und3 rfl (wrap_i64 (by omega) (by omega))) (hd 35 rfl) <| zas rfl (hd 8 rfl) <| jo_nil ?_
            refine ⟨(), ?_, rfl, cov_n 16 rfl rfl ?_⟩
            · trivial
            · exact (.cons rfl (.cons (by show some (V.i .i64 _) = some (V.i .i64 _); congr 1; congr 1; first | (exfalso; omega) | skip; unfold dgv; first | rw [if_pos (by omega)] | rw [if_neg (by omega), if_pos (by omega)] | rw [if_neg (by omega), if_neg (by omega)]) (.u (.u (.u (.u (.u (.u (.u (.u (.u (.u (.u (.u (.u (.u (.u (.u (.u (.u (.u (.u (.u (.u (.u (.u (.u .nil)))))))))))))))))))))))))))
          · refine zsr <| zmv rfl (hd 37 rfl) <| jo_l (ly_ge rfl rfl) (hd 38 rfl) <| zmv rfl (hd 39 rfl) ?_
            refine jo_ifp 39 rfl (fun h6 => ?_) (fun h6 => ?_)
            · refine jo_g 39 rfl rfl (ly_mv rfl) (hd 40 rfl) <| jo_g 39 rfl rfl (ly_le rfl rfl) (hd 41 rfl) <| jo_l (ly_pick_t rfl rfl) (hd 42 rfl) <| zas rfl (hd 36 rfl) <| jo_nil ?_
              refine jc_if rfl (fun h7 => ?_) (fun h7 => ?_)
              · refine jc_region <| zmv rfl (hd 43 rfl) <| jo_l (ly_sub rfl rfl (wrap_u8 (by omega) (by omega))) (hd 44 rfl) <| jo_l (ly_conv und5 und3 rfl (wrap_i64 (by omega) (by omega))) (hd 45 rfl) <| jo_l (ly_add rfl rfl (wrap_i64 (by omega) (by omega))) (hd 46 rfl) <| zas rfl (hd 8 rfl) <| jo_nil ?_
                refine ⟨(), ?_, rfl, cov_n 25 rfl rfl ?_⟩
                · trivial
                · exact (.cons rfl (.cons (by show some (V.i .i64 _) = some (V.i .i64 _); congr 1; congr 1; first | (exfalso; omega) | skip; unfold dgv; first | rw [if_pos (by omega)] | rw [if_neg (by omega), if_pos (by omega)] | rw [if_neg (by omega), if_neg (by omega)]) (.u (.u (.u (.u (.u (.u (.u (.u (.u (.u (.u (.u (.u (.u (.u (.u (.u (.u (.u (.u (.u (.u (.u (.u (.u .nil)))))))))))))))))))))))))))
              · refine jc_skip ?_
                refine ⟨(), ?_, rfl, cov_n 20 rfl rfl ?_⟩
                · trivial
                · exact (.cons rfl (.cons (by show some (V.i .i64 _) = some (V.i .i64 _); congr 1; congr 1; first | (exfalso; omega) | skip; unfold dgv; first | rw [if_pos (by omega)] | rw [if_neg (by omega), if_pos (by omega)] | rw [if_neg (by omega), if_neg (by omega)]) (.u (.u (.u (.u (.u (.u (.u (.u (.u (.u (.u (.u (.u (.u (.u (.u (.u (.u (.u (.u (.u (.u (.u (.u (.u .nil)))))))))))))))))))))))))))
            · refine jo_s 39 rfl rfl rfl (hd 40 rfl) <| jo_s 39 rfl rfl rfl (hd 41 rfl) <| jo_l (ly_pick_f rfl rfl) (hd 42 rfl) <| zas rfl (hd 36 rfl) <| jo_nil <| jc_litf rfl <| jc_skip ?_
              refine ⟨(), ?_, rfl, cov_n 20 rfl rfl ?_⟩
              · trivial
              · exact (.cons rfl (.cons (by show some (V.i .i64 _) = some (V.i .i64 _); congr 1; congr 1; first | (exfalso; omega) | skip; unfold dgv; first | rw [if_pos (by omega)] | rw [if_neg (by omega), if_pos (by omega)] | rw [if_neg (by omega), if_neg (by omega)]) (.u (.u (.u (.u (.u (.u (.u (.u (.u (.u (.u (.u (.u (.u (.u (.u (.u (.u (.u (.u (.u (.u (.u (.u (.u .nil)))))))))))))))))))))))))))
        · refine jo_s 29 rfl rfl rfl (hd 30 rfl) <| jo_s 29 rfl rfl rfl (hd 31 rfl) <| jo_l (ly_pick_f rfl rfl) (hd 32 rfl) <| zas rfl (hd 26 rfl) <| jo_nil <| jc_litf rfl <| zsr <| zmv rfl (hd 37 rfl) <| jo_l (ly_ge rfl rfl) (hd 38 rfl) <| zmv rfl (hd 39 rfl) ?_
          refine jo_ifp 39 rfl (fun h10 => ?_) (fun h10 => ?_)
          · refine jo_g 39 rfl rfl (ly_mv rfl) (hd 40 rfl) <| jo_g 39 rfl rfl (ly_le rfl rfl) (hd 41 rfl) <| jo_l (ly_pick_t rfl rfl) (hd 42 rfl) <| zas rfl (hd 36 rfl) <| jo_nil ?_
            refine jc_if rfl (fun h11 => ?_) (fun h11 => ?_)
            · refine jc_region <| zmv rfl (hd 43 rfl) <| jo_l (ly_sub rfl rfl (wrap_u8 (by omega) (by omega))) (hd 44 rfl) <| jo_l (ly_conv und5 und3 rfl (wrap_i64 (by omega) (by omega))) (hd 45 rfl) <| jo_l (ly_add rfl rfl (wrap_i64 (by omega) (by omega))) (hd 46 rfl) <| zas rfl (hd 8 rfl) <| jo_nil ?_
              refine ⟨(), ?_, rfl, cov_n 25 rfl rfl ?_⟩
              · trivial
              · exact (.cons rfl (.cons (by show some (V.i .i64 _) = some (V.i .i64 _); congr 1; congr 1; first | (exfalso; omega) | skip; unfold dgv; first | rw [if_pos (by omega)] | rw [if_neg (by omega), if_pos (by omega)] | rw [if_neg (by omega), if_neg (by omega)]) (.u (.u (.u (.u (.u (.u (.u (.u (.u (.u (.u (.u (.u (.u (.u (.u (.u (.u (.u (.u (.u (.u (.u (.u (.u .nil)))))))))))))))))))))))))))
            · refine jc_skip ?_
              refine ⟨(), ?_, rfl, cov_n 20 rfl rfl ?_⟩
              · trivial
              · exact (.cons rfl (.cons (by show some (V.i .i64 _) = some (V.i .i64 _); congr 1; congr 1; first | (exfalso; omega) | skip; unfold dgv; first | rw [if_pos (by omega)] | rw [if_neg (by omega), if_pos (by omega)] | rw [if_neg (by omega), if_neg (by omega)]) (.u (.u (.u (.u (.u (.u (.u (.u (.u (.u (.u (.u (.u (.u (.u (.u (.u (.u (.u (.u (.u (.u (.u (.u (.u .nil)))))))))))))))))))))))))))
          · refine jo_s 39 rfl rfl rfl (hd 40 rfl) <| jo_s 39 rfl rfl rfl (hd 41 rfl) <| jo_l (ly_pick_f rfl rfl) (hd 42 rfl) <| zas rfl (hd 36 rfl) <| jo_nil <| jc_litf rfl <| jc_skip ?_
            refine ⟨(), ?_, rfl, cov_n 20 rfl rfl ?_⟩
            · trivial
            · exact (.cons rfl (.cons (by show some (V.i .i64 _) = some (V.i .i64 _); congr 1; congr 1; first | (exfalso; omega) | skip; unfold dgv; first | rw [if_pos (by omega)] | rw [if_neg (by omega), if_pos (by omega)] | rw [if_neg (by omega), if_neg (by omega)]) (.u (.u (.u (.u (.u (.u (.u (.u (.u (.u (.u (.u (.u (.u (.u (.u (.u (.u (.u (.u (.u (.u (.u (.u (.u .nil)))))))))))))))))))))))))))
      · rintro _ _; refine jc_seq <| zsr <| zmv rfl (hd 47 rfl) <| zmv rfl (hd 48 rfl) <| jo_l (ly_ff (ly_ge rfl rfl) (by have := hval i (by omega); omega)) (hd 49 rfl) <| jo_nil <| jc_litf rfl <| jc_skip <| jc_region <| zmv rfl (hd 50 rfl) <| zmv rfl (hd 51 rfl) <| zmv rfl (hd 52 rfl) ?_; refine jo_l (ly_ia (i := i) sl1122 rfl rfl rfl (by first | rfl | omega) (by omega) rfl) (hd 53 rfl) <| jo_st (sy_storei rfl rfl rfl one3 (by first | omega | (dsimp only; omega))) <| jo_nil <| jc_region <| jo_l (ly_add rfl rfl (r := ((i + 1 : Nat) : Int)) (by rw [wrap_i64 (by omega) (by omega)]; omega)) (hd 54 rfl) <| zmv rfl (hd 20 rfl) <| jo_nil ?_
        refine ⟨i + 1, ?_, ?_, (by show [(⟨3, 1, 0, true, ints .i64 _⟩ : Ob)] = [⟨3, 1, 0, true, ints .i64 _⟩]; rw [← cpI_set (by rw [dgs_len]; omega), dgs_getD (by omega)]), cov_n 80 rfl rfl ?_⟩
        · omega
        · omega
        · exact (.cons rfl (.u (.u (.u (.u (.u (.u (.u (.u (.u (.u (.u (.u (.u (.u (.u (.u (.u (.u (.u (.u (.u (.u (.u (.u (.u (.u (.u (.u (.u (.u (.u (.u (.u (.u (.u (.u (.u (.u (.u .nil))))))))))))))))))))))))))))))))))))))))
    · refine jc_exit <| jc_seq ?_
      obtain rfl : i = s.size := by omega
      refine jc_frz (k := .i64) (l := cpI (dgs s) s.size) (l' := dgs s) 6 rfl rfl (by rw [hcl]; exact Nat.le_of_eq (Nat.zero_add _)) (by rw [List.drop_zero, List.take_of_length_le (by omega)]; have h := cpI_all (dgs s); rwa [dgs_len] at h) hL <| jc_region <| zmv rfl (hd 55 rfl) <| zmv rfl (hd 56 rfl) ?_
      refine jo_call Tryz.f103 (hB) rfl Tryz.func103 rfl rfl (ovL_cons rfl (ovL_cons rfl ovL_nil)) (.cons .n (.cons .i .nil)) (hd 57 rfl) ?_ (fun ch hp => by simp at hp)
      rintro _ ⟨⟩; refine jo_l (ly_ext rfl rfl) (hd 58 rfl) <| jo_l (ly_ext rfl rfl) (hd 59 rfl) <| zas rfl (hd 4 rfl) <| zas rfl (hd 5 rfl) <| jo_nil <| jc_ret ?_
      refine ⟨_, _, (.cons rfl (.cons rfl .nil)), (.t1 .nn (.t1 .i .t0)), ?_⟩
      exact rfl


theorem Pow_v (v n : Nat) (hv : 2 ≤ v) (hlv0 : lenV (v : Int) ≤ 67108864) (hf : lenV (PW v n) ≤ 67108864) : Spec Tryz.prog 71 [.n false .u64 (lm (v : Int)), .i .i64 (n : Int)] (fun o => o = .ret (.t [.n false .u64 (lm (PW v n)), .i .i64 0])) := by
  refine spec_of' [(0, .n false .u64 (lm (v : Int))), (1, .i .i64 (n : Int))] rfl Tryz.func71 rfl (zlb rfl) fun Γ hN hds hL hR => ?_
  have hd := hdOf 63 hN
  have hF1 : Spec Tryz.prog 68 [.i .u64 1] (fun o => o = .ret (.n true .u64 (lm (PW v 0)))) := by have h := From_s 1; rwa [show (if (1 : Int) = 0 then [] else [(1 : Int)]) = lm (PW v 0) from by rw [PW_0]; exact fl_lm (by decide) (by decide)] at h
  have hlen := PW_len (n := n) hv
  have hn1 := PW_n (n := n) hv
  have hl2 := lenV_2 hv
  have hlmv := lenV_lm hlv0
  refine zsr <| zas rfl (hd 4 rfl) <| zas rfl (hd 5 rfl) <| jo_nil <| jc_seq <| zsr <| zmv rfl (hd 10 rfl) <| jo_l (ly_ff (ly_lt rfl rfl) (by omega)) (hd 11 rfl) <| jo_nil <| jc_litf rfl <| jc_skip ?_; refine zsr <| zmv rfl (hd 12 rfl) ?_
  refine jo_call Tryz.f51 (Norm_v (v : Int) (by omega)) rfl Tryz.func51 rfl rfl (ovL_cons rfl ovL_nil) (.cons .n .nil) (hd 13 rfl) ?_ (fun ch hp => by simp at hp)
  rintro _ ⟨⟩; refine zas rfl (hd 0 rfl) <| jo_nil <| jc_seq <| zsr <| zmv rfl (hd 14 rfl) <| jo_l (ly_eq rfl rfl) (hd 15 rfl) <| jo_nil ?_
  refine jc_if rfl (fun h2 => ?_) (fun h2 => ?_)
  · obtain rfl : n = 0 := by omega
    refine jc_seq <| jc_region ?_
    refine jo_call Tryz.f68 (hF1) rfl Tryz.func68 rfl rfl (ovL_cons rfl ovL_nil) (.cons .i .nil) (hd 16 rfl) ?_ (fun ch hp => by simp at hp)
    rintro _ ⟨⟩; refine zas rfl (hd 4 rfl) <| zas rfl (hd 5 rfl) <| jo_nil <| jc_ret ?_
    refine ⟨_, _, (.cons rfl (.cons rfl .nil)), (.t1 .nn (.t1 .i .t0)), ?_⟩
    rfl
  · refine jc_skip <| zsr <| zmv rfl (hd 17 rfl) ?_
    refine jo_call Tryz.f39 (Length_v (v : Int) (by omega)) rfl Tryz.func39 rfl rfl (ovL_cons rfl ovL_nil) (.cons .n .nil) (hd 18 rfl) ?_ (fun ch hp => by simp at hp)
    rintro _ ⟨⟩; refine zas rfl (hd 6 rfl) <| jo_nil <| jc_seq <| zsr <| zmv rfl (hd 19 rfl) <| jo_l (ly_ff (ly_le rfl rfl) (by omega)) (hd 20 rfl) <| jo_nil <| jc_litf rfl <| jc_skip <| jc_seq <| jc_seq <| jc_region ?_; refine zmv rfl (hd 22 rfl) <| jo_l (ly_ff (ly_gt rfl rfl) (by omega)) (hd 23 rfl) <| zmv rfl (hd 24 rfl) <| jo_g 24 rfl rfl (ly_mv rfl) (hd 25 rfl) <| jo_g 24 rfl rfl (ly_sub rfl rfl (r := ((lenV (v : Int) - 1 : Nat) : Int)) (by rw [wrap_i64 (by omega) (by omega)]; omega)) (hd 26 rfl) <| jo_g 24 rfl rfl (ly_mv rfl) (hd 27 rfl) <| jo_g 24 rfl rfl (ly_mul rfl rfl (r := (((lenV (v : Int) - 1) * n : Nat) : Int)) (by rw [← Int.natCast_mul]; exact wrap_i64 (by omega) (by omega))) (hd 28 rfl) <| jo_g 24 rfl rfl (ly_add rfl rfl (r := (((lenV (v : Int) - 1) * n + 1 : Nat) : Int)) (by rw [show (((lenV (v : Int) - 1) * n : Nat) : Int) + 1 = (((lenV (v : Int) - 1) * n + 1 : Nat) : Int) from rfl]; exact wrap_i64 (by omega) (by omega))) (hd 29 rfl) <| jo_g 24 rfl rfl (ly_ff (ly_gt rfl rfl) (by omega)) (hd 30 rfl) <| jo_l (ly_pick_f rfl rfl) (hd 31 rfl) <| jo_nil <| jc_litf rfl <| jc_skip ?_; refine jc_seq <| jc_region ?_
    refine jo_call Tryz.f68 (hF1) rfl Tryz.func68 rfl rfl (ovL_cons rfl ovL_nil) (.cons .i .nil) (hd 32 rfl) ?_ (fun ch hp => by simp at hp)
    rintro _ ⟨⟩; refine zas rfl (hd 7 rfl) <| jo_nil <| jc_seq <| zsr <| zas rfl (hd 8 rfl) <| jo_nil <| jc_block ?_
    refine jc_loopF (G := Nat) (fun k => k ≤ 63) (fun k => [(7, .n true .u64 (lm (PW v (n / 2 ^ k)))), (8, .i .i64 ((k : Int) - 1)), (4, .u), (5, .u), (9, .u), (33, .u), (34, .u), (35, .u), (36, .u), (37, .u), (38, .u), (39, .u), (40, .u), (41, .u), (42, .u), (43, .u), (44, .u), (45, .u), (46, .u), (47, .u), (48, .u), (49, .u), (50, .u), (51, .u), (52, .u), (53, .u), (54, .u), (55, .u), (56, .u), (57, .u), (58, .u), (59, .u), (60, .u), (61, .u)]) (fun _ => _) (fun k => k) 63 ?_ ?_ rfl ?_
    · exact Nat.le_refl _
    · exact (.cons (by show some (V.n _ _ _) = some (V.n _ _ _); rw [show n / 2 ^ 63 = 0 from Nat.div_eq_of_lt (by omega)]) (.cons rfl (.u (.u (.u (.u (.u (.u (.u (.u (.u (.u (.u (.u (.u (.u (.u (.u (.u (.u (.u (.u (.u (.u (.u (.u (.u (.u (.u (.u (.u (.u (.u (.u .nil))))))))))))))))))))))))))))))))))
    · rintro k hk; refine jc_seq <| zsr <| zmv rfl (hd 33 rfl) <| jo_l (ly_ge rfl rfl) (hd 34 rfl) <| jo_nil ?_
      refine jc_if rfl (fun h5 => ?_) (fun h5 => ?_)
      · have hk0 : 0 < k := by omega
        have hS : 2 * (n / 2 ^ k) ≤ n := by rw [pm_half hk0]; have := Nat.div_le_self n (2 ^ (k - 1)); omega
        have hO := Nat.le_trans (PW_mono (m := (n / 2 ^ k)) hv (by omega)) hf
        have hOl := lenV_lm hO
        have hO2 := Nat.le_trans (PW_mono hv hS) hf
        have hO2l := lenV_lm hO2
        have hone := lm_ne (PW_pos (n := (n / 2 ^ k)) hv)
        refine jc_skip <| jc_seq <| jc_block <| zsr <| zas rfl (hd 9 rfl) <| jo_nil <| jc_seq <| zsr <| zmv rfl (hd 37 rfl) <| jo_l (ly_lenn sl28 rfl) (hd 38 rfl) <| jo_l (ly_tt (ly_gt rfl rfl) (by have := List.length_pos_iff.2 hone; omega)) (hd 39 rfl) ?_; refine jo_nil <| jc_litt rfl <| zsr <| zmv rfl (hd 41 rfl) ?_
        refine jo_call Tryz.f102 (Square_l (lm (PW v (n / 2 ^ k))) (by omega) (lm_u _)) rfl Tryz.func102 rfl rfl (ovL_cons rfl ovL_nil) (.cons .n .nil) (hd 42 rfl) ?_ (fun ch hp => by simp at hp)
        rintro y ⟨r2, e2, hy, he2⟩; injection hy with hy; subst hy
        rw [PW_sq] at he2
        obtain ⟨rfl, rfl⟩ := errL_fit he2 hO2
        refine zmv rfl (hd 40 rfl) <| jo_l (ly_ext rfl rfl) (hd 43 rfl) <| jo_l (ly_ext rfl rfl) (hd 44 rfl) <| zas rfl (hd 7 rfl) <| zas rfl (hd 9 rfl) <| jo_nil <| zsr <| zmv rfl (hd 45 rfl) <| jo_l (ly_ff (ly_ne rfl rfl) (by decide)) (hd 46 rfl) <| jo_nil <| jc_litf rfl <| jc_skip ?_; refine zsr <| zmv rfl (hd 48 rfl) <| zmv rfl (hd 49 rfl) <| jo_l (ly_is (ly_shr rfl rfl (by omega) rfl) (show V.i .i64 _ = V.i .i64 ((n / 2 ^ (k - 1) : Nat) : Int) from congrArg (V.i .i64) (shr_nat (by rw [show ((k : Int) - 1).toNat = k - 1 by omega, Nat.min_eq_left (by have h : IntKind.i64.bits = 64 := rfl; omega)])))) (hd 50 rfl) <| jo_l (ly_is (ly_bit (by simp) rfl rfl rfl) (show V.i .i64 _ = V.i .i64 ((n / 2 ^ (k - 1) % 2 : Nat) : Int) from congrArg (V.i .i64) (and1i (by have := Nat.div_le_self n (2 ^ (k - 1)); omega)))) (hd 51 rfl) <| jo_l (ly_eq rfl rfl) (hd 52 rfl) <| jo_nil ?_
        refine jc_if rfl (fun h8 => ?_) (fun h8 => ?_)
        · have hb1 := pm_bit1 hk0 h8
          have hO3 := Nat.le_trans (PW_mono (m := n / 2 ^ (k - 1)) hv (Nat.div_le_self _ _)) hf
          refine zsr <| zmv rfl (hd 54 rfl) <| zmv rfl (hd 55 rfl) ?_
          refine jo_call Tryz.f41 (Mul_l (lm (PW v (2 * (n / 2 ^ k)))) (lm (v : Int)) (by omega) (by omega) (lm_u _) (lm_u _)) rfl Tryz.func41 rfl rfl (ovL_cons rfl (ovL_cons rfl ovL_nil)) (.cons .n (.cons .n .nil)) (hd 56 rfl) ?_ (fun ch hp => by simp at hp)
          rintro y ⟨r3, e3, hy, he3⟩; injection hy with hy; subst hy
          rw [PW_s, hb1] at he3
          obtain ⟨rfl, rfl⟩ := errL_fit he3 hO3
          refine zmv rfl (hd 53 rfl) <| jo_l (ly_ext rfl rfl) (hd 57 rfl) <| jo_l (ly_ext rfl rfl) (hd 58 rfl) <| zas rfl (hd 7 rfl) <| zas rfl (hd 9 rfl) <| jo_nil <| zsr <| zmv rfl (hd 59 rfl) <| jo_l (ly_ff (ly_ne rfl rfl) (by decide)) (hd 60 rfl) <| jo_nil <| jc_litf rfl <| jc_skip ?_; refine jc_region <| zmv rfl (hd 35 rfl) <| jo_l (ly_sub rfl rfl (wrap_i64 (by omega) (by omega))) (hd 36 rfl) <| zas rfl (hd 8 rfl) <| jo_nil ?_
          refine ⟨k - 1, ?_, ?_, rfl, cov_n 67 rfl rfl ?_⟩
          · omega
          · omega
          · exact (.cons (by show some (V.n _ _ _) = some (V.n _ _ _); first | rfl | rw [hb0]) (.cons (by show some (V.i .i64 _) = some (V.i .i64 _); congr 2; omega) (.u (.u (.u (.u (.u (.u (.u (.u (.u (.u (.u (.u (.u (.u (.u (.u (.u (.u (.u (.u (.u (.u (.u (.u (.u (.u (.u (.u (.u (.u (.u (.u .nil))))))))))))))))))))))))))))))))))
        · have hb0 := pm_bit0 hk0 h8
          refine jc_skip <| jc_region <| zmv rfl (hd 35 rfl) <| jo_l (ly_sub rfl rfl (wrap_i64 (by omega) (by omega))) (hd 36 rfl) <| zas rfl (hd 8 rfl) <| jo_nil ?_
          refine ⟨k - 1, ?_, ?_, rfl, cov_n 57 rfl rfl ?_⟩
          · omega
          · omega
          · exact (.cons (by show some (V.n _ _ _) = some (V.n _ _ _); first | rfl | rw [hb0]) (.cons (by show some (V.i .i64 _) = some (V.i .i64 _); congr 2; omega) (.u (.u (.u (.u (.u (.u (.u (.u (.u (.u (.u (.u (.u (.u (.u (.u (.u (.u (.u (.u (.u (.u (.u (.u (.u (.u (.u (.u (.u (.u (.u (.u .nil))))))))))))))))))))))))))))))))))
      · obtain rfl : k = 0 := by omega
        refine jc_exit <| zsr <| zmv rfl (hd 62 rfl) <| zas rfl (hd 4 rfl) <| zas rfl (hd 5 rfl) <| jo_nil <| jc_ret ?_
        refine ⟨_, _, (.cons rfl (.cons rfl .nil)), (.t1 .nn (.t1 .i .t0)), ?_⟩
        rw [Nat.pow_zero, Nat.div_one]



theorem Mul_f (x y : Int) (hx : 0 ≤ x) (hy : 0 ≤ y) (fx : lenV x ≤ 67108864) (fy : lenV y ≤ 67108864) (f : lenV (x * y) ≤ 67108864) : Spec Tryz.prog 41 [.n false .u64 (lm x), .n false .u64 (lm y)] (fun o => o = .ret (.t [.n false .u64 (lm (x * y)), .i .i64 0])) := by
  have h1 := lenV_lm fx
  have h2 := lenV_lm fy
  refine (Mul_l (lm x) (lm y) (by omega) (by omega) (lm_u _) (lm_u _)).weak fun o ho => ?_
  obtain ⟨r, e, rfl, he⟩ := ho
  rw [vl_lm hx, vl_lm hy] at he
  obtain ⟨rfl, rfl⟩ := errL_fit he f
  exact ⟨_, rfl, fun _ _ _ _ h => end_nnT h⟩
theorem Add_f (x y : Int) (hx : 0 ≤ x) (hy : 0 ≤ y) (fx : lenV x ≤ 67108864) (fy : lenV y ≤ 67108864) (f : lenV (x + y) ≤ 67108864) : Spec Tryz.prog 83 [.n false .u64 (lm x), .n false .u64 (lm y)] (fun o => o = .ret (.t [.n false .u64 (lm (x + y)), .i .i64 0])) := by
  have h1 := lenV_lm fx
  have h2 := lenV_lm fy
  have ev : vl (sumL (lm x) (lm y)) = x + y := by rw [vl_sumL, vl_lm hx, vl_lm hy]
  have hc := adN_c (a := (swL (trm (lm x)) (trm (lm y))).1) (b := (swL (trm (lm x)) (trm (lm y))).2) (by unfold swL; split; exact u64s_trm (lm_u y); exact u64s_trm (lm_u x)) (by unfold swL; split; exact u64s_trm (lm_u x); exact u64s_trm (lm_u y)) (swL (trm (lm x)) (trm (lm y))).1.length
  have hu : u64s (sumL (lm x) (lm y)) := u64s_app1 (adN_u _) hc.1 (by omega)
  have e := trm_lm hu ev
  have h := Add_ok (lm x) (lm y) (by omega) (by omega) (lm_u x) (lm_u y) (by rw [e, lenN_lm]; exact f)
  rwa [e] at h

theorem power_x (b n g : Nat) (hlb : 2 ≤ b) (hb2 : b ≤ 36) (hn : lenV (PW b n) ≤ 67108864) : SpecX Tryz.prog 125 [.i .i64 (n : Int), .q [.c (.map (some g))], .q [.i .i64 (b : Int)]] (cF b) g (fun o => o = .ret (.t [.n false .u64 (lm (PW b n)), .i .i64 0])) := by
  refine specX_of [(0, .i .i64 (n : Int)), (1, .q [.c (.map (some g))]), (2, .q [.i .i64 (b : Int)])] rfl Tryz.func125 rfl (zlb rfl) fun Γ hN hds hΓ => ?_
  have hdM : ∀ d, Nat.blt d 33 = true → d < Γ.N := fun d h => by rw [hN]; exact Nat.le_of_ble_eq_true h
  have hd := hdM
  have hF : Spec Tryz.prog 68 [.i .u64 (b : Int)] (fun o => o = .ret (.n false .u64 (lm (b : Int)))) := by have h := (From_s (b : Int)).nn; rwa [show (if (b : Int) = 0 then [] else [(b : Int)]) = lm (b : Int) from fl_lm (by omega) (by omega)] at h
  have hlb9 : lenV (b : Int) ≤ 67108864 := Nat.le_trans (lenV_mono (w := 36) (by omega)) (by decide)
  refine jcm_toP hΓ rfl ?_
  intro Γ1 hN1 hds1 hL hR back backE
  have hd : ∀ d, Nat.blt d 33 = true → d < Γ1.N := fun d h => by rw [hN1]; exact hdM d h
  refine jcp_seq <| jc_region <| zas rfl (hd 4 rfl) <| zas rfl (hd 5 rfl) <| jo_nil <| back _ _ _ _ rfl ?_
  have hd := hdM
  refine jcm_seq <| jcm_seq <| jcm_region <| jom_l (ly_ldq one1141 rfl rfl) (hd 11 rfl) <| jom_l (ly_mv rfl) (hd 12 rfl) ?_
  refine jom_lookup (n := n) (z := (.slice none 0 0)) undm1141 undki3 (zvOk zv28) rfl rfl rfl (hd 13 rfl) ?_ ?_
  · refine jom_l (ly_mv rfl) (hd 10 rfl) <| jom_l (ly_ext rfl rfl) (hd 14 rfl) <| jom_l (ly_ext rfl rfl) (hd 15 rfl) <| jom_l (ly_as rfl) (hd 6 rfl) <| jom_l (ly_as rfl) (hd 7 rfl) <| jom_nil <| jcm_toP hΓ rfl ?_
    intro Γ1 hN1 hds1 hL hR back backE
    have hd : ∀ d, Nat.blt d 33 = true → d < Γ1.N := fun d h => by rw [hN1]; exact hdM d h
    refine jcp_seq <| jc_region <| zmv rfl (hd 16 rfl) <| jo_nil <| back _ _ _ _ rfl ?_
    have hd := hdM
    refine jcm_litt rfl <| jcm_toP hΓ rfl ?_
    intro Γ1 hN1 hds1 hL hR back backE
    have hd : ∀ d, Nat.blt d 33 = true → d < Γ1.N := fun d h => by rw [hN1]; exact hdM d h
    refine jcp_seq <| jc_region <| zmv rfl (hd 17 rfl) <| zas rfl (hd 4 rfl) <| zas rfl (hd 5 rfl) <| jo_nil <| back _ _ _ _ rfl ?_
    have hd := hdM
    refine jcm_ret fun a w s hg => ?_
    refine ⟨_, _, s, hg, (.cons rfl (.cons rfl .nil)), ?_⟩
    exact rfl
  · refine jom_l (ly_mv rfl) (hd 10 rfl) <| jom_l (ly_ext rfl rfl) (hd 14 rfl) <| jom_l (ly_ext rfl rfl) (hd 15 rfl) <| jom_l (ly_as rfl) (hd 6 rfl) <| jom_l (ly_as rfl) (hd 7 rfl) <| jom_nil <| jcm_toP hΓ rfl ?_
    intro Γ1 hN1 hds1 hL hR back backE
    have hd : ∀ d, Nat.blt d 33 = true → d < Γ1.N := fun d h => by rw [hN1]; exact hdM d h
    refine jcp_seq <| jc_region <| zmv rfl (hd 16 rfl) <| jo_nil <| back _ _ _ _ rfl ?_
    have hd := hdM
    refine jcm_litf rfl <| jcm_skip <| jcm_toP hΓ rfl ?_
    intro Γ1 hN1 hds1 hL hR back backE
    have hd : ∀ d, Nat.blt d 33 = true → d < Γ1.N := fun d h => by rw [hN1]; exact hdM d h
    refine jcp_seq <| jc_region <| jo_l (ly_ldq one3 rfl rfl) (hd 19 rfl) <| jo_l (ly_conv und3 und82 rfl (r := (b : Int)) (wrap_u64 (by omega) (by omega))) (hd 20 rfl) ?_
    refine jo_call Tryz.f68 (hF) rfl Tryz.func68 rfl rfl (ovL_cons rfl ovL_nil) (.cons .i .nil) (hd 21 rfl) ?_ (fun ch hp => by simp at hp)
    rintro _ ⟨⟩; refine zmv rfl (hd 22 rfl) ?_
    refine jo_call Tryz.f71 (Pow_v b n hlb hlb9 (by omega)) rfl Tryz.func71 rfl rfl (ovL_cons rfl (ovL_cons rfl ovL_nil)) (.cons .n (.cons .i .nil)) (hd 23 rfl) ?_ (fun ch hp => by simp at hp)
    rintro _ ⟨⟩; refine zmv rfl (hd 18 rfl) <| jo_l (ly_ext rfl rfl) (hd 24 rfl) <| jo_l (ly_ext rfl rfl) (hd 25 rfl) <| zas rfl (hd 8 rfl) <| zas rfl (hd 9 rfl) <| jo_nil <| back _ _ _ _ rfl ?_
    have hd := hdM
    refine jcm_seq <| jcm_toP hΓ rfl ?_
    intro Γ1 hN1 hds1 hL hR back backE
    have hd : ∀ d, Nat.blt d 33 = true → d < Γ1.N := fun d h => by rw [hN1]; exact hdM d h
    refine jcp_seq <| jc_region <| zmv rfl (hd 26 rfl) <| jo_l (ly_tt (ly_eq rfl rfl) (by decide)) (hd 27 rfl) <| jo_nil <| back _ _ _ _ rfl ?_
    have hd := hdM
    refine jcm_litt rfl <| jcm_region <| jom_l (ly_ldq one1141 rfl rfl) (hd 28 rfl) <| jom_l (ly_mv rfl) (hd 29 rfl) <| jom_l (ly_mv rfl) (hd 30 rfl) <| jom_enter hΓ undm1141 undki3 rfl rfl rfl (fun w u h => rel_Ble (Nat.zero_le _) _ _ h) <| jom_nil <| jcm_toP hΓ rfl ?_
    intro Γ1 hN1 hds1 hL hR back backE
    have hd : ∀ d, Nat.blt d 33 = true → d < Γ1.N := fun d h => by rw [hN1]; exact hdM d h
    refine jcp_seq <| jc_region <| zmv rfl (hd 31 rfl) <| zmv rfl (hd 32 rfl) <| zas rfl (hd 4 rfl) <| zas rfl (hd 5 rfl) <| jo_nil <| back _ _ _ _ rfl ?_
    have hd := hdM
    refine jcm_ret fun a w s hg => ?_
    refine ⟨_, _, s, hg, (.cons rfl (.cons rfl .nil)), ?_⟩
    exact rfl

theorem part_big (b g : Nat) (hlb : 2 ≤ b) (hb2 : b ≤ 36) (l : List Int) (n : Nat) (hr : rng b l) (hl : l.length ≤ 1099511627776) (hv9 : lenV (hv b l) ≤ 67108864) (hk9 : lenV (PW b ((l.length + 1) / 2)) ≤ 67108864) (hn : l.length ≤ n) (h12 : 12 < l.length) (ih : ∀ (l2 : List Int) (n : Nat), rng b l2 → l2.length ≤ 1099511627776 → lenV (hv b l2) ≤ 67108864 → lenV (PW b ((l2.length + 1) / 2)) ≤ 67108864 → l2.length ≤ n → l2.length < l.length → SpecX Tryz.prog 126 [.n false .i64 l2, .q [.i .i64 (b : Int)], .q [cyc 126 [.q [.i .i64 (b : Int)]] [.q [.f 125 [.q [.c (.map (some g))], .q [.i .i64 (b : Int)]]]] n], .q [.f 125 [.q [.c (.map (some g))], .q [.i .i64 (b : Int)]]]] (cF b) g (fun o => o = .ret (.t [.n false .u64 (lm (hv b l2)), .i .i64 0]))) : SpecX Tryz.prog 126 [.n false .i64 l, .q [.i .i64 (b : Int)], .q [cyc 126 [.q [.i .i64 (b : Int)]] [.q [.f 125 [.q [.c (.map (some g))], .q [.i .i64 (b : Int)]]]] n], .q [.f 125 [.q [.c (.map (some g))], .q [.i .i64 (b : Int)]]]] (cF b) g (fun o => o = .ret (.t [.n false .u64 (lm (hv b l)), .i .i64 0])) := by
  refine specX_of [(0, .n false .i64 l), (1, .q [.i .i64 (b : Int)]), (2, .q [cyc 126 [.q [.i .i64 (b : Int)]] [.q [.f 125 [.q [.c (.map (some g))], .q [.i .i64 (b : Int)]]]] n]), (3, .q [.f 125 [.q [.c (.map (some g))], .q [.i .i64 (b : Int)]]])] rfl Tryz.func126 rfl (zlb rfl) fun Γ hN hds hΓ => ?_
  have hdM : ∀ d, Nat.blt d 89 = true → d < Γ.N := fun d h => by rw [hN]; exact Nat.le_of_ble_eq_true h
  have hd := hdM
  obtain ⟨n, rfl⟩ : ∃ m, n = m + 1 := ⟨n - 1, by omega⟩
  have hla : (l.take (l.length - (l.length / 2))).length = l.length - (l.length / 2) := by rw [List.length_take]; omega
  have hlb0 : (l.drop (l.length - (l.length / 2))).length = (l.length / 2) := by rw [List.length_drop]; omega
  have hra := rng_take hr (l.length - (l.length / 2))
  have hrb := rng_drop hr (l.length - (l.length / 2))
  have hsp := hv_split (b := b) (k := (l.length / 2)) l (by omega)
  have hna := hv_nonneg hra
  have hnb := hv_nonneg hrb
  have hnl := hv_nonneg hr
  obtain ⟨hfa, hfb, hfm⟩ := half_fit (k := (l.length / 2)) hlb hr (by omega) hv9
  have hfp : lenV (PW b (l.length / 2)) ≤ 67108864 := Nat.le_trans (PW_mono hlb (by omega)) hk9
  have hpn := PW_nn (v := b) (n := (l.length / 2))
  have hka : lenV (PW b (((l.take (l.length - (l.length / 2))).length + 1) / 2)) ≤ 67108864 := Nat.le_trans (PW_mono hlb (by omega)) hk9
  have hkb : lenV (PW b (((l.drop (l.length - (l.length / 2))).length + 1) / 2)) ≤ 67108864 := Nat.le_trans (PW_mono hlb (by omega)) hk9
  refine jcm_toP hΓ rfl ?_
  intro Γ1 hN1 hds1 hL hR back backE
  have hd : ∀ d, Nat.blt d 89 = true → d < Γ1.N := fun d h => by rw [hN1]; exact hdM d h
  refine jcp_seq <| jc_region <| zas rfl (hd 5 rfl) <| zas rfl (hd 6 rfl) <| jo_nil <| back _ _ _ _ rfl ?_
  have hd := hdM
  refine jcm_seq <| jcm_toP hΓ rfl ?_
  intro Γ1 hN1 hds1 hL hR back backE
  have hd : ∀ d, Nat.blt d 89 = true → d < Γ1.N := fun d h => by rw [hN1]; exact hdM d h
  refine jcp_seq <| jc_region <| zmv rfl (hd 16 rfl) <| jo_l (ly_lenn sl1122 rfl) (hd 17 rfl) <| jo_l (ly_ff (ly_le rfl rfl) (by omega)) (hd 18 rfl) <| jo_nil <| back _ _ _ _ rfl ?_
  have hd := hdM
  refine jcm_litf rfl <| jcm_skip <| jcm_toP hΓ rfl ?_
  intro Γ1 hN1 hds1 hL hR back backE
  have hd : ∀ d, Nat.blt d 89 = true → d < Γ1.N := fun d h => by rw [hN1]; exact hdM d h
  refine jcp_seq <| jc_region <| zmv rfl (hd 35 rfl) <| jo_l (ly_lenn sl1122 rfl) (hd 36 rfl) <| jo_l (ly_quo rfl rfl (by omega) (r := ((l.length / 2 : Nat) : Int)) (by rw [show ((l.length : Int).tdiv 2) = ((l.length / 2 : Nat) : Int) from rfl]; exact wrap_i64 (by omega) (by omega))) (hd 37 rfl) <| zas rfl (hd 10 rfl) <| jo_nil <| back _ _ _ _ rfl ?_
  have hd := hdM
  refine jcm_seq <| jcm_draw (n := 13) _ rfl mixed <| jam_l2 0 [7, 8, 9, 10, 11, 12] (lo_l (ly_ldqf one1144 rfl rfl) (hd 39 rfl)) rfl (by kernel_rfl) (by kernel_rfl) (by kernel_rfl) (by kernel_rfl) (fun _ _ _ h => h) <| jam_l2 1 [6, 7, 8, 9, 10, 11, 12] (lo_l (ly_mv rfl) (hd 40 rfl)) rfl (by kernel_rfl) (by kernel_rfl) (by kernel_rfl) (by kernel_rfl) (fun _ _ _ h => h) <| jam_l2 2 [3, 5, 6, 7, 8, 9, 10, 11, 12] (lo_l (ly_mv rfl) (hd 41 rfl)) rfl (by kernel_rfl) (by kernel_rfl) (by kernel_rfl) (by kernel_rfl) (fun _ _ _ h => h) <| jam_l2 3 [5, 6, 7, 8, 9, 10, 11, 12] (lo_l (ly_lenn sl1122 rfl) (hd 42 rfl)) rfl (by kernel_rfl) (by kernel_rfl) (by kernel_rfl) (by kernel_rfl) (fun _ _ _ h => h) <| jam_l2 4 [5, 6, 7, 8, 9, 10, 11, 12] (lo_l (ly_mv rfl) (hd 43 rfl)) rfl (by kernel_rfl) (by kernel_rfl) (by kernel_rfl) (by kernel_rfl) (fun _ _ _ h => h) <| jam_l2 5 [6, 7, 8, 9, 10, 11, 12] (lo_l (ly_sub rfl rfl (r := ((l.length - (l.length / 2) : Nat) : Int)) (by rw [wrap_i64 (by omega) (by omega)]; omega)) (hd 44 rfl)) rfl (by kernel_rfl) (by kernel_rfl) (by kernel_rfl) (by kernel_rfl) (fun _ _ _ h => h) <| jam_l2 6 [7, 8, 9, 10, 11, 12] (lo_l (ly_is (ly_sln sl1122 rfl bnd_none (bnd_some' rfl rfl) (.inl rfl) (by omega) (by omega)) (show V.n _ _ _ = V.n false .i64 (l.take (l.length - (l.length / 2))) by rw [List.drop_zero])) (hd 45 rfl)) rfl (by kernel_rfl) (by kernel_rfl) (by kernel_rfl) (by kernel_rfl) (fun _ _ _ h => h) ?_
  refine jam_1X Tryz.f126 7 hΓ (ih (l.take (l.length - (l.length / 2))) n hra (by omega) hfa hka (by omega) (by omega)) rfl (by kernel_rfl) rfl Tryz.func126 rfl rfl (ovL_cons rfl ovL_nil) (.cons .n (.cons .q (.cons .q (.cons .q .nil)))) (hd 46 rfl) ?_ (fun ch hp => by simp at hp)
  rintro _ ⟨⟩; refine jam_l2 8 [9, 10, 11, 12] (lo_l (ly_mv rfl) (hd 38 rfl)) rfl (by kernel_rfl) (by kernel_rfl) (by kernel_rfl) (by kernel_rfl) (fun _ _ _ h => h) <| jam_l2 9 [11, 12] (lo_l (ly_ext rfl rfl) (hd 47 rfl)) rfl (by kernel_rfl) (by kernel_rfl) (by kernel_rfl) (by kernel_rfl) (fun _ _ _ h => h) <| jam_l2 10 [12] (lo_l (ly_ext rfl rfl) (hd 48 rfl)) rfl (by kernel_rfl) (by kernel_rfl) (by kernel_rfl) (by kernel_rfl) (fun _ _ _ h => h) <| jam_l2 11 [12] (lo_l (ly_as rfl) (hd 11 rfl)) rfl (by kernel_rfl) (by kernel_rfl) (by kernel_rfl) (by kernel_rfl) (fun _ _ _ h => h) <| jam_l2 12 [] (lo_l (ly_as rfl) (hd 12 rfl)) rfl (by kernel_rfl) (by kernel_rfl) (by kernel_rfl) (by kernel_rfl) (fun _ _ _ h => h) <| jam_nil (by kernel_rfl) <| jcm_seq <| jcm_toP hΓ rfl ?_
  intro Γ1 hN1 hds1 hL hR back backE
  have hd : ∀ d, Nat.blt d 89 = true → d < Γ1.N := fun d h => by rw [hN1]; exact hdM d h
  refine jcp_seq <| jc_region <| zmv rfl (hd 49 rfl) <| jo_l (ly_ff (ly_ne rfl rfl) (by decide)) (hd 50 rfl) <| jo_nil <| back _ _ _ _ rfl ?_
  have hd := hdM
  refine jcm_litf rfl <| jcm_skip <| jcm_seq <| jcm_draw (n := 13) _ rfl mixed <| jam_l2 0 [7, 8, 9, 10, 11, 12] (lo_l (ly_ldqf one1144 rfl rfl) (hd 53 rfl)) rfl (by kernel_rfl) (by kernel_rfl) (by kernel_rfl) (by kernel_rfl) (fun _ _ _ h => h) <| jam_l2 1 [6, 7, 8, 9, 10, 11, 12] (lo_l (ly_mv rfl) (hd 54 rfl)) rfl (by kernel_rfl) (by kernel_rfl) (by kernel_rfl) (by kernel_rfl) (fun _ _ _ h => h) <| jam_l2 2 [3, 5, 6, 7, 8, 9, 10, 11, 12] (lo_l (ly_mv rfl) (hd 55 rfl)) rfl (by kernel_rfl) (by kernel_rfl) (by kernel_rfl) (by kernel_rfl) (fun _ _ _ h => h) <| jam_l2 3 [5, 6, 7, 8, 9, 10, 11, 12] (lo_l (ly_lenn sl1122 rfl) (hd 56 rfl)) rfl (by kernel_rfl) (by kernel_rfl) (by kernel_rfl) (by kernel_rfl) (fun _ _ _ h => h) <| jam_l2 4 [5, 6, 7, 8, 9, 10, 11, 12] (lo_l (ly_mv rfl) (hd 57 rfl)) rfl (by kernel_rfl) (by kernel_rfl) (by kernel_rfl) (by kernel_rfl) (fun _ _ _ h => h) <| jam_l2 5 [6, 7, 8, 9, 10, 11, 12] (lo_l (ly_sub rfl rfl (r := ((l.length - (l.length / 2) : Nat) : Int)) (by rw [wrap_i64 (by omega) (by omega)]; omega)) (hd 58 rfl)) rfl (by kernel_rfl) (by kernel_rfl) (by kernel_rfl) (by kernel_rfl) (fun _ _ _ h => h) <| jam_l2 6 [7, 8, 9, 10, 11, 12] (lo_l (ly_is (ly_sln sl1122 rfl (bnd_some' rfl rfl) bnd_none (.inl rfl) (by omega) (by omega)) (show V.n _ _ _ = V.n false .i64 (l.drop (l.length - (l.length / 2))) by rw [List.take_length])) (hd 59 rfl)) rfl (by kernel_rfl) (by kernel_rfl) (by kernel_rfl) (by kernel_rfl) (fun _ _ _ h => h) ?_
  refine jam_1X Tryz.f126 7 hΓ (ih (l.drop (l.length - (l.length / 2))) n hrb (by omega) hfb hkb (by omega) (by omega)) rfl (by kernel_rfl) rfl Tryz.func126 rfl rfl (ovL_cons rfl ovL_nil) (.cons .n (.cons .q (.cons .q (.cons .q .nil)))) (hd 60 rfl) ?_ (fun ch hp => by simp at hp)
  rintro _ ⟨⟩; refine jam_l2 8 [9, 10, 11, 12] (lo_l (ly_mv rfl) (hd 52 rfl)) rfl (by kernel_rfl) (by kernel_rfl) (by kernel_rfl) (by kernel_rfl) (fun _ _ _ h => h) <| jam_l2 9 [11, 12] (lo_l (ly_ext rfl rfl) (hd 61 rfl)) rfl (by kernel_rfl) (by kernel_rfl) (by kernel_rfl) (by kernel_rfl) (fun _ _ _ h => h) <| jam_l2 10 [12] (lo_l (ly_ext rfl rfl) (hd 62 rfl)) rfl (by kernel_rfl) (by kernel_rfl) (by kernel_rfl) (by kernel_rfl) (fun _ _ _ h => h) <| jam_l2 11 [12] (lo_l (ly_as rfl) (hd 13 rfl)) rfl (by kernel_rfl) (by kernel_rfl) (by kernel_rfl) (by kernel_rfl) (fun _ _ _ h => h) <| jam_l2 12 [] (lo_l (ly_as rfl) (hd 12 rfl)) rfl (by kernel_rfl) (by kernel_rfl) (by kernel_rfl) (by kernel_rfl) (fun _ _ _ h => h) <| jam_nil (by kernel_rfl) <| jcm_seq <| jcm_toP hΓ rfl ?_
  intro Γ1 hN1 hds1 hL hR back backE
  have hd : ∀ d, Nat.blt d 89 = true → d < Γ1.N := fun d h => by rw [hN1]; exact hdM d h
  refine jcp_seq <| jc_region <| zmv rfl (hd 63 rfl) <| jo_l (ly_ff (ly_ne rfl rfl) (by decide)) (hd 64 rfl) <| jo_nil <| back _ _ _ _ rfl ?_
  have hd := hdM
  refine jcm_litf rfl <| jcm_skip <| jcm_seq <| jcm_region <| jom_l (ly_ldqf one1142 rfl rfl) (hd 67 rfl) <| jom_l (ly_mv rfl) (hd 68 rfl) ?_
  refine jom_callX Tryz.f125 hΓ (power_x b (l.length / 2) g hlb hb2 (by omega)) rfl Tryz.func125 rfl rfl (ovL_cons rfl ovL_nil) (.cons .i (.cons .q (.cons .q .nil))) (hd 69 rfl) ?_ (fun ch hp => by simp at hp)
  rintro _ ⟨⟩; refine jom_l (ly_mv rfl) (hd 66 rfl) <| jom_l (ly_ext rfl rfl) (hd 70 rfl) <| jom_l (ly_ext rfl rfl) (hd 71 rfl) <| jom_l (ly_as rfl) (hd 14 rfl) <| jom_l (ly_as rfl) (hd 12 rfl) <| jom_nil <| jcm_seq <| jcm_toP hΓ rfl ?_
  intro Γ1 hN1 hds1 hL hR back backE
  have hd : ∀ d, Nat.blt d 89 = true → d < Γ1.N := fun d h => by rw [hN1]; exact hdM d h
  refine jcp_seq <| jc_region <| zmv rfl (hd 72 rfl) <| jo_l (ly_ff (ly_ne rfl rfl) (by decide)) (hd 73 rfl) <| jo_nil <| back _ _ _ _ rfl ?_
  have hd := hdM
  refine jcm_litf rfl <| jcm_skip <| jcm_toP hΓ rfl ?_
  intro Γ1 hN1 hds1 hL hR back backE
  have hd : ∀ d, Nat.blt d 89 = true → d < Γ1.N := fun d h => by rw [hN1]; exact hdM d h
  refine jcp_seq <| jc_region <| zmv rfl (hd 76 rfl) <| zmv rfl (hd 77 rfl) ?_
  refine jo_call Tryz.f41 (Mul_f (hv b (l.take (l.length - (l.length / 2)))) (PW b (l.length / 2)) hna hpn (by omega) (by omega) hfm) rfl Tryz.func41 rfl rfl (ovL_cons rfl (ovL_cons rfl ovL_nil)) (.cons .n (.cons .n .nil)) (hd 78 rfl) ?_ (fun ch hp => by simp at hp)
  rintro _ ⟨⟩; refine zmv rfl (hd 75 rfl) <| jo_l (ly_ext rfl rfl) (hd 79 rfl) <| jo_l (ly_ext rfl rfl) (hd 80 rfl) <| zas rfl (hd 15 rfl) <| zas rfl (hd 12 rfl) <| jo_nil <| back _ _ _ _ rfl ?_
  have hd := hdM
  refine jcm_seq <| jcm_toP hΓ rfl ?_
  intro Γ1 hN1 hds1 hL hR back backE
  have hd : ∀ d, Nat.blt d 89 = true → d < Γ1.N := fun d h => by rw [hN1]; exact hdM d h
  refine jcp_seq <| jc_region <| zmv rfl (hd 81 rfl) <| jo_l (ly_ff (ly_ne rfl rfl) (by decide)) (hd 82 rfl) <| jo_nil <| back _ _ _ _ rfl ?_
  have hd := hdM
  refine jcm_litf rfl <| jcm_skip <| jcm_toP hΓ rfl ?_
  intro Γ1 hN1 hds1 hL hR back backE
  have hd : ∀ d, Nat.blt d 89 = true → d < Γ1.N := fun d h => by rw [hN1]; exact hdM d h
  refine jcp_seq <| jc_region <| zmv rfl (hd 84 rfl) <| zmv rfl (hd 85 rfl) ?_
  refine jo_call Tryz.f83 (Add_f (hv b (l.take (l.length - (l.length / 2))) * PW b (l.length / 2)) (hv b (l.drop (l.length - (l.length / 2)))) (Int.mul_nonneg hna hpn) hnb hfm (by omega) (by rw [← hsp]; omega)) rfl Tryz.func83 rfl rfl (ovL_cons rfl (ovL_cons rfl ovL_nil)) (.cons .n (.cons .n .nil)) (hd 86 rfl) ?_ (fun ch hp => by simp at hp)
  rintro _ ⟨⟩; refine jo_l (ly_ext rfl rfl) (hd 87 rfl) <| jo_l (ly_ext rfl rfl) (hd 88 rfl) <| zas rfl (hd 5 rfl) <| zas rfl (hd 6 rfl) <| jo_nil <| back _ _ _ _ rfl ?_
  have hd := hdM
  refine jcm_ret fun a w s hg => ?_
  refine ⟨_, _, s, hg, (.cons rfl (.cons rfl .nil)), ?_⟩
  show Out.ret _ = Out.ret _; rw [hsp]; rfl

theorem part_x (b g : Nat) (hlb : 2 ≤ b) (hb2 : b ≤ 36) : ∀ (m : Nat) (l : List Int) (n : Nat) (hr : rng b l) (hl : l.length ≤ 1099511627776) (hv9 : lenV (hv b l) ≤ 67108864) (hk9 : lenV (PW b ((l.length + 1) / 2)) ≤ 67108864) (hn : l.length ≤ n) (hm : l.length < m), SpecX Tryz.prog 126 [.n false .i64 l, .q [.i .i64 (b : Int)], .q [cyc 126 [.q [.i .i64 (b : Int)]] [.q [.f 125 [.q [.c (.map (some g))], .q [.i .i64 (b : Int)]]]] n], .q [.f 125 [.q [.c (.map (some g))], .q [.i .i64 (b : Int)]]]] (cF b) g (fun o => o = .ret (.t [.n false .u64 (lm (hv b l)), .i .i64 0]))
  | 0, l, n, hr, hl, hv9, hk9, hn, hm => by omega
  | m + 1, l, n, hr, hl, hv9, hk9, hn, hm => by
    by_cases h : l.length ≤ 12
    · exact specX_of_spec (part_12 l b _ _ hlb hb2 hr h)
    · exact part_big b g hlb hb2 l n hr hl hv9 hk9 hn (by omega) fun l2 n2 h1 h2 h5 h6 h3 h4 => part_x b g hlb hb2 m l2 n2 h1 h2 h5 h6 h3 (by omega)

theorem build_s (l : List Int) (b : Nat) (hlb : 2 ≤ b) (hb2 : b ≤ 36) (hr : rng b l) (hl : l.length ≤ 1099511627776) (hv9 : lenV (hv b l) ≤ 67108864) : Spec Tryz.prog 103 [.n false .i64 l, .i .i64 (b : Int)] (fun o => o = .ret (.t [.n false .u64 (lm (hv b l)), .i .i64 0])) := by
  refine spec_of' [(0, .n false .i64 l), (1, .i .i64 (b : Int))] rfl Tryz.func103 rfl (zlb rfl) fun Γ hN hds hL hR => ?_
  have hd := hdOf 31 hN
  refine zsr <| jo_h (hy_box (id := 0) (n := 1) rfl rfl rfl (by decide) rfl) (hd 3 rfl) <| zas rfl (hd 4 rfl) <| zas rfl (hd 5 rfl) <| jo_nil ?_
  refine jc_meetH (G := Nat) (fun i => i ≤ l.length ∧ hv b (l.drop i) = hv b l ∧ ((l.drop i).length = 0 ∨ (l.drop i).getD 0 0 ≠ 0)) (fun i => [(0, .n false .i64 (l.drop i)), (9, .u), (10, .u), (11, .u), (12, .u), (13, .u), (14, .u), (15, .u), (16, .u), (17, .u), (18, .u), (19, .u)]) ?_ ?_
  · refine jc_block ?_
    refine jc_loopF (G := Nat) (fun i => i ≤ l.length ∧ hv b (l.drop i) = hv b l) (fun i => [(0, .n false .i64 (l.drop i)), (9, .u), (10, .u), (11, .u), (12, .u), (13, .u), (14, .u), (15, .u), (16, .u), (17, .u), (18, .u), (19, .u)]) (fun _ => _) (fun i => l.length - i) 0 ?_ ?_ rfl ?_
    · exact ⟨Nat.zero_le _, rfl⟩
    · exact (.cons rfl (.u (.u (.u (.u (.u (.u (.u (.u (.u (.u (.u .nil))))))))))))
    · rintro i ⟨hi, hvi⟩
      have hld : (l.drop i).length = l.length - i := List.length_drop ..
      refine jc_seq <| zsr <| zmv rfl (hd 9 rfl) <| jo_l (ly_lenn sl1122 rfl) (hd 10 rfl) <| jo_l (ly_gt rfl rfl) (hd 11 rfl) <| zmv rfl (hd 12 rfl) ?_
      refine jo_ifp 12 rfl (fun h1 => ?_) (fun h1 => ?_)
      · refine jo_g 12 rfl rfl (ly_mv rfl) (hd 13 rfl) <| jo_g 12 rfl rfl (ly_ian (i := 0) sl1122 rfl rfl rfl (by omega)) (hd 14 rfl) <| jo_g 12 rfl rfl (ly_ldq one3 rfl rfl) (hd 15 rfl) <| jo_g 12 rfl rfl (ly_eq rfl rfl) (hd 16 rfl) <| jo_l (ly_pick_t rfl rfl) (hd 17 rfl) <| jo_nil ?_
        refine jc_if rfl (fun h2 => ?_) (fun h2 => ?_)
        · refine jc_skip <| jc_block <| jc_region <| zmv rfl (hd 18 rfl) <| jo_l (ly_sln sl1122 rfl (bnd_some' rfl rfl) bnd_none (.inl rfl) (by show 1 ≤ _; omega) (by omega)) (hd 19 rfl) <| zas rfl (hd 0 rfl) <| jo_nil ?_
          refine ⟨i + 1, ?_, ?_, rfl, cov_n 25 rfl rfl ?_⟩
          · exact ⟨by omega, hv_dropI (by assumption) hvi⟩
          · omega
          · exact (.cons (by show some (V.n _ _ _) = some (V.n _ _ _); rw [List.take_length, List.drop_drop]) (.u (.u (.u (.u (.u (.u (.u (.u (.u (.u (.u .nil))))))))))))
        · refine jc_exit ?_
          refine ⟨i, ?_, rfl, cov_n 22 rfl rfl ?_⟩
          · exact ⟨hi, hvi, by first | (left; omega) | (right; assumption)⟩
          · exact (.cons rfl (.u (.u (.u (.u (.u (.u (.u (.u (.u (.u (.u .nil))))))))))))
      · refine jo_s 12 rfl rfl rfl (hd 13 rfl) <| jo_s 12 rfl rfl rfl (hd 14 rfl) <| jo_s 12 rfl rfl rfl (hd 15 rfl) <| jo_s 12 rfl rfl rfl (hd 16 rfl) <| jo_l (ly_pick_f rfl rfl) (hd 17 rfl) <| jo_nil <| jc_litf rfl <| jc_exit ?_
        refine ⟨i, ?_, rfl, cov_n 22 rfl rfl ?_⟩
        · exact ⟨hi, hvi, by first | (left; omega) | (right; assumption)⟩
        · exact (.cons rfl (.u (.u (.u (.u (.u (.u (.u (.u (.u (.u (.u .nil))))))))))))
  · rintro i ⟨hi, hvi, hdi⟩
    have hld : (l.drop i).length = l.length - i := List.length_drop ..
    have hv9i : lenV (hv b (l.drop i)) ≤ 67108864 := by rw [hvi]; exact hv9
    have hlli := lead_len hlb (rng_drop hr i) hv9i hdi
    have hk9 := lead_fit hlb hb2 (rng_drop hr i) hv9i hdi
    refine jc_seq <| zsr <| zmv rfl (hd 20 rfl) <| jo_l (ly_lenn sl1122 rfl) (hd 21 rfl) <| jo_l (ly_ff (ly_gt rfl rfl) (by omega)) (hd 22 rfl) <| jo_nil <| jc_litf rfl <| jc_skip <| jc_frzp 3 rfl rfl rfl rfl hL <| jc_keep (F' := [(0, _), (3, _)]) (.cons rfl (.cons rfl .nil)) ?_
    have hd0 := hd
    have hLo := hL
    have hRo := hR
    refine jc_enterM2 (cF b) (hd 23 rfl) rfl rfl hR ?_
    intro Γ' Γ1 g hN1 hds1 hL hR hN' hΓ hreb back
    have hdM : ∀ d, Nat.blt d 31 = true → d < Γ'.N := fun d h => by rw [hN']; exact hd0 d h
    have hd : ∀ d, Nat.blt d 31 = true → d < Γ1.N := fun d h => by rw [hN1]; exact hd0 d h
    refine jo_h (hy_alloc (id := 0) zero1141 (by decide) rfl (by decide) rfl) (hd 6 rfl) <| jo_st (sy_store rfl rfl rfl siz1141 rfl rfl (zlb rfl)) <| jo_nil <| jcp_seq <| jc_region <| jo_h (hy_alloc (id := 1) zero1142 (by decide) rfl (by decide) rfl) (hd 7 rfl) <| jo_nil <| jcp_frzp 6 rfl rfl rfl rfl hL <| jcp_seq <| jc_region <| jo_l (ly_mf (ovL_cons rfl (ovL_cons rfl ovL_nil))) (hd 24 rfl) <| jo_st (sy_store rfl rfl rfl siz1142 rfl rfl (zlb rfl)) <| jo_nil ?_; refine jcp_seq <| jc_region <| jo_h (hy_alloc (id := 2) zero1144 (by decide) rfl (by decide) rfl) (hd 8 rfl) <| jo_nil <| jcp_frzF 7 rfl rfl rfl hL <| jcp_seq <| jc_region <| jo_l (ly_mf (ovL_cons rfl (ovL_cons rfl (ovL_cons rfl ovL_nil)))) (hd 25 rfl) <| jo_st (sy_store rfl rfl rfl siz1144 rfl rfl (zlb rfl)) <| jo_nil <| jcp_cyc 8 [.q [.i .i64 (b : Int)]] [.q [.f 125 [.q [.c (.map (some g))], .q [.i .i64 (b : Int)]]]] (l.length + 1) rfl rfl rfl rfl hL <| jcp_keep (F' := [(0, _), (8, _)]) (.cons rfl (.cons rfl .nil)) <| back _ _ _ _ rfl ?_
    have hd := hdM
    refine jcm_seq <| jcm_region <| jom_l (ly_ldqf one1144 rfl rfl) (hd 26 rfl) <| jom_l (ly_mv rfl) (hd 27 rfl) ?_
    refine jom_callX Tryz.f126 hΓ (part_x b g hlb hb2 (l.length + 1) (l.drop i) l.length (rng_drop hr i) (by omega) hv9i hk9 (by omega) (by omega)) rfl Tryz.func126 rfl rfl (ovL_cons rfl ovL_nil) (.cons .n (.cons .q (.cons .q (.cons .q .nil)))) (hd 28 rfl) ?_ (fun ch hp => by simp at hp)
    rintro _ ⟨⟩; refine jom_l (ly_ext rfl rfl) (hd 29 rfl) <| jom_l (ly_ext rfl rfl) (hd 30 rfl) <| jom_l (ly_as rfl) (hd 4 rfl) <| jom_l (ly_as rfl) (hd 5 rfl) <| jom_nil ?_; refine jcm_ret fun a w s hg => ?_
    refine ⟨_, [], ?_, [], hreb _ _ _ s⟩
    refine ⟨_, _, (.cons rfl (.cons rfl .nil)), (.t1 .nn (.t1 .i .t0)), ?_⟩
    rw [hvi]

theorem Parse_t (l : List Int) (b : Nat) (hlb : 2 ≤ b) (hb2 : b ≤ 36) (hr : rng b l) (h0 : l ≠ []) (hl : l.length ≤ 1073741824) (hv9 : lenV (hv b l) ≤ 67108864) : Spec Tryz.prog 72 [.s (txt l), .i .i64 (b : Int)] (fun o => o = .ret (.t [.n false .u64 (lm (hv b l)), .i .i64 0])) := by
  have e : dgs (txt l) = l := dgs_txt (rng36 hb2 hr)
  have h1 := List.length_pos_iff.2 h0
  refine Parse_k (txt l) b _ 0 hlb hb2 (by rw [txt_size]; omega) (by rw [txt_size]; omega) (fun i hi => ?_) (by rw [e]; exact build_s l b hlb hb2 hr (by omega) hv9)
  have h := dgs_getD hi
  rw [e] at h
  rw [← h]
  exact (rng_getD (by omega) hr i).2


theorem Parse_d (l : List Int) (hr : rng 10 l) (h0 : l ≠ []) (hl : l.length ≤ 1073741824) (hv9 : lenV (hv 10 l) ≤ 67108864) : Spec Tryz.prog 72 [.s (txt l), .i .i64 10] (fun o => o = .ret (.t [.n false .u64 (lm (hv 10 l)), .i .i64 0])) := Parse_t l 10 (by decide) (by decide) hr h0 hl hv9













end Go.Proofs.YtpldmajdiljoaaaGreat.Vc
