/- The law NumeralOrders of every two numbers and any base, of bulk at most 1048576 in all: the texts stand as the numbers do. Texts joined: Qh, Qi, Qj, Qk, Ql, Qm, RNOrders. -/
import Derived.Test.YtcfdclehmpfkcaaK5
import Derived.Test.YtcfdclehmpfkcaaRows
import Derived.WalkKit
import Derived.ProofKit
import Derived.OpenShut
import Derived.Carry
import Derived.JoinedCond
set_option linter.unusedVariables false
set_option linter.unusedSimpArgs false
/- Contract of numeral.all. -/
namespace Go.Proofs.Ytcfdclehmpfkcaa.Vc
open Go Go.RowKit
set_option maxHeartbeats 4000000 in
theorem all_n (l : List Int) (b : Nat) (hl : l.length ≤ 1048576) (hu : u64s l) (hlb : 2 ≤ b) (hb2 : b ≤ 36) : SpecM Try.prog 70 [.n false .u64 l, .i .i64 (b : Int)] [] (fun o G => o = .ret (.o 0 0 0 (hdg b 1 (vl l).toNat).length) ∧ G = [⟨3, 1, 0, true, ints .i64 (hdg b 1 (vl l).toNat)⟩]) := by
  refine specS_of [(0, .n false .u64 l), (1, .i .i64 (b : Int))] rfl Try.func70 rfl (Nat.le_of_ble_eq_true rfl) fun Γ hN hds hL hR => ?_
  have hd : ∀ d, Nat.blt d 75 = true → d < Γ.N := fun d h => by rw [hN]; exact Nat.le_of_ble_eq_true h
  have hlenl := lenN_le l
  have hxv := nat_of hu
  have hv0 := vl_nonneg hu
  have hv : lenV (vl l) ≤ 67108864 := by have := lenV_64 (s := false) hu; have e : sv false l = vl l := rfl; rw [e] at this; omega
  have hxp := lenV_pow hv0 hv
  have hF : Spec Try.prog 113 [.i .u64 (b : Int)] (fun o => o = .ret (.n true .u64 (lm ((b ^ 2 ^ 0 : Nat) : Int)))) := by have h := From_s (b : Int); rwa [show (if (b : Int) = 0 then [] else [(b : Int)]) = lm ((b ^ 2 ^ 0 : Nat) : Int) from by rw [Nat.pow_zero, Nat.pow_one]; exact fl_lm (by omega) (by omega)] at h
  refine jc_seq ?_; refine jc_region ?_; refine jo_h (hy_box (id := 0) (n := 1) rfl rfl rfl (by decide) rfl) (hd 3 rfl) ?_; refine jo_l (ly_as rfl) (hd 4 rfl) ?_; refine jo_nil ?_; refine jc_seq ?_; refine jc_seq ?_; refine jc_region ?_; refine jo_l (ly_mv rfl) (hd 12 rfl) ?_
  refine jo_call Try.f33 (Length_s l (by omega) hu) rfl Try.func33 rfl rfl (ovL_cons rfl ovL_nil) (.cons .n .nil) (hd 13 rfl) ?_ (fun ch hp => by simp at hp)
  rintro y hy; injection hy with hy; subst hy; refine jo_l (ly_le rfl rfl) (hd 14 rfl) ?_; refine jo_l (ly_mv rfl) (hd 15 rfl) ?_
  refine jo_ifp 15 rfl (fun h1 => ?_) (fun h1 => ?_)
  · refine jo_s 15 rfl rfl rfl (hd 16 rfl) ?_; refine jo_s 15 rfl rfl rfl (hd 17 rfl) ?_; refine jo_s 15 rfl rfl rfl (hd 18 rfl) ?_; refine jo_l (ly_pick_t rfl rfl) (hd 19 rfl) ?_; refine jo_nil ?_; refine jc_litt rfl ?_; refine jc_seq ?_; refine jc_region ?_; refine jo_l (ly_mv rfl) (hd 20 rfl) ?_; refine jo_l (ly_ld one3 rfl rfl rfl) (hd 21 rfl) ?_
    refine jo_callN Try.f116 (digits_n l b 1 hl hu hlb hb2 (by decide)) (fun o G ⟨_, h⟩ => h ▸ idless_cons ints_id idless_nil) rfl Try.func116 rfl rfl (ovL_cons rfl (ovL_cons rfl (ovL_cons rfl ovL_nil))) (.cons .n (.cons .i (.cons .i .nil))) (hd 22 rfl) ?_ (fun ch G hp => by simp at hp)
    rintro y G ⟨hy, rfl⟩; injection hy with hy; subst hy
    show JO _ _ _ _ ((22, .o 1 0 0 (hdg b 1 (vl l).toNat).length) :: _) _ _
    refine jo_l (ly_as rfl) (hd 4 rfl) ?_; refine jo_nil ?_; refine jc_ret ?_
    refine ⟨[1], _, (.o 0 0 0 (hdg b 1 (vl l).toNat).length), (.cons rfl .nil), rfl, rfl, (by decide), (idless_cons ints_id idless_nil), ?_⟩
    exact ⟨rfl, rfl⟩
  · refine jo_g 15 rfl rfl (ly_mv rfl) (hd 16 rfl) ?_
    refine jo_callg Try.f33 15 rfl rfl (Length_s l (by omega) hu) rfl Try.func33 rfl rfl (ovL_cons rfl ovL_nil) (.cons .n .nil) (hd 17 rfl) ?_ (fun ch hp => by simp at hp)
    rintro y hy; injection hy with hy; subst hy; refine jo_g 15 rfl rfl (ly_ff (ly_gt rfl rfl) (by omega)) (hd 18 rfl) ?_; refine jo_l (ly_pick_f rfl rfl) (hd 19 rfl) ?_; refine jo_nil ?_; refine jc_litf rfl ?_; refine jc_skip ?_; refine jc_seq ?_; refine jc_region ?_; refine jo_l (ly_ld one3 rfl rfl rfl) (hd 23 rfl) ?_; refine jo_l (ly_conv und3 und82 rfl (r := (b : Int)) (wrap_u64 (by omega) (by omega))) (hd 24 rfl) ?_
    refine jo_call Try.f113 (hF) rfl Try.func113 rfl rfl (ovL_cons rfl ovL_nil) (.cons .i .nil) (hd 25 rfl) ?_ (fun ch hp => by simp at hp)
    rintro y hy; injection hy with hy; subst hy; refine jo_h (hy_lit (id := 1) (xs := [.tmp 25]) el1146 rfl (ovL_cons rfl ovL_nil) rfl (all2_of rfl) (by decide) rfl) (hd 26 rfl) ?_; refine jo_h (hy_alloc (id := 2) zero1146 (by decide) rfl (by decide) rfl) (hd 5 rfl) ?_; refine jo_st (sy_store rfl rfl rfl siz1146 rfl rfl (Nat.le_of_ble_eq_true rfl)) ?_; refine jo_nil ?_
    refine jc_meet (G := Nat) (fun k => k ≤ 26 ∧ lenV ((b ^ 2 ^ k : Nat) : Int) ≤ 67108864 ∧ (vl l).toNat < b ^ 2 ^ (k + 1)) (fun k => [(6, .u), (7, .u), (8, .u), (27, .u), (28, .u), (29, .u), (30, .u), (31, .u), (32, .u), (33, .u), (34, .u), (35, .u), (36, .u), (37, .u), (38, .u), (39, .u), (40, .u), (41, .u), (42, .u), (43, .u), (44, .u), (45, .u), (46, .u), (47, .u), (48, .u), (49, .u)]) (fun k => [⟨3, 1, 0, true, [.i .i64 (b : Int)]⟩, ⟨24, 1, k, true, (pwR b (k + 1)).flatten⟩, ⟨146, 1, 0, true, [.o 1 k 0 (k + 1)]⟩]) ?_ ?_
    · refine jc_block ?_; refine jc_H (H' := [⟨3, 1, 0, true, [.i .i64 (b : Int)]⟩, ⟨24, 1, 0, true, (pwR b (0 + 1)).flatten⟩, ⟨146, 1, 0, true, [.o 1 0 0 (0 + 1)]⟩]) (by rw [← pw_one]; rfl) ?_
      refine jc_loopD (G := Nat) 3 (fun k => k ≤ 26 ∧ lenV ((b ^ 2 ^ k : Nat) : Int) ≤ 67108864) (fun k => [(6, .u), (7, .u), (8, .u), (27, .u), (28, .u), (29, .u), (30, .u), (31, .u), (32, .u), (33, .u), (34, .u), (35, .u), (36, .u), (37, .u), (38, .u), (39, .u), (40, .u), (41, .u), (42, .u), (43, .u), (44, .u), (45, .u), (46, .u), (47, .u), (48, .u), (49, .u)]) (fun k => [⟨3, 1, 0, true, [.i .i64 (b : Int)]⟩, ⟨24, 1, k, true, (pwR b (k + 1)).flatten⟩, ⟨146, 1, 0, true, [.o 1 k 0 (k + 1)]⟩]) (fun k => 27 - k) 0 ?_ ?_ rfl hR rfl (fun _ _ => rfl) (fun k _ => .cons rfl (.cons pw_id (.cons rfl .nil))) ?_
      · exact ⟨by decide, Nat.le_trans (lenV_mono (w := 36) (by rw [Int.natAbs_natCast, Nat.pow_zero, Nat.pow_one]; omega)) (by decide)⟩
      · exact (.u (.u (.u (.u (.u (.u (.u (.u (.u (.u (.u (.u (.u (.u (.u (.u (.u (.u (.u (.u (.u (.u (.u (.u (.u (.u .nil))))))))))))))))))))))))))
      · rintro k ⟨hk26, hkl⟩
        have hkm := lenV_lm hkl
        refine jc_block ?_; refine jc_seq ?_; refine jc_region ?_; refine jo_l (ly_ld one1146 rfl rfl rfl) (hd 27 rfl) ?_; refine jo_l (ly_ld one1146 rfl rfl rfl) (hd 28 rfl) ?_; refine jo_l (ly_leno sl1146 rfl rfl) (hd 29 rfl) ?_; refine jo_l (ly_sub rfl rfl (wrap_i64 (by omega) (by omega))) (hd 30 rfl) ?_; refine jo_l (ly_ia (i := k) sl1146 rfl rfl rfl (by omega) (by omega) rfl) (hd 31 rfl) ?_; refine jo_l (ly_ld (y := pwV b k) one28 rfl rfl (by rw [Nat.zero_add, Nat.mul_one]; exact pw_fat (by omega))) (hd 32 rfl) ?_; refine jo_l (ly_as rfl) (hd 6 rfl) ?_; refine jo_nil ?_; refine jc_seq ?_; refine jc_region ?_; refine jo_l (ly_mv rfl) (hd 34 rfl) ?_
        refine jo_call Try.f117 (Square_l (lm ((b ^ 2 ^ k : Nat) : Int)) (by omega) (lm_u _)) rfl Try.func117 rfl rfl (ovL_cons rfl ovL_nil) (.cons .n .nil) (hd 35 rfl) ?_ (fun ch hp => by simp at hp)
        rintro y ⟨r2, e2, hy, he2⟩; injection hy with hy; subst hy
        rw [pw_sqI] at he2
        have hle2 := errL_len he2
        have hu2 := errL_u he2
        have hcv := cmpL_val hu2 hu
        refine jo_l (ly_mv rfl) (hd 33 rfl) ?_; refine jo_l (ly_ext rfl rfl) (hd 36 rfl) ?_; refine jo_l (ly_ext rfl rfl) (hd 37 rfl) ?_; refine jo_l (ly_as rfl) (hd 7 rfl) ?_; refine jo_l (ly_as rfl) (hd 8 rfl) ?_; refine jo_nil ?_; refine jc_seq ?_; refine jc_seq ?_; refine jc_region ?_; refine jo_l (ly_mv rfl) (hd 38 rfl) ?_; refine jo_l (ly_ne rfl rfl) (hd 39 rfl) ?_; refine jo_l (ly_mv rfl) (hd 40 rfl) ?_
        refine jo_ifp 40 rfl (fun h4 => ?_) (fun h4 => ?_)
        · refine jo_s 40 rfl rfl rfl (hd 41 rfl) ?_; refine jo_s 40 rfl rfl rfl (hd 42 rfl) ?_; refine jo_s 40 rfl rfl rfl (hd 43 rfl) ?_; refine jo_s 40 rfl rfl rfl (hd 44 rfl) ?_; refine jo_l (ly_pick_t rfl rfl) (hd 45 rfl) ?_; refine jo_nil ?_; refine jc_litt rfl ?_; refine jc_exit ?_
          refine ⟨k, ?_, rfl, cov_n 49 rfl rfl ?_⟩
          · exact ⟨hk26, hkl, pw_big hv hv0 (errL_ne he2 (by assumption))⟩
          · exact (.u (.u (.u (.u (.u (.u (.u (.u (.u (.u (.u (.u (.u (.u (.u (.u (.u (.u (.u (.u (.u (.u (.u (.u (.u (.u .nil))))))))))))))))))))))))))
        · obtain ⟨hr2, hle9⟩ := errL_eq he2 (Decidable.not_not.1 h4)
          have hvr : vl r2 = ((b ^ 2 ^ (k + 1) : Nat) : Int) := by rw [hr2, vl_lm (Int.natCast_nonneg _)]
          refine jo_g 40 rfl rfl (ly_mv rfl) (hd 41 rfl) ?_; refine jo_g 40 rfl rfl (ly_mv rfl) (hd 42 rfl) ?_
          refine jo_callg Try.f22 40 rfl rfl (Compare_s r2 l (by omega) (by omega)) rfl Try.func22 rfl rfl (ovL_cons rfl (ovL_cons rfl ovL_nil)) (.cons .n (.cons .n .nil)) (hd 43 rfl) ?_ (fun ch hp => by simp at hp)
          rintro y hy; injection hy with hy; subst hy; refine jo_g 40 rfl rfl (ly_gt rfl rfl) (hd 44 rfl) ?_; refine jo_l (ly_pick_f rfl rfl) (hd 45 rfl) ?_; refine jo_nil ?_
          refine jc_if rfl (fun h6 => ?_) (fun h6 => ?_)
          · refine jc_exit ?_
            refine ⟨k, ?_, rfl, cov_n 49 rfl rfl ?_⟩
            · exact ⟨hk26, hkl, by rcases hcv with ⟨c, v⟩ | ⟨c, v⟩ | ⟨c, v⟩ <;> omega⟩
            · exact (.u (.u (.u (.u (.u (.u (.u (.u (.u (.u (.u (.u (.u (.u (.u (.u (.u (.u (.u (.u (.u (.u (.u (.u (.u (.u .nil))))))))))))))))))))))))))
          · have hge : b ^ 2 ^ (k + 1) ≤ (vl l).toNat := by rcases hcv with ⟨c, v⟩ | ⟨c, v⟩ | ⟨c, v⟩ <;> omega
            have hkeep : k + 1 ≤ 26 ∧ lenV ((b ^ 2 ^ (k + 1) : Nat) : Int) ≤ 67108864 := ⟨pw_cap26 hlb hge hxp, hle9⟩
            refine jc_skip ?_; refine jc_region ?_; refine jo_l (ly_ld one1146 rfl rfl rfl) (hd 46 rfl) ?_; refine jo_l (ly_mv rfl) (hd 47 rfl) ?_; refine jo_h (hy_lit (id := 3) (xs := [.tmp 47]) el1146 rfl (ovL_cons rfl ovL_nil) rfl (all2_of rfl) (by decide) rfl) (hd 48 rfl) ?_; refine jo_app el1146 rfl rfl (by rw [pw_flen, Nat.mul_one]) rfl (src_o rfl rfl rfl) (by show (k + 1 + 1) * 24 ≤ _; omega) (by show k + 1 + 1 ≤ 9223372036854775807; omega) (hd 49 rfl) ?_; refine jo_st (sy_store rfl rfl rfl siz1146 rfl (by simp [cellsV, oneO]) (Nat.le_of_ble_eq_true rfl)) ?_; refine jo_nil ?_
            refine ⟨k + 1, ?_, ?_, (by show [_, (⟨24, 1, k + 1, true, (pwR b (k + 1)).flatten ++ [V.n true .u64 r2]⟩ : Ob), _] = [_, ⟨24, 1, k + 1, true, (pwR b (k + 1 + 1)).flatten⟩, _]; rw [hr2, ← pw_snoc (K := k + 1)]; rfl), cov_n 53 rfl rfl ?_⟩
            · exact hkeep
            · omega
            · exact (.u (.u (.u (.u (.u (.u (.u (.u (.u (.u (.u (.u (.u (.u (.u (.u (.u (.u (.u (.u (.u (.u (.u (.u (.u (.u .nil))))))))))))))))))))))))))
    · rintro k ⟨hk26, hkl, hx⟩
      have hK : ∀ j, j < k + 1 → lenV ((b ^ 2 ^ j : Nat) : Int) ≤ 67108864 := fun j hj => Nat.le_trans (pw_mono hlb (by omega)) hkl
      have hx0 : (vl l).toNat ≠ 0 := fun h0 => by have h1 := (lenN_zero hu).2 (by omega); omega
      have hdm := digs_len hlb _ _ hx
      have hlen : (hdg b (2 ^ (k + 1)) (vl l).toNat).length = 2 ^ (k + 1) := by rw [hdg_le]; omega
      have h27 : 2 ^ (k + 1) ≤ 2 ^ 27 := two_cap (by omega)
      refine jc_seq ?_; refine jc_region ?_; refine jo_h (hy_alloc (id := 3) zero1106 (by decide) rfl (by decide) rfl) (hd 9 rfl) ?_; refine jo_nil ?_; refine jc_seq ?_; refine jc_frzrc 0 (idB := 2) (id := 1) (pwR b (k + 1)) rfl rfl rfl rfl pw_length pw_sz pw_pure (by decide) hL ?_; refine jc_frzp 5 rfl rfl rfl rfl hL ?_; refine jc_frzp 3 rfl rfl rfl rfl hL ?_; refine jc_region ?_; refine jo_l (ly_mf (ovL_cons rfl (ovL_cons rfl (ovL_cons rfl ovL_nil)))) (hd 50 rfl) ?_; refine jo_st (sy_store rfl rfl rfl siz1106 rfl rfl (Nat.le_of_ble_eq_true rfl)) ?_; refine jo_nil ?_; refine jc_seq ?_; refine jc_cyc 9 [.q [.i .i64 (b : Int)], .q [.l true 1 (pwR b (k + 1))]] [] (k + 2) rfl rfl rfl rfl hL ?_; refine jc_region ?_; refine jo_l (ly_ldqf one1106 rfl rfl) (hd 51 rfl) ?_; refine jo_l (ly_mv rfl) (hd 52 rfl) ?_; refine jo_l (ly_ldq one1146 rfl rfl) (hd 53 rfl) ?_; refine jo_l (ly_is (ly_lenl sl1146 rfl) (show V.i .i64 _ = V.i .i64 ((k + 1 : Nat) : Int) by rw [pw_length])) (hd 54 rfl) ?_; refine jo_l (ly_sub rfl rfl (wrap_i64 (by omega) (by omega))) (hd 55 rfl) ?_
      refine jo_callNC Try.f118 (part_n b (k + 1) hlb hb2 hK (by omega) (k + 1) l (k + 1) hl hu hx (Nat.le_refl _) (Nat.le_refl _)) (fun o G ⟨_, h⟩ => h ▸ idless_cons ints_id idless_nil) rfl Try.func118 rfl rfl (ovL_cons rfl (ovL_cons rfl ovL_nil)) (.cons .n (.cons .i (.cons .q (.cons .q (.cons .q .nil))))) (hd 56 rfl) ?_ (fun ch G hp => by simp at hp)
      rintro y G ⟨hy, rfl⟩; injection hy with hy; subst hy
      show JO _ _ _ _ ((56, .o 4 0 0 (hdg b (2 ^ (k + 1)) (vl l).toNat).length) :: _) _ _
      refine jo_l (ly_as rfl) (hd 10 rfl) ?_; refine jo_nil ?_; refine jc_seq ?_; refine jc_region ?_; refine jo_l (ly_as rfl) (hd 11 rfl) ?_; refine jo_nil ?_
      refine jc_meetH (G := Nat) (fun i => i = (2 ^ (k + 1) - (digs b (vl l).toNat).length)) (fun i => [(11, .i .i64 (i : Int)), (57, .u), (58, .u), (59, .u), (60, .u), (61, .u), (62, .u), (63, .u), (64, .u), (65, .u), (66, .u), (67, .u), (68, .u), (69, .u), (70, .u)]) ?_ ?_
      · refine jc_block ?_
        refine jc_loopF (G := Nat) (fun i => i ≤ (2 ^ (k + 1) - (digs b (vl l).toNat).length)) (fun i => [(11, .i .i64 (i : Int)), (57, .u), (58, .u), (59, .u), (60, .u), (61, .u), (62, .u), (63, .u), (64, .u), (65, .u), (66, .u), (67, .u), (68, .u), (69, .u), (70, .u)]) (fun _ => _) (fun i => (2 ^ (k + 1) - (digs b (vl l).toNat).length) - i) 0 ?_ ?_ rfl ?_
        · exact Nat.zero_le _
        · exact (.cons rfl (.u (.u (.u (.u (.u (.u (.u (.u (.u (.u (.u (.u (.u (.u .nil)))))))))))))))
        · rintro i hiz; refine jc_seq ?_; refine jc_seq ?_; refine jc_region ?_; refine jo_l (ly_mv rfl) (hd 57 rfl) ?_; refine jo_l (ly_mv rfl) (hd 58 rfl) ?_; refine jo_l (ly_leno sl1039 rfl rfl) (hd 59 rfl) ?_; refine jo_l (ly_sub rfl rfl (wrap_i64 (by omega) (by omega))) (hd 60 rfl) ?_; refine jo_l (ly_lt rfl rfl) (hd 61 rfl) ?_; refine jo_l (ly_mv rfl) (hd 62 rfl) ?_
          refine jo_ifp 62 rfl (fun h7 => ?_) (fun h7 => ?_)
          · refine jo_g 62 rfl rfl (ly_mv rfl) (hd 63 rfl) ?_; refine jo_g 62 rfl rfl (ly_mv rfl) (hd 64 rfl) ?_; refine jo_g 62 rfl rfl (ly_ia (i := i) sl1039 rfl rfl rfl (by first | rfl | omega) (by omega) rfl) (hd 65 rfl) ?_; refine jo_g 62 rfl rfl (ly_is (ly_ldi one3 rfl rfl (by first | omega | (dsimp only; omega))) (show V.i .i64 _ = V.i .i64 ((hdg b (2 ^ (k + 1)) (vl l).toNat).getD i 0) by rw [Nat.zero_add, Nat.mul_one])) (hd 66 rfl) ?_; refine jo_g 62 rfl rfl (ly_eq rfl rfl) (hd 67 rfl) ?_; refine jo_l (ly_pick_t rfl rfl) (hd 68 rfl) ?_; refine jo_nil ?_
            refine jc_if rfl (fun h8 => ?_) (fun h8 => ?_)
            · have hz0 := h8
              refine jc_skip ?_; refine jc_block ?_; refine jc_region ?_; refine jo_l (ly_mv rfl) (hd 69 rfl) ?_; refine jo_l (ly_add rfl rfl (r := ((i + 1 : Nat) : Int)) (by rw [wrap_i64 (by omega) (by omega)]; omega)) (hd 70 rfl) ?_; refine jo_l (ly_as rfl) (hd 11 rfl) ?_; refine jo_nil ?_
              refine ⟨i + 1, ?_, ?_, rfl, cov_n 31 rfl rfl ?_⟩
              · exact cut_next hlb hx0 hdm hiz hz0
              · have := cut_next hlb hx0 hdm hiz hz0
                omega
              · exact (.cons rfl (.u (.u (.u (.u (.u (.u (.u (.u (.u (.u (.u (.u (.u (.u .nil)))))))))))))))
            · refine jc_exit ?_
              refine ⟨i, ?_, rfl, cov_n 28 rfl rfl ?_⟩
              · exact cut_at hlb hx0 hdm hiz (by first | (left; omega) | (right; assumption))
              · exact (.cons rfl (.u (.u (.u (.u (.u (.u (.u (.u (.u (.u (.u (.u (.u (.u .nil)))))))))))))))
          · refine jo_s 62 rfl rfl rfl (hd 63 rfl) ?_; refine jo_s 62 rfl rfl rfl (hd 64 rfl) ?_; refine jo_s 62 rfl rfl rfl (hd 65 rfl) ?_; refine jo_s 62 rfl rfl rfl (hd 66 rfl) ?_; refine jo_s 62 rfl rfl rfl (hd 67 rfl) ?_; refine jo_l (ly_pick_f rfl rfl) (hd 68 rfl) ?_; refine jo_nil ?_; refine jc_litf rfl ?_; refine jc_exit ?_
            refine ⟨i, ?_, rfl, cov_n 28 rfl rfl ?_⟩
            · exact cut_at hlb hx0 hdm hiz (by first | (left; omega) | (right; assumption))
            · exact (.cons rfl (.u (.u (.u (.u (.u (.u (.u (.u (.u (.u (.u (.u (.u (.u .nil)))))))))))))))
      · rintro i hiz
        have hdr := cut_drop (m := 2 ^ (k + 1)) hlb hx0
        have hR1l : (hdg b 1 (vl l).toNat).length = (hdg b (2 ^ (k + 1)) (vl l).toNat).length - i := by rw [← hdr, List.length_drop, hiz]
        refine jc_seq ?_; refine jc_region ?_; refine jo_l (ly_mv rfl) (hd 71 rfl) ?_; refine jo_l (ly_mv rfl) (hd 72 rfl) ?_; refine jo_l (ly_slo (l := i) (h := (hdg b (2 ^ (k + 1)) (vl l).toNat).length) (r := i) (n := (hdg b (2 ^ (k + 1)) (vl l).toNat).length - i) sl1039 rfl rfl (bnd_some' rfl rfl) bnd_none (by omega) (Nat.le_refl _) (by omega) rfl) (hd 73 rfl) ?_; refine jo_h (hy_app0 (id := 5) el1039 rfl rfl (src_oo rfl (by omega)) (by omega) (by show _ ≤ 9223372036854775807; omega) rfl) (hd 74 rfl) ?_; refine jo_l (ly_as rfl) (hd 4 rfl) ?_; refine jo_nil ?_; refine jc_ret ?_
        refine ⟨[5], _, (.o 0 0 0 ((hdg b (2 ^ (k + 1)) (vl l).toNat).length - i)), (.cons rfl .nil), rfl, rfl, (by decide), (idless_cons ints_id idless_nil), ?_⟩
        exact ⟨by rw [hR1l], by show [(⟨3, 1, 0, true, ints .i64 (((hdg b (2 ^ (k + 1)) (vl l).toNat).drop i).take ((hdg b (2 ^ (k + 1)) (vl l).toNat).length - i))⟩ : Ob)] = [⟨3, 1, 0, true, ints .i64 (hdg b 1 (vl l).toNat)⟩]; rw [List.take_of_length_le (by rw [List.length_drop]; exact Nat.le_refl _), hiz, hdr]⟩
end Go.Proofs.Ytcfdclehmpfkcaa.Vc

/- Contracts of numeral.text, good, Print. -/
namespace Go.Proofs.Ytcfdclehmpfkcaa.Vc
open Go Go.RowKit
set_option maxHeartbeats 4000000 in
theorem text_s (l : List Int) (hl : l.length < 1099511627776) (hr : rng 36 l) : Spec Try.prog 69 [.n false .i64 l] (fun o => o = .ret (.n true .u8 (bytesI (txt l)))) := by
  refine spec_of' [(0, .n false .i64 l)] rfl Try.func69 rfl (Nat.le_of_ble_eq_true rfl) fun Γ hN hds hL hR => ?_
  have hd : ∀ d, Nat.blt d 23 = true → d < Γ.N := fun d h => by rw [hN]; exact Nat.le_of_ble_eq_true h
  refine jc_seq ?_; refine jc_region ?_; refine jo_l (ly_as rfl) (hd 2 rfl) ?_; refine jo_nil ?_; refine jc_seq ?_; refine jc_region ?_; refine jo_l (ly_mv rfl) (hd 6 rfl) ?_; refine jo_l (ly_lenn sl1039 rfl) (hd 7 rfl) ?_; refine jo_h (hy_mk (m := l.length) el1104 rfl rfl rfl (by show 1 * l.length ≤ _; omega) (by unfold maxLen; omega) rfl) (hd 8 rfl) ?_; refine jo_l (ly_as rfl) (hd 3 rfl) ?_; refine jo_nil ?_; refine jc_seq ?_; refine jc_seq ?_; refine jc_H (H' := [⟨5, 1, 0, true, ints .u8 (cpI (l.map ltr) 0)⟩]) (by rw [← cpI_0, List.length_map]; rfl) ?_; refine jc_region ?_; refine jo_l (ly_mv rfl) (hd 9 rfl) ?_; refine jo_l (ly_lenn sl1039 rfl) (hd 10 rfl) ?_; refine jo_l (ly_mv rfl) (hd 11 rfl) ?_; refine jo_nil ?_; refine jc_block ?_
  refine jc_loopF (G := Nat) (fun i => i ≤ l.length) (fun i => [(11, .i .i64 (i : Int)), (4, .u), (5, .u), (12, .u), (13, .u), (14, .u), (15, .u), (16, .u), (17, .u), (18, .u), (19, .u), (20, .u), (21, .u)]) (fun i => [⟨5, 1, 0, true, ints .u8 (cpI (l.map ltr) i)⟩]) (fun i => l.length - i) 0 ?_ ?_ rfl ?_
  · exact Nat.zero_le _
  · exact (.cons rfl (.u (.u (.u (.u (.u (.u (.u (.u (.u (.u (.u (.u .nil)))))))))))))
  · rintro i hi
    have hcl := cpI_len (l := l.map ltr) (i := i) (by rw [List.length_map]; exact hi)
    rw [List.length_map] at hcl
    have hx := rng_getD (by decide) hr i
    refine jc_seq ?_; refine jc_region ?_; refine jo_l (ly_lt rfl rfl) (hd 12 rfl) ?_; refine jo_nil ?_; refine jc_seq ?_
    refine jc_if rfl (fun h1 => ?_) (fun h1 => ?_)
    · refine jc_skip ?_; refine jc_seq ?_; refine jc_block ?_; refine jc_seq ?_; refine jc_region ?_; refine jo_l (ly_mv rfl) (hd 13 rfl) ?_; refine jo_l (ly_ian (i := i) sl1039 rfl rfl (by first | rfl | omega) (by omega)) (hd 14 rfl) ?_; refine jo_l (ly_ldq one3 rfl rfl) (hd 15 rfl) ?_; refine jo_l (ly_as rfl) (hd 4 rfl) ?_; refine jo_l (ly_as rfl) (hd 5 rfl) ?_; refine jo_nil ?_; refine jc_region ?_; refine jo_l (ly_mv rfl) (hd 16 rfl) ?_; refine jo_l (ly_mv rfl) (hd 17 rfl) ?_; refine jo_l (ly_mv rfl) (hd 18 rfl) ?_; refine jo_l (ly_ixs (b := ltrTab) (i := (l.getD i 0).toNat) und9 (by kernel_rfl) rfl (by omega) (by show _ < 36; omega)) (hd 19 rfl) ?_; refine jo_l (ly_ia (i := i) sl1104 rfl rfl rfl (by first | rfl | omega) (by omega) rfl) (hd 20 rfl) ?_; refine jo_st (sy_storei rfl rfl rfl one5 (by first | omega | (dsimp only; omega))) ?_; refine jo_nil ?_; refine jc_region ?_; refine jo_l (ly_add rfl rfl (r := ((i + 1 : Nat) : Int)) (by rw [wrap_i64 (by omega) (by omega)]; omega)) (hd 21 rfl) ?_; refine jo_l (ly_mv rfl) (hd 11 rfl) ?_; refine jo_nil ?_
      refine ⟨i + 1, ?_, ?_, (by show [(⟨5, 1, 0, true, ints .u8 _⟩ : Ob)] = [⟨5, 1, 0, true, ints .u8 _⟩]; rw [← cpI_set (by rw [List.length_map]; omega), txt_getD (by omega)]; rfl), cov_n 26 rfl rfl ?_⟩
      · omega
      · omega
      · exact (.cons rfl (.u (.u (.u (.u (.u (.u (.u (.u (.u (.u (.u (.u .nil)))))))))))))
    · refine jc_exit ?_; refine jc_seq ?_
      obtain rfl : i = l.length := by omega
      refine jc_frz (k := .u8) (l := cpI (l.map ltr) l.length) (l' := bytesI (txt l)) 3 rfl rfl (by rw [hcl]; omega) (by rw [txt_I, List.drop_zero, List.take_of_length_le (by omega)]; have h := cpI_all (l.map ltr); rwa [List.length_map] at h) hL ?_; refine jc_region ?_; refine jo_l (ly_mv rfl) (hd 22 rfl) ?_; refine jo_l (ly_as rfl) (hd 2 rfl) ?_; refine jo_nil ?_; refine jc_ret ?_
      refine ⟨_, _, (.cons rfl .nil), .n, ?_⟩
      rfl

set_option maxHeartbeats 4000000 in
theorem good_y (b : Nat) (hb : 2 ≤ b) (hb2 : b ≤ 36) : Spec Try.prog 66 [.i .i64 (b : Int)] (fun o => o = .ret (.b true)) := by
  refine spec_of' [(0, .i .i64 (b : Int))] rfl Try.func66 rfl (Nat.le_of_ble_eq_true rfl) fun Γ hN hds hL hR => ?_
  have hd : ∀ d, Nat.blt d 9 = true → d < Γ.N := fun d h => by rw [hN]; exact Nat.le_of_ble_eq_true h
  refine jc_seq ?_; refine jc_region ?_; refine jo_l (ly_as rfl) (hd 2 rfl) ?_; refine jo_nil ?_; refine jc_seq ?_; refine jc_region ?_; refine jo_l (ly_mv rfl) (hd 3 rfl) ?_; refine jo_l (ly_tt (ly_ge rfl rfl) (by omega)) (hd 4 rfl) ?_; refine jo_l (ly_mv rfl) (hd 5 rfl) ?_; refine jo_g 5 rfl rfl (ly_mv rfl) (hd 6 rfl) ?_; refine jo_g 5 rfl rfl (ly_tt (ly_le rfl rfl) (by omega)) (hd 7 rfl) ?_; refine jo_l (ly_pick_t rfl rfl) (hd 8 rfl) ?_; refine jo_l (ly_as rfl) (hd 2 rfl) ?_; refine jo_nil ?_; refine jc_ret ?_
  refine ⟨_, _, (.cons rfl .nil), .b, ?_⟩
  exact rfl

set_option maxHeartbeats 4000000 in
theorem Print_s (l : List Int) (b : Nat) (hl : l.length ≤ 1048576) (hu : u64s l) (hlb : 2 ≤ b) (hb2 : b ≤ 36) : Spec Try.prog 21 [.n false .u64 l, .i .i64 (b : Int)] (fun o => o = .ret (.t [.s (txt (hdg b 1 (vl l).toNat)), .i .i64 0])) := by
  refine spec_of' [(0, .n false .u64 l), (1, .i .i64 (b : Int))] rfl Try.func21 rfl (Nat.le_of_ble_eq_true rfl) fun Γ hN hds hL hR => ?_
  have hd : ∀ d, Nat.blt d 14 = true → d < Γ.N := fun d h => by rw [hN]; exact Nat.le_of_ble_eq_true h
  have hRl : (hdg b 1 (vl l).toNat).length ≤ 67108864 := by rw [hdg_le]; have h1 := digs_le_len hu hlb; omega
  refine jc_seq ?_; refine jc_region ?_; refine jo_l (ly_as rfl) (hd 4 rfl) ?_; refine jo_l (ly_as rfl) (hd 5 rfl) ?_; refine jo_nil ?_; refine jc_seq ?_; refine jc_seq ?_; refine jc_region ?_; refine jo_l (ly_mv rfl) (hd 6 rfl) ?_
  refine jo_call Try.f66 (good_y b hlb hb2) rfl Try.func66 rfl rfl (ovL_cons rfl ovL_nil) (.cons .i .nil) (hd 7 rfl) ?_ (fun ch hp => by simp at hp)
  rintro y hy; injection hy with hy; subst hy; refine jo_l (ly_not rfl) (hd 8 rfl) ?_; refine jo_nil ?_; refine jc_litf rfl ?_; refine jc_skip ?_; refine jc_seq ?_; refine jc_region ?_; refine jo_l (ly_mv rfl) (hd 9 rfl) ?_; refine jo_l (ly_mv rfl) (hd 10 rfl) ?_
  refine jo_callN Try.f70 (all_n l b hl hu hlb hb2) (fun o G ⟨_, h⟩ => h ▸ idless_cons ints_id idless_nil) rfl Try.func70 rfl rfl (ovL_cons rfl (ovL_cons rfl ovL_nil)) (.cons .n (.cons .i .nil)) (hd 11 rfl) ?_ (fun ch G hp => by simp at hp)
  rintro y G ⟨hy, rfl⟩; injection hy with hy; subst hy
  show JO _ _ _ _ ((11, .o 0 0 0 (hdg b 1 (vl l).toNat).length) :: _) _ _
  refine jo_frz (k := .i64) (l := (hdg b 1 (vl l).toNat)) (l' := (hdg b 1 (vl l).toNat)) 11 rfl rfl (by omega) (by rw [List.drop_zero, List.take_length]) hL ?_
  refine jo_call Try.f69 (text_s (hdg b 1 (vl l).toNat) (by omega) (rng36 hb2 (hdg_rng hlb _ _))) rfl Try.func69 rfl rfl (ovL_cons rfl ovL_nil) (.cons .n .nil) (hd 12 rfl) ?_ (fun ch hp => by simp at hp)
  rintro y hy; injection hy with hy; subst hy; refine jo_l (ly_b2s undS1104 und5 und9 rfl) (hd 13 rfl) ?_; refine jo_l (ly_as rfl) (hd 4 rfl) ?_; refine jo_l (ly_as rfl) (hd 5 rfl) ?_; refine jo_nil ?_; refine jc_ret ?_
  refine ⟨_, _, (.cons rfl (.cons rfl .nil)), (.t1 .s (.t1 .i .t0)), ?_⟩
  exact rfl

end Go.Proofs.Ytcfdclehmpfkcaa.Vc

/- Contract of numeral.build of at most 12 digits. -/
namespace Go.Proofs.Ytcfdclehmpfkcaa.Vc
open Go Go.RowKit
set_option maxHeartbeats 4000000 in
theorem part_12 (l : List Int) (b : Nat) (ys zs : List V) (hlb : 2 ≤ b) (hb2 : b ≤ 36) (hr : rng b l) (hl : l.length ≤ 12) : Spec Try.prog 114 [.n false .i64 l, .q [.i .i64 (b : Int)], .q ys, .q zs] (fun o => o = .ret (.t [.n false .u64 (lm (hv b l)), .i .i64 0])) := by
  refine spec_of' [(0, .n false .i64 l), (1, .q [.i .i64 (b : Int)]), (2, .q ys), (3, .q zs)] rfl Try.func114 rfl (Nat.le_of_ble_eq_true rfl) fun Γ hN hds hL hR => ?_
  have hd : ∀ d, Nat.blt d 89 = true → d < Γ.N := fun d h => by rw [hN]; exact Nat.le_of_ble_eq_true h
  refine jc_seq ?_; refine jc_region ?_; refine jo_l (ly_as rfl) (hd 5 rfl) ?_; refine jo_l (ly_as rfl) (hd 6 rfl) ?_; refine jo_nil ?_; refine jc_seq ?_; refine jc_seq ?_; refine jc_region ?_; refine jo_l (ly_mv rfl) (hd 16 rfl) ?_; refine jo_l (ly_lenn sl1039 rfl) (hd 17 rfl) ?_; refine jo_l (ly_tt (ly_le rfl rfl) (by omega)) (hd 18 rfl) ?_; refine jo_nil ?_; refine jc_litt rfl ?_; refine jc_seq ?_; refine jc_region ?_; refine jo_l (ly_as rfl) (hd 7 rfl) ?_; refine jo_nil ?_; refine jc_seq ?_; refine jc_seq ?_; refine jc_region ?_; refine jo_l (ly_mv rfl) (hd 19 rfl) ?_; refine jo_l (ly_lenn sl1039 rfl) (hd 20 rfl) ?_; refine jo_l (ly_mv rfl) (hd 21 rfl) ?_; refine jo_nil ?_; refine jc_block ?_
  refine jc_loopF (G := Nat) (fun i => i ≤ l.length) (fun i => [(7, .i .u64 (hv b (l.take i))), (21, .i .i64 (i : Int)), (9, .u), (22, .u), (23, .u), (24, .u), (25, .u), (26, .u), (27, .u), (28, .u), (29, .u), (30, .u), (31, .u), (32, .u)]) (fun _ => _) (fun i => l.length - i) 0 ?_ ?_ rfl ?_
  · exact Nat.zero_le _
  · exact (.cons rfl (.cons rfl (.u (.u (.u (.u (.u (.u (.u (.u (.u (.u (.u (.u .nil))))))))))))))
  · rintro i hi
    have hrt := rng_take hr i
    have hn0 := hv_nonneg hrt
    have hn1 := hv_12 hb2 hlb hrt (by rw [List.length_take]; omega)
    have hx := rng_getD (by omega) hr i
    refine jc_seq ?_; refine jc_region ?_; refine jo_l (ly_lt rfl rfl) (hd 22 rfl) ?_; refine jo_nil ?_; refine jc_seq ?_
    refine jc_if rfl (fun h2 => ?_) (fun h2 => ?_)
    · have hrm := rng_take hr (i + 1)
      have hm0 := hv_nonneg hrm
      have hm1 := hv_12 hb2 hlb hrm (by rw [List.length_take]; omega)
      have hst := hv_step (b := b) (l := l) (i := i) (by omega)
      refine jc_skip ?_; refine jc_seq ?_; refine jc_block ?_; refine jc_seq ?_; refine jc_region ?_; refine jo_l (ly_ian (i := i) sl1039 rfl rfl (by first | rfl | omega) (by omega)) (hd 23 rfl) ?_; refine jo_l (ly_ldq one3 rfl rfl) (hd 24 rfl) ?_; refine jo_l (ly_as rfl) (hd 9 rfl) ?_; refine jo_nil ?_; refine jc_region ?_; refine jo_l (ly_mv rfl) (hd 25 rfl) ?_; refine jo_l (ly_ldq one3 rfl rfl) (hd 26 rfl) ?_; refine jo_l (ly_conv und3 und82 rfl (r := (b : Int)) (wrap_u64 (by omega) (by omega))) (hd 27 rfl) ?_; refine jo_l (ly_mul rfl rfl (r := (hv b (l.take i)) * b) (wrap_u64 (Int.mul_nonneg hn0 (by omega)) (by omega))) (hd 28 rfl) ?_; refine jo_l (ly_mv rfl) (hd 29 rfl) ?_; refine jo_l (ly_conv und3 und82 rfl (r := l.getD i 0) (wrap_u64 hx.1 (by omega))) (hd 30 rfl) ?_; refine jo_l (ly_add rfl rfl (r := hv b (l.take (i + 1))) (by rw [← hv_step (by omega)]; exact wrap_u64 hm0 (by omega))) (hd 31 rfl) ?_; refine jo_l (ly_as rfl) (hd 7 rfl) ?_; refine jo_nil ?_; refine jc_region ?_; refine jo_l (ly_add rfl rfl (r := ((i + 1 : Nat) : Int)) (by rw [wrap_i64 (by omega) (by omega)]; omega)) (hd 32 rfl) ?_; refine jo_l (ly_mv rfl) (hd 21 rfl) ?_; refine jo_nil ?_
      refine ⟨i + 1, ?_, ?_, rfl, cov_n 28 rfl rfl ?_⟩
      · omega
      · omega
      · exact (.cons rfl (.cons rfl (.u (.u (.u (.u (.u (.u (.u (.u (.u (.u (.u (.u .nil))))))))))))))
    · obtain rfl : i = l.length := by omega
      refine jc_exit ?_; refine jc_seq ?_; refine jc_region ?_; refine jo_l (ly_mv rfl) (hd 33 rfl) ?_
      refine jo_call Try.f113 (From_s (hv b (l.take l.length))) rfl Try.func113 rfl rfl (ovL_cons rfl ovL_nil) (.cons .i .nil) (hd 34 rfl) ?_ (fun ch hp => by simp at hp)
      rintro y hy; injection hy with hy; subst hy; refine jo_l (ly_as rfl) (hd 5 rfl) ?_; refine jo_l (ly_as rfl) (hd 6 rfl) ?_; refine jo_nil ?_; refine jc_ret ?_
      refine ⟨_, _, (.cons rfl (.cons rfl .nil)), (.t1 .nn (.t1 .i .t0)), ?_⟩
      rw [fl_lm hn0 (by omega), List.take_length]

set_option maxHeartbeats 4000000 in
theorem build_12 (l : List Int) (b : Nat) (hlb : 2 ≤ b) (hb2 : b ≤ 36) (hr : rng b l) (hl : l.length ≤ 12) : Spec Try.prog 67 [.n false .i64 l, .i .i64 (b : Int)] (fun o => o = .ret (.t [.n false .u64 (lm (hv b l)), .i .i64 0])) := by
  refine spec_of' [(0, .n false .i64 l), (1, .i .i64 (b : Int))] rfl Try.func67 rfl (Nat.le_of_ble_eq_true rfl) fun Γ hN hds hL hR => ?_
  have hd : ∀ d, Nat.blt d 31 = true → d < Γ.N := fun d h => by rw [hN]; exact Nat.le_of_ble_eq_true h
  refine jc_seq ?_; refine jc_region ?_; refine jo_h (hy_box (id := 0) (n := 1) rfl rfl rfl (by decide) rfl) (hd 3 rfl) ?_; refine jo_l (ly_as rfl) (hd 4 rfl) ?_; refine jo_l (ly_as rfl) (hd 5 rfl) ?_; refine jo_nil ?_
  refine jc_meetH (G := Nat) (fun i => i ≤ l.length ∧ hv b (l.drop i) = hv b l) (fun i => [(0, .n false .i64 (l.drop i)), (9, .u), (10, .u), (11, .u), (12, .u), (13, .u), (14, .u), (15, .u), (16, .u), (17, .u), (18, .u), (19, .u)]) ?_ ?_
  · refine jc_block ?_
    refine jc_loopF (G := Nat) (fun i => i ≤ l.length ∧ hv b (l.drop i) = hv b l) (fun i => [(0, .n false .i64 (l.drop i)), (9, .u), (10, .u), (11, .u), (12, .u), (13, .u), (14, .u), (15, .u), (16, .u), (17, .u), (18, .u), (19, .u)]) (fun _ => _) (fun i => l.length - i) 0 ?_ ?_ rfl ?_
    · exact ⟨Nat.zero_le _, rfl⟩
    · exact (.cons rfl (.u (.u (.u (.u (.u (.u (.u (.u (.u (.u (.u .nil))))))))))))
    · rintro i ⟨hi, hvi⟩
      have hld : (l.drop i).length = l.length - i := List.length_drop ..
      refine jc_seq ?_; refine jc_seq ?_; refine jc_region ?_; refine jo_l (ly_mv rfl) (hd 9 rfl) ?_; refine jo_l (ly_lenn sl1039 rfl) (hd 10 rfl) ?_; refine jo_l (ly_gt rfl rfl) (hd 11 rfl) ?_; refine jo_l (ly_mv rfl) (hd 12 rfl) ?_
      refine jo_ifp 12 rfl (fun h1 => ?_) (fun h1 => ?_)
      · refine jo_g 12 rfl rfl (ly_mv rfl) (hd 13 rfl) ?_; refine jo_g 12 rfl rfl (ly_ian (i := 0) sl1039 rfl rfl rfl (by omega)) (hd 14 rfl) ?_; refine jo_g 12 rfl rfl (ly_ldq one3 rfl rfl) (hd 15 rfl) ?_; refine jo_g 12 rfl rfl (ly_eq rfl rfl) (hd 16 rfl) ?_; refine jo_l (ly_pick_t rfl rfl) (hd 17 rfl) ?_; refine jo_nil ?_
        refine jc_if rfl (fun h2 => ?_) (fun h2 => ?_)
        · refine jc_skip ?_; refine jc_block ?_; refine jc_region ?_; refine jo_l (ly_mv rfl) (hd 18 rfl) ?_; refine jo_l (ly_sln sl1039 rfl (bnd_some' rfl rfl) bnd_none (.inl rfl) (by show 1 ≤ _; omega) (by omega)) (hd 19 rfl) ?_; refine jo_l (ly_as rfl) (hd 0 rfl) ?_; refine jo_nil ?_
          refine ⟨i + 1, ?_, ?_, rfl, cov_n 25 rfl rfl ?_⟩
          · exact ⟨by omega, hv_dropI (by assumption) hvi⟩
          · omega
          · exact (.cons (by show some (V.n _ _ _) = some (V.n _ _ _); rw [List.take_length, List.drop_drop]) (.u (.u (.u (.u (.u (.u (.u (.u (.u (.u (.u .nil))))))))))))
        · refine jc_exit ?_
          refine ⟨i, ?_, rfl, cov_n 22 rfl rfl ?_⟩
          · exact ⟨hi, hvi⟩
          · exact (.cons rfl (.u (.u (.u (.u (.u (.u (.u (.u (.u (.u (.u .nil))))))))))))
      · refine jo_s 12 rfl rfl rfl (hd 13 rfl) ?_; refine jo_s 12 rfl rfl rfl (hd 14 rfl) ?_; refine jo_s 12 rfl rfl rfl (hd 15 rfl) ?_; refine jo_s 12 rfl rfl rfl (hd 16 rfl) ?_; refine jo_l (ly_pick_f rfl rfl) (hd 17 rfl) ?_; refine jo_nil ?_; refine jc_litf rfl ?_; refine jc_exit ?_
        refine ⟨i, ?_, rfl, cov_n 22 rfl rfl ?_⟩
        · exact ⟨hi, hvi⟩
        · exact (.cons rfl (.u (.u (.u (.u (.u (.u (.u (.u (.u (.u (.u .nil))))))))))))
  · rintro i ⟨hi, hvi⟩
    have hld : (l.drop i).length = l.length - i := List.length_drop ..
    refine jc_seq ?_; refine jc_seq ?_; refine jc_region ?_; refine jo_l (ly_mv rfl) (hd 20 rfl) ?_; refine jo_l (ly_lenn sl1039 rfl) (hd 21 rfl) ?_; refine jo_l (ly_ff (ly_gt rfl rfl) (by omega)) (hd 22 rfl) ?_; refine jo_nil ?_; refine jc_litf rfl ?_; refine jc_skip ?_; refine jc_seq ?_; refine jc_region ?_; refine jo_mkmap (hd 23 rfl) fun g => ?_; refine jo_h (hy_alloc (id := 1) zero1138 (by decide) rfl (by decide) rfl) (hd 6 rfl) ?_; refine jo_st (sy_store rfl rfl rfl siz1138 rfl rfl (Nat.le_of_ble_eq_true rfl)) ?_; refine jo_nil ?_; refine jc_seq ?_; refine jc_region ?_; refine jo_h (hy_alloc (id := 2) zero1139 (by decide) rfl (by decide) rfl) (hd 7 rfl) ?_; refine jo_nil ?_; refine jc_seq ?_; refine jc_frzp 6 rfl rfl rfl rfl hL ?_; refine jc_frzp 3 rfl rfl rfl rfl hL ?_; refine jc_region ?_; refine jo_l (ly_mf (ovL_cons rfl (ovL_cons rfl ovL_nil))) (hd 24 rfl) ?_; refine jo_st (sy_store rfl rfl rfl siz1139 rfl rfl (Nat.le_of_ble_eq_true rfl)) ?_; refine jo_nil ?_; refine jc_seq ?_; refine jc_region ?_; refine jo_h (hy_alloc (id := 3) zero1143 (by decide) rfl (by decide) rfl) (hd 8 rfl) ?_; refine jo_nil ?_; refine jc_seq ?_; refine jc_frzF 7 rfl rfl rfl hL ?_; refine jc_region ?_; refine jo_l (ly_mf (ovL_cons rfl (ovL_cons rfl (ovL_cons rfl ovL_nil)))) (hd 25 rfl) ?_; refine jo_st (sy_store rfl rfl rfl siz1143 rfl rfl (Nat.le_of_ble_eq_true rfl)) ?_; refine jo_nil ?_; refine jc_seq ?_; refine jc_cyc 8 [.q [.i .i64 (b : Int)]] [.q [.f 111 [.q [.c (.map (some g))], .q [.i .i64 (b : Int)]]]] 1 rfl rfl rfl rfl hL ?_; refine jc_region ?_; refine jo_l (ly_ldqf one1143 rfl rfl) (hd 26 rfl) ?_; refine jo_l (ly_mv rfl) (hd 27 rfl) ?_
    refine jo_callC Try.f114 (part_12 (l.drop i) b _ _ hlb hb2 (rng_drop hr i) (by omega)) rfl Try.func114 rfl rfl (ovL_cons rfl ovL_nil) (.cons .n (.cons .q (.cons .q (.cons .q .nil)))) (hd 28 rfl) ?_ (fun ch hp => by simp at hp)
    rintro y hy; injection hy with hy; subst hy; refine jo_l (ly_ext rfl rfl) (hd 29 rfl) ?_; refine jo_l (ly_ext rfl rfl) (hd 30 rfl) ?_; refine jo_l (ly_as rfl) (hd 4 rfl) ?_; refine jo_l (ly_as rfl) (hd 5 rfl) ?_; refine jo_nil ?_; refine jc_ret ?_
    refine ⟨_, _, (.cons rfl (.cons rfl .nil)), (.t1 .nn (.t1 .i .t0)), ?_⟩
    rw [hvi]
end Go.Proofs.Ytcfdclehmpfkcaa.Vc

/- Contract of numeral.Parse where all are digits. -/
namespace Go.Proofs.Ytcfdclehmpfkcaa.Vc
open Go Go.RowKit
set_option maxHeartbeats 4000000 in
theorem Parse_k (s : ByteArray) (b : Nat) (r : List Int) (e : Int) (hlb : 2 ≤ b) (hb2 : b ≤ 36) (hs0 : s.size ≠ 0) (hs : s.size < 1099511627776) (hval : ∀ i, i < s.size → dgv (byteAt s i) < b) (hB : Spec Try.prog 67 [.n false .i64 (dgs s), .i .i64 (b : Int)] (fun o => o = .ret (.t [.n false .u64 r, .i .i64 e]))) : Spec Try.prog 16 [.s s, .i .i64 (b : Int)] (fun o => o = .ret (.t [.n false .u64 r, .i .i64 e])) := by
  refine spec_of' [(0, .s s), (1, .i .i64 (b : Int))] rfl Try.func16 rfl (Nat.le_of_ble_eq_true rfl) fun Γ hN hds hL hR => ?_
  have hd : ∀ d, Nat.blt d 60 = true → d < Γ.N := fun d h => by rw [hN]; exact Nat.le_of_ble_eq_true h
  refine jc_seq ?_; refine jc_region ?_; refine jo_l (ly_as rfl) (hd 4 rfl) ?_; refine jo_l (ly_as rfl) (hd 5 rfl) ?_; refine jo_nil ?_; refine jc_seq ?_; refine jc_seq ?_; refine jc_region ?_; refine jo_l (ly_mv rfl) (hd 10 rfl) ?_
  refine jo_call Try.f66 (good_y b hlb hb2) rfl Try.func66 rfl rfl (ovL_cons rfl ovL_nil) (.cons .i .nil) (hd 11 rfl) ?_ (fun ch hp => by simp at hp)
  rintro y hy; injection hy with hy; subst hy; refine jo_l (ly_not rfl) (hd 12 rfl) ?_; refine jo_nil ?_; refine jc_litf rfl ?_; refine jc_skip ?_; refine jc_seq ?_; refine jc_seq ?_; refine jc_region ?_; refine jo_l (ly_mv rfl) (hd 13 rfl) ?_; refine jo_l (ly_ff (ly_eqS rfl rfl) (fun h => hs0 (by rw [h]; rfl))) (hd 14 rfl) ?_; refine jo_nil ?_; refine jc_litf rfl ?_; refine jc_skip ?_; refine jc_seq ?_; refine jc_region ?_; refine jo_l (ly_mv rfl) (hd 15 rfl) ?_; refine jo_l (ly_lens und9 rfl) (hd 16 rfl) ?_; refine jo_h (hy_mk (m := s.size) el1039 rfl rfl rfl (by show 8 * s.size ≤ _; omega) (by unfold maxLen; omega) rfl) (hd 17 rfl) ?_; refine jo_l (ly_as rfl) (hd 6 rfl) ?_; refine jo_nil ?_; refine jc_seq ?_; refine jc_seq ?_; refine jc_H (H' := [⟨3, 1, 0, true, ints .i64 (cpI (dgs s) 0)⟩]) (by rw [← cpI_0, dgs_len]; rfl) ?_; refine jc_region ?_; refine jo_l (ly_mv rfl) (hd 18 rfl) ?_; refine jo_l (ly_lens und9 rfl) (hd 19 rfl) ?_; refine jo_l (ly_mv rfl) (hd 20 rfl) ?_; refine jo_nil ?_; refine jc_block ?_
  refine jc_loopF (G := Nat) (fun i => i ≤ s.size) (fun i => [(20, .i .i64 (i : Int)), (4, .u), (5, .u), (7, .u), (8, .u), (9, .u), (21, .u), (22, .u), (23, .u), (24, .u), (25, .u), (26, .u), (27, .u), (28, .u), (29, .u), (30, .u), (31, .u), (32, .u), (33, .u), (34, .u), (35, .u), (36, .u), (37, .u), (38, .u), (39, .u), (40, .u), (41, .u), (42, .u), (43, .u), (44, .u), (45, .u), (46, .u), (47, .u), (48, .u), (49, .u), (50, .u), (51, .u), (52, .u), (53, .u), (54, .u)]) (fun i => [⟨3, 1, 0, true, ints .i64 (cpI (dgs s) i)⟩]) (fun i => s.size - i) 0 ?_ ?_ rfl ?_
  · exact Nat.zero_le _
  · exact (.cons rfl (.u (.u (.u (.u (.u (.u (.u (.u (.u (.u (.u (.u (.u (.u (.u (.u (.u (.u (.u (.u (.u (.u (.u (.u (.u (.u (.u (.u (.u (.u (.u (.u (.u (.u (.u (.u (.u (.u (.u .nil))))))))))))))))))))))))))))))))))))))))
  · rintro i hi
    have hcl := cpI_len (l := dgs s) (i := i) (by rw [dgs_len]; omega)
    rw [dgs_len] at hcl
    have hbr := byteAt_range s i
    have hdr := dgv_rng hbr.1 hbr.2
    refine jc_seq ?_; refine jc_region ?_; refine jo_l (ly_lt rfl rfl) (hd 21 rfl) ?_; refine jo_nil ?_; refine jc_seq ?_
    refine jc_if rfl (fun h3 => ?_) (fun h3 => ?_)
    · refine jc_skip ?_; refine jc_seq ?_; refine jc_block ?_; refine jc_seq ?_; refine jc_region ?_; refine jo_l (ly_mv rfl) (hd 22 rfl) ?_; refine jo_l (ly_as rfl) (hd 7 rfl) ?_; refine jo_nil ?_; refine jc_seq ?_; refine jc_region ?_; refine jo_l (ly_as rfl) (hd 8 rfl) ?_; refine jo_nil ?_
      refine jc_meetH (G := Unit) (fun _ => True) (fun _ => [(7, .i .i64 (i : Int)), (8, .i .i64 (dgv (byteAt s i))), (9, .u), (23, .u), (24, .u), (25, .u), (26, .u), (27, .u), (28, .u), (29, .u), (30, .u), (31, .u), (32, .u), (33, .u), (34, .u), (35, .u), (36, .u), (37, .u), (38, .u), (39, .u), (40, .u), (41, .u), (42, .u), (43, .u), (44, .u), (45, .u), (46, .u)]) ?_ ?_
      · refine jc_seq ?_; refine jc_region ?_; refine jo_l (ly_mv rfl) (hd 23 rfl) ?_; refine jo_l (ly_mv rfl) (hd 24 rfl) ?_; refine jo_l (ly_ixs (i := i) und9 rfl rfl (by first | rfl | omega) (by omega)) (hd 25 rfl) ?_; refine jo_l (ly_as rfl) (hd 9 rfl) ?_; refine jo_nil ?_; refine jc_block ?_; refine jc_seq ?_; refine jc_region ?_; refine jo_l (ly_mv rfl) (hd 27 rfl) ?_; refine jo_l (ly_ge rfl rfl) (hd 28 rfl) ?_; refine jo_l (ly_mv rfl) (hd 29 rfl) ?_
        refine jo_ifp 29 rfl (fun h4 => ?_) (fun h4 => ?_)
        · refine jo_g 29 rfl rfl (ly_mv rfl) (hd 30 rfl) ?_; refine jo_g 29 rfl rfl (ly_le rfl rfl) (hd 31 rfl) ?_; refine jo_l (ly_pick_t rfl rfl) (hd 32 rfl) ?_; refine jo_l (ly_as rfl) (hd 26 rfl) ?_; refine jo_nil ?_
          refine jc_if rfl (fun h5 => ?_) (fun h5 => ?_)
          · refine jc_region ?_; refine jo_l (ly_mv rfl) (hd 33 rfl) ?_; refine jo_l (ly_sub rfl rfl (wrap_u8 (by omega) (by omega))) (hd 34 rfl) ?_; refine jo_l (ly_conv und5 und3 rfl (wrap_i64 (by omega) (by omega))) (hd 35 rfl) ?_; refine jo_l (ly_as rfl) (hd 8 rfl) ?_; refine jo_nil ?_
            refine ⟨(), ?_, rfl, cov_n 16 rfl rfl ?_⟩
            · trivial
            · exact (.cons rfl (.cons (by show some (V.i .i64 _) = some (V.i .i64 _); congr 1; congr 1; first | (exfalso; omega) | skip; unfold dgv; first | rw [if_pos (by omega)] | rw [if_neg (by omega), if_pos (by omega)] | rw [if_neg (by omega), if_neg (by omega)]) (.u (.u (.u (.u (.u (.u (.u (.u (.u (.u (.u (.u (.u (.u (.u (.u (.u (.u (.u (.u (.u (.u (.u (.u (.u .nil)))))))))))))))))))))))))))
          · refine jc_seq ?_; refine jc_region ?_; refine jo_l (ly_mv rfl) (hd 37 rfl) ?_; refine jo_l (ly_ge rfl rfl) (hd 38 rfl) ?_; refine jo_l (ly_mv rfl) (hd 39 rfl) ?_
            refine jo_ifp 39 rfl (fun h6 => ?_) (fun h6 => ?_)
            · refine jo_g 39 rfl rfl (ly_mv rfl) (hd 40 rfl) ?_; refine jo_g 39 rfl rfl (ly_le rfl rfl) (hd 41 rfl) ?_; refine jo_l (ly_pick_t rfl rfl) (hd 42 rfl) ?_; refine jo_l (ly_as rfl) (hd 36 rfl) ?_; refine jo_nil ?_
              refine jc_if rfl (fun h7 => ?_) (fun h7 => ?_)
              · refine jc_region ?_; refine jo_l (ly_mv rfl) (hd 43 rfl) ?_; refine jo_l (ly_sub rfl rfl (wrap_u8 (by omega) (by omega))) (hd 44 rfl) ?_; refine jo_l (ly_conv und5 und3 rfl (wrap_i64 (by omega) (by omega))) (hd 45 rfl) ?_; refine jo_l (ly_add rfl rfl (wrap_i64 (by omega) (by omega))) (hd 46 rfl) ?_; refine jo_l (ly_as rfl) (hd 8 rfl) ?_; refine jo_nil ?_
                refine ⟨(), ?_, rfl, cov_n 25 rfl rfl ?_⟩
                · trivial
                · exact (.cons rfl (.cons (by show some (V.i .i64 _) = some (V.i .i64 _); congr 1; congr 1; first | (exfalso; omega) | skip; unfold dgv; first | rw [if_pos (by omega)] | rw [if_neg (by omega), if_pos (by omega)] | rw [if_neg (by omega), if_neg (by omega)]) (.u (.u (.u (.u (.u (.u (.u (.u (.u (.u (.u (.u (.u (.u (.u (.u (.u (.u (.u (.u (.u (.u (.u (.u (.u .nil)))))))))))))))))))))))))))
              · refine jc_skip ?_
                refine ⟨(), ?_, rfl, cov_n 20 rfl rfl ?_⟩
                · trivial
                · exact (.cons rfl (.cons (by show some (V.i .i64 _) = some (V.i .i64 _); congr 1; congr 1; first | (exfalso; omega) | skip; unfold dgv; first | rw [if_pos (by omega)] | rw [if_neg (by omega), if_pos (by omega)] | rw [if_neg (by omega), if_neg (by omega)]) (.u (.u (.u (.u (.u (.u (.u (.u (.u (.u (.u (.u (.u (.u (.u (.u (.u (.u (.u (.u (.u (.u (.u (.u (.u .nil)))))))))))))))))))))))))))
            · refine jo_s 39 rfl rfl rfl (hd 40 rfl) ?_; refine jo_s 39 rfl rfl rfl (hd 41 rfl) ?_; refine jo_l (ly_pick_f rfl rfl) (hd 42 rfl) ?_; refine jo_l (ly_as rfl) (hd 36 rfl) ?_; refine jo_nil ?_; refine jc_litf rfl ?_; refine jc_skip ?_
              refine ⟨(), ?_, rfl, cov_n 20 rfl rfl ?_⟩
              · trivial
              · exact (.cons rfl (.cons (by show some (V.i .i64 _) = some (V.i .i64 _); congr 1; congr 1; first | (exfalso; omega) | skip; unfold dgv; first | rw [if_pos (by omega)] | rw [if_neg (by omega), if_pos (by omega)] | rw [if_neg (by omega), if_neg (by omega)]) (.u (.u (.u (.u (.u (.u (.u (.u (.u (.u (.u (.u (.u (.u (.u (.u (.u (.u (.u (.u (.u (.u (.u (.u (.u .nil)))))))))))))))))))))))))))
        · refine jo_s 29 rfl rfl rfl (hd 30 rfl) ?_; refine jo_s 29 rfl rfl rfl (hd 31 rfl) ?_; refine jo_l (ly_pick_f rfl rfl) (hd 32 rfl) ?_; refine jo_l (ly_as rfl) (hd 26 rfl) ?_; refine jo_nil ?_; refine jc_litf rfl ?_; refine jc_seq ?_; refine jc_region ?_; refine jo_l (ly_mv rfl) (hd 37 rfl) ?_; refine jo_l (ly_ge rfl rfl) (hd 38 rfl) ?_; refine jo_l (ly_mv rfl) (hd 39 rfl) ?_
          refine jo_ifp 39 rfl (fun h10 => ?_) (fun h10 => ?_)
          · refine jo_g 39 rfl rfl (ly_mv rfl) (hd 40 rfl) ?_; refine jo_g 39 rfl rfl (ly_le rfl rfl) (hd 41 rfl) ?_; refine jo_l (ly_pick_t rfl rfl) (hd 42 rfl) ?_; refine jo_l (ly_as rfl) (hd 36 rfl) ?_; refine jo_nil ?_
            refine jc_if rfl (fun h11 => ?_) (fun h11 => ?_)
            · refine jc_region ?_; refine jo_l (ly_mv rfl) (hd 43 rfl) ?_; refine jo_l (ly_sub rfl rfl (wrap_u8 (by omega) (by omega))) (hd 44 rfl) ?_; refine jo_l (ly_conv und5 und3 rfl (wrap_i64 (by omega) (by omega))) (hd 45 rfl) ?_; refine jo_l (ly_add rfl rfl (wrap_i64 (by omega) (by omega))) (hd 46 rfl) ?_; refine jo_l (ly_as rfl) (hd 8 rfl) ?_; refine jo_nil ?_
              refine ⟨(), ?_, rfl, cov_n 25 rfl rfl ?_⟩
              · trivial
              · exact (.cons rfl (.cons (by show some (V.i .i64 _) = some (V.i .i64 _); congr 1; congr 1; first | (exfalso; omega) | skip; unfold dgv; first | rw [if_pos (by omega)] | rw [if_neg (by omega), if_pos (by omega)] | rw [if_neg (by omega), if_neg (by omega)]) (.u (.u (.u (.u (.u (.u (.u (.u (.u (.u (.u (.u (.u (.u (.u (.u (.u (.u (.u (.u (.u (.u (.u (.u (.u .nil)))))))))))))))))))))))))))
            · refine jc_skip ?_
              refine ⟨(), ?_, rfl, cov_n 20 rfl rfl ?_⟩
              · trivial
              · exact (.cons rfl (.cons (by show some (V.i .i64 _) = some (V.i .i64 _); congr 1; congr 1; first | (exfalso; omega) | skip; unfold dgv; first | rw [if_pos (by omega)] | rw [if_neg (by omega), if_pos (by omega)] | rw [if_neg (by omega), if_neg (by omega)]) (.u (.u (.u (.u (.u (.u (.u (.u (.u (.u (.u (.u (.u (.u (.u (.u (.u (.u (.u (.u (.u (.u (.u (.u (.u .nil)))))))))))))))))))))))))))
          · refine jo_s 39 rfl rfl rfl (hd 40 rfl) ?_; refine jo_s 39 rfl rfl rfl (hd 41 rfl) ?_; refine jo_l (ly_pick_f rfl rfl) (hd 42 rfl) ?_; refine jo_l (ly_as rfl) (hd 36 rfl) ?_; refine jo_nil ?_; refine jc_litf rfl ?_; refine jc_skip ?_
            refine ⟨(), ?_, rfl, cov_n 20 rfl rfl ?_⟩
            · trivial
            · exact (.cons rfl (.cons (by show some (V.i .i64 _) = some (V.i .i64 _); congr 1; congr 1; first | (exfalso; omega) | skip; unfold dgv; first | rw [if_pos (by omega)] | rw [if_neg (by omega), if_pos (by omega)] | rw [if_neg (by omega), if_neg (by omega)]) (.u (.u (.u (.u (.u (.u (.u (.u (.u (.u (.u (.u (.u (.u (.u (.u (.u (.u (.u (.u (.u (.u (.u (.u (.u .nil)))))))))))))))))))))))))))
      · rintro _ _; refine jc_seq ?_; refine jc_seq ?_; refine jc_region ?_; refine jo_l (ly_mv rfl) (hd 47 rfl) ?_; refine jo_l (ly_mv rfl) (hd 48 rfl) ?_; refine jo_l (ly_ff (ly_ge rfl rfl) (by have := hval i (by omega); omega)) (hd 49 rfl) ?_; refine jo_nil ?_; refine jc_litf rfl ?_; refine jc_skip ?_; refine jc_region ?_; refine jo_l (ly_mv rfl) (hd 50 rfl) ?_; refine jo_l (ly_mv rfl) (hd 51 rfl) ?_; refine jo_l (ly_mv rfl) (hd 52 rfl) ?_; refine jo_l (ly_ia (i := i) sl1039 rfl rfl rfl (by first | rfl | omega) (by omega) rfl) (hd 53 rfl) ?_; refine jo_st (sy_storei rfl rfl rfl one3 (by first | omega | (dsimp only; omega))) ?_; refine jo_nil ?_; refine jc_region ?_; refine jo_l (ly_add rfl rfl (r := ((i + 1 : Nat) : Int)) (by rw [wrap_i64 (by omega) (by omega)]; omega)) (hd 54 rfl) ?_; refine jo_l (ly_mv rfl) (hd 20 rfl) ?_; refine jo_nil ?_
        refine ⟨i + 1, ?_, ?_, (by show [(⟨3, 1, 0, true, ints .i64 _⟩ : Ob)] = [⟨3, 1, 0, true, ints .i64 _⟩]; rw [← cpI_set (by rw [dgs_len]; omega), dgs_getD (by omega)]), cov_n 80 rfl rfl ?_⟩
        · omega
        · omega
        · exact (.cons rfl (.u (.u (.u (.u (.u (.u (.u (.u (.u (.u (.u (.u (.u (.u (.u (.u (.u (.u (.u (.u (.u (.u (.u (.u (.u (.u (.u (.u (.u (.u (.u (.u (.u (.u (.u (.u (.u (.u (.u .nil))))))))))))))))))))))))))))))))))))))))
    · refine jc_exit ?_; refine jc_seq ?_
      obtain rfl : i = s.size := by omega
      refine jc_frz (k := .i64) (l := cpI (dgs s) s.size) (l' := dgs s) 6 rfl rfl (by rw [hcl]; exact Nat.le_of_eq (Nat.zero_add _)) (by rw [List.drop_zero, List.take_of_length_le (by omega)]; have h := cpI_all (dgs s); rwa [dgs_len] at h) hL ?_; refine jc_region ?_; refine jo_l (ly_mv rfl) (hd 55 rfl) ?_; refine jo_l (ly_mv rfl) (hd 56 rfl) ?_
      refine jo_call Try.f67 (hB) rfl Try.func67 rfl rfl (ovL_cons rfl (ovL_cons rfl ovL_nil)) (.cons .n (.cons .i .nil)) (hd 57 rfl) ?_ (fun ch hp => by simp at hp)
      rintro y hy; injection hy with hy; subst hy; refine jo_l (ly_ext rfl rfl) (hd 58 rfl) ?_; refine jo_l (ly_ext rfl rfl) (hd 59 rfl) ?_; refine jo_l (ly_as rfl) (hd 4 rfl) ?_; refine jo_l (ly_as rfl) (hd 5 rfl) ?_; refine jo_nil ?_; refine jc_ret ?_
      refine ⟨_, _, (.cons rfl (.cons rfl .nil)), (.t1 .nn (.t1 .i .t0)), ?_⟩
      exact rfl
end Go.Proofs.Ytcfdclehmpfkcaa.Vc

/- Contracts of surdlaw05.lives, NumeralNames, right. -/
namespace Go.Proofs.Ytcfdclehmpfkcaa.Vc
open Go Go.RowKit
set_option maxHeartbeats 4000000 in
set_option maxRecDepth 100000 in
theorem lives5_s  : Spec Try.prog 15 [] (fun o => o = .ret (.b true)) := by
  refine spec_of' [] rfl Try.func15 rfl (Nat.le_of_ble_eq_true rfl) fun Γ hN hds hL hR => ?_
  have hd : ∀ d, Nat.blt d 35 = true → d < Γ.N := fun d h => by rw [hN]; exact Nat.le_of_ble_eq_true h
  have hP : Spec Try.prog 21 [.n false .u64 [255], .i .i64 16] (fun o => o = .ret (.t [.s ⟨#[102, 102]⟩, .i .i64 0])) := by have h := Print_s [255] 16 (by decide) (u64s1 (by decide) (by decide)) (by decide) (by decide); rwa [hdg_255] at h
  have hB : Spec Try.prog 67 [.n false .i64 [0, 0, 15, 15], .i .i64 16] (fun o => o = .ret (.t [.n false .u64 [255], .i .i64 0])) := by have h := build_12 [0, 0, 15, 15] 16 (by decide) (by decide) (fun x hx => by simp at hx; omega) (by decide); rwa [lm_255] at h
  have hQ : Spec Try.prog 16 [.s ⟨#[48, 48, 102, 102]⟩, .i .i64 16] (fun o => o = .ret (.t [.n false .u64 [255], .i .i64 0])) := Parse_k ⟨#[48, 48, 102, 102]⟩ 16 [255] 0 (by decide) (by decide) (by decide) (by decide) (by decide +kernel) (by rw [show dgs ⟨#[48, 48, 102, 102]⟩ = [0, 0, 15, 15] by decide +kernel]; exact hB)
  have hC : Spec Try.prog 22 [.n false .u64 [255], .n false .u64 [255]] (fun o => o = .ret (.i .i64 0)) := by have h := Compare_s [255] [255] (by decide) (by decide); rwa [show cmpL (trm [255]) (trm [255]) = 0 by decide] at h
  refine jc_seq ?_; refine jc_region ?_; refine jo_l (ly_as rfl) (hd 0 rfl) ?_; refine jo_nil ?_; refine jc_seq ?_; refine jc_region ?_; refine jo_h (hy_lit (id := 0) (xs := [.const (.int .u64 255)]) el28 rfl (ovL_cons rfl ovL_nil) rfl (all2_of rfl) (by decide) rfl) (hd 6 rfl) ?_; refine jo_frz (k := .u64) (l := [255]) (l' := [255]) 6 rfl rfl (by decide) rfl hL ?_
  refine jo_call Try.f21 (hP) rfl Try.func21 rfl rfl (ovL_cons rfl (ovL_cons rfl ovL_nil)) (.cons .n (.cons .i .nil)) (hd 7 rfl) ?_ (fun ch hp => by simp at hp)
  rintro y hy; injection hy with hy; subst hy; refine jo_l (ly_mv rfl) (hd 5 rfl) ?_; refine jo_l (ly_ext rfl rfl) (hd 8 rfl) ?_; refine jo_l (ly_ext rfl rfl) (hd 9 rfl) ?_; refine jo_l (ly_as rfl) (hd 1 rfl) ?_; refine jo_l (ly_as rfl) (hd 2 rfl) ?_; refine jo_nil ?_; refine jc_seq ?_; refine jc_region ?_
  refine jo_call Try.f16 (hQ) rfl Try.func16 rfl rfl (ovL_cons rfl (ovL_cons rfl ovL_nil)) (.cons .s (.cons .i .nil)) (hd 11 rfl) ?_ (fun ch hp => by simp at hp)
  rintro y hy; injection hy with hy; subst hy; refine jo_l (ly_mv rfl) (hd 10 rfl) ?_; refine jo_l (ly_ext rfl rfl) (hd 12 rfl) ?_; refine jo_l (ly_ext rfl rfl) (hd 13 rfl) ?_; refine jo_l (ly_as rfl) (hd 3 rfl) ?_; refine jo_l (ly_as rfl) (hd 4 rfl) ?_; refine jo_nil ?_; refine jc_seq ?_; refine jc_region ?_; refine jo_l (ly_mv rfl) (hd 14 rfl) ?_; refine jo_l (ly_tt (ly_eqS rfl rfl) rfl) (hd 15 rfl) ?_; refine jo_l (ly_mv rfl) (hd 16 rfl) ?_; refine jo_g 16 rfl rfl (ly_mv rfl) (hd 17 rfl) ?_; refine jo_g 16 rfl rfl (ly_tt (ly_eq rfl rfl) rfl) (hd 18 rfl) ?_; refine jo_l (ly_pick_t rfl rfl) (hd 19 rfl) ?_; refine jo_l (ly_mv rfl) (hd 20 rfl) ?_; refine jo_g 20 rfl rfl (ly_mv rfl) (hd 21 rfl) ?_; refine jo_hg 20 rfl rfl (hy_lit (id := 1) (xs := [.const (.int .u64 255)]) el28 rfl (ovL_cons rfl ovL_nil) rfl (all2_of rfl) (by decide) rfl) (hd 22 rfl) ?_
  refine jo_callLg Try.f22 20 rfl rfl (hC) rfl Try.func22 rfl rfl (ovL_cons rfl (ovL_cons rfl ovL_nil)) (.a1 .n (.a1 (.o (k := .u64) (l := [255]) rfl (by decide) rfl) .a0)) (.cons .n (.cons .n .nil)) hL (fun y hy => by injection hy with hy; subst hy; rfl) (hd 23 rfl) ?_ (fun ch hp => by simp at hp)
  rintro y hy; injection hy with hy; subst hy; refine jo_g 20 rfl rfl (ly_tt (ly_eq rfl rfl) rfl) (hd 24 rfl) ?_; refine jo_l (ly_pick_t rfl rfl) (hd 25 rfl) ?_; refine jo_l (ly_mv rfl) (hd 26 rfl) ?_; refine jo_g 26 rfl rfl (ly_mv rfl) (hd 27 rfl) ?_; refine jo_g 26 rfl rfl (ly_tt (ly_eq rfl rfl) rfl) (hd 28 rfl) ?_; refine jo_l (ly_pick_t rfl rfl) (hd 29 rfl) ?_; refine jo_l (ly_mv rfl) (hd 30 rfl) ?_; refine jo_g 30 rfl rfl (ly_mv rfl) (hd 31 rfl) ?_; refine jo_g 30 rfl rfl (ly_lenn sl28 rfl) (hd 32 rfl) ?_; refine jo_g 30 rfl rfl (ly_tt (ly_eq rfl rfl) rfl) (hd 33 rfl) ?_; refine jo_l (ly_pick_t rfl rfl) (hd 34 rfl) ?_; refine jo_l (ly_as rfl) (hd 0 rfl) ?_; refine jo_nil ?_; refine jc_ret ?_
  refine ⟨_, _, (.cons rfl .nil), .b, ?_⟩
  exact rfl

set_option maxHeartbeats 4000000 in
theorem right_s (v : Int) (h0 : -9223372036854775808 ≤ v) (h9 : v < 9223372036854775808) : Spec Try.prog 20 [.i .i64 v] (fun o => ∃ b : Nat, 2 ≤ b ∧ b ≤ 36 ∧ o = .ret (.i .i64 (b : Int))) := by
  refine spec_of' [(0, .i .i64 v)] rfl Try.func20 rfl (Nat.le_of_ble_eq_true rfl) fun Γ hN hds hL hR => ?_
  have hd : ∀ d, Nat.blt d 11 = true → d < Γ.N := fun d h => by rw [hN]; exact Nat.le_of_ble_eq_true h
  have h1 := Int.tmod_lt_of_pos v (show (0 : Int) < 35 by decide)
  have h2 : -35 < v.tmod 35 := by have := Int.lt_tmod_of_pos v (show (0 : Int) < 35 by decide); omega
  refine jc_seq ?_; refine jc_region ?_; refine jo_l (ly_as rfl) (hd 2 rfl) ?_; refine jo_nil ?_; refine jc_seq ?_; refine jc_region ?_; refine jo_l (ly_mv rfl) (hd 3 rfl) ?_; refine jo_l (ly_rem rfl rfl (by decide) rfl) (hd 4 rfl) ?_; refine jo_l (ly_as rfl) (hd 0 rfl) ?_; refine jo_nil ?_; refine jc_seq ?_; refine jc_seq ?_; refine jc_region ?_; refine jo_l (ly_mv rfl) (hd 5 rfl) ?_; refine jo_l (ly_lt rfl rfl) (hd 6 rfl) ?_; refine jo_nil ?_
  refine jc_if rfl (fun h1 => ?_) (fun h1 => ?_)
  · refine jc_region ?_; refine jo_l (ly_mv rfl) (hd 7 rfl) ?_; refine jo_l (ly_add rfl rfl (wrap_i64 (by omega) (by omega))) (hd 8 rfl) ?_; refine jo_l (ly_as rfl) (hd 0 rfl) ?_; refine jo_nil ?_; refine jc_seq ?_; refine jc_region ?_; refine jo_l (ly_mv rfl) (hd 9 rfl) ?_; refine jo_l (ly_add rfl rfl (wrap_i64 (by omega) (by omega))) (hd 10 rfl) ?_; refine jo_l (ly_as rfl) (hd 2 rfl) ?_; refine jo_nil ?_; refine jc_ret ?_
    refine ⟨_, _, (.cons rfl .nil), .i, ?_⟩
    refine ⟨(_ : Int).toNat, ?_, ?_, congrArg (fun z => Out.ret (V.i .i64 z)) (Int.toNat_of_nonneg ?_).symm⟩ <;> omega
  · refine jc_skip ?_; refine jc_seq ?_; refine jc_region ?_; refine jo_l (ly_mv rfl) (hd 9 rfl) ?_; refine jo_l (ly_add rfl rfl (wrap_i64 (by omega) (by omega))) (hd 10 rfl) ?_; refine jo_l (ly_as rfl) (hd 2 rfl) ?_; refine jo_nil ?_; refine jc_ret ?_
    refine ⟨_, _, (.cons rfl .nil), .i, ?_⟩
    refine ⟨(_ : Int).toNat, ?_, ?_, congrArg (fun z => Out.ret (V.i .i64 z)) (Int.toNat_of_nonneg ?_).symm⟩ <;> omega
end Go.Proofs.Ytcfdclehmpfkcaa.Vc

/- The contract of surdlaw05.NumeralOrders. -/
namespace Go.Proofs.Ytcfdclehmpfkcaa.Vc
open Go Go.RowKit
set_option maxHeartbeats 4000000 in
theorem NumeralOrders_s (a b : List Int) (v : Int) (hab : a.length + b.length ≤ 1048574) (ua : u64s a) (ub : u64s b) (h0 : -9223372036854775808 ≤ v) (h9 : v < 9223372036854775808) : Spec Try.prog 5 [.n false .u64 a, .n false .u64 b, .i .i64 v] (fun o => o = .ret (.b true)) := by
  refine spec_of' [(0, .n false .u64 a), (1, .n false .u64 b), (2, .i .i64 v)] rfl Try.func5 rfl (Nat.le_of_ble_eq_true rfl) fun Γ hN hds hL hR => ?_
  have hd : ∀ d, Nat.blt d 62 = true → d < Γ.N := fun d h => by rw [hN]; exact Nat.le_of_ble_eq_true h
  refine jc_seq ?_; refine jc_region ?_; refine jo_l (ly_as rfl) (hd 6 rfl) ?_; refine jo_nil ?_; refine jc_seq ?_; refine jc_region ?_; refine jo_l (ly_mv rfl) (hd 12 rfl) ?_
  refine jo_call Try.f20 (right_s v h0 h9) rfl Try.func20 rfl rfl (ovL_cons rfl ovL_nil) (.cons .i .nil) (hd 13 rfl) ?_ (fun ch hp => by simp at hp)
  rintro y ⟨bb, hlb, hb2, hy⟩; injection hy with hy; subst hy; refine jo_l (ly_as rfl) (hd 2 rfl) ?_; refine jo_nil ?_; refine jc_seq ?_; refine jc_region ?_; refine jo_l (ly_mv rfl) (hd 15 rfl) ?_; refine jo_l (ly_mv rfl) (hd 16 rfl) ?_
  refine jo_call Try.f21 (Print_s a bb (by omega) ua hlb hb2) rfl Try.func21 rfl rfl (ovL_cons rfl (ovL_cons rfl ovL_nil)) (.cons .n (.cons .i .nil)) (hd 17 rfl) ?_ (fun ch hp => by simp at hp)
  rintro y hy; injection hy with hy; subst hy; refine jo_l (ly_mv rfl) (hd 14 rfl) ?_; refine jo_l (ly_ext rfl rfl) (hd 18 rfl) ?_; refine jo_l (ly_ext rfl rfl) (hd 19 rfl) ?_; refine jo_l (ly_as rfl) (hd 7 rfl) ?_; refine jo_l (ly_as rfl) (hd 8 rfl) ?_; refine jo_nil ?_; refine jc_seq ?_; refine jc_region ?_; refine jo_l (ly_mv rfl) (hd 21 rfl) ?_; refine jo_l (ly_mv rfl) (hd 22 rfl) ?_
  refine jo_call Try.f21 (Print_s b bb (by omega) ub hlb hb2) rfl Try.func21 rfl rfl (ovL_cons rfl (ovL_cons rfl ovL_nil)) (.cons .n (.cons .i .nil)) (hd 23 rfl) ?_ (fun ch hp => by simp at hp)
  rintro y hy; injection hy with hy; subst hy; refine jo_l (ly_mv rfl) (hd 20 rfl) ?_; refine jo_l (ly_ext rfl rfl) (hd 24 rfl) ?_; refine jo_l (ly_ext rfl rfl) (hd 25 rfl) ?_; refine jo_l (ly_as rfl) (hd 9 rfl) ?_; refine jo_l (ly_as rfl) (hd 10 rfl) ?_; refine jo_nil ?_; refine jc_seq ?_; refine jc_seq ?_; refine jc_region ?_; refine jo_l (ly_mv rfl) (hd 26 rfl) ?_; refine jo_l (ly_ff (ly_ne rfl rfl) (by decide)) (hd 27 rfl) ?_; refine jo_l (ly_mv rfl) (hd 28 rfl) ?_; refine jo_g 28 rfl rfl (ly_mv rfl) (hd 29 rfl) ?_; refine jo_g 28 rfl rfl (ly_ff (ly_ne rfl rfl) (by decide)) (hd 30 rfl) ?_; refine jo_l (ly_pick_f rfl rfl) (hd 31 rfl) ?_; refine jo_nil ?_; refine jc_litf rfl ?_; refine jc_skip ?_; refine jc_seq ?_; refine jc_region ?_; refine jo_l (ly_as rfl) (hd 11 rfl) ?_; refine jo_nil ?_
  refine jc_meetH (G := Unit) (fun _ => True) (fun _ => [(11, .i .i64 (ordW (txt (hdg bb 1 (vl a).toNat)) (txt (hdg bb 1 (vl b).toNat)))), (32, .u), (33, .u), (34, .u), (35, .u), (36, .u), (37, .u), (38, .u), (39, .u), (40, .u), (41, .u), (42, .u), (43, .u), (44, .u), (45, .u), (46, .u), (47, .u), (48, .u), (49, .u), (50, .u), (51, .u), (52, .u), (53, .u)]) ?_ ?_
  · refine jc_block ?_; refine jc_seq ?_; refine jc_region ?_; refine jo_l (ly_mv rfl) (hd 33 rfl) ?_; refine jo_l (ly_lens und9 rfl) (hd 34 rfl) ?_; refine jo_l (ly_mv rfl) (hd 35 rfl) ?_; refine jo_l (ly_lens und9 rfl) (hd 36 rfl) ?_; refine jo_l (ly_lt rfl rfl) (hd 37 rfl) ?_; refine jo_l (ly_mv rfl) (hd 38 rfl) ?_
    refine jo_ifp 38 rfl (fun h2 => ?_) (fun h2 => ?_)
    · refine jo_s 38 rfl rfl rfl (hd 39 rfl) ?_; refine jo_s 38 rfl rfl rfl (hd 40 rfl) ?_; refine jo_s 38 rfl rfl rfl (hd 41 rfl) ?_; refine jo_s 38 rfl rfl rfl (hd 42 rfl) ?_; refine jo_s 38 rfl rfl rfl (hd 43 rfl) ?_; refine jo_s 38 rfl rfl rfl (hd 44 rfl) ?_; refine jo_s' 44 rfl rfl (hd 45 rfl) ?_; refine jo_s' 44 rfl rfl (hd 46 rfl) ?_; refine jo_s' 44 rfl rfl (hd 47 rfl) ?_; refine jo_s 38 rfl rfl rfl (hd 48 rfl) ?_; refine jo_l (ly_pick_t rfl rfl) (hd 49 rfl) ?_; refine jo_l (ly_as rfl) (hd 32 rfl) ?_; refine jo_nil ?_; refine jc_litt rfl ?_; refine jc_region ?_; refine jo_l (ly_as rfl) (hd 11 rfl) ?_; refine jo_nil ?_
      refine ⟨(), ?_, rfl, cov_n 20 rfl rfl ?_⟩
      · trivial
      · exact (.cons (by show some (V.i .i64 _) = some (V.i .i64 _); congr 1; congr 1; unfold ordW; first | rw [if_pos (.inl (by omega))] | rw [if_pos (.inr ⟨by omega, by assumption⟩)] | rw [if_neg (by rintro (h | ⟨h, h2⟩) <;> first | omega | simp_all), if_neg (by assumption)] | rw [if_neg (by rintro (h | ⟨h, h2⟩) <;> first | omega | simp_all), if_pos (by assumption)] | rw [if_neg (by rintro (h | ⟨h, h2⟩) <;> first | omega | simp_all), if_pos (Decidable.not_not.1 (by assumption))]) (.u (.u (.u (.u (.u (.u (.u (.u (.u (.u (.u (.u (.u (.u (.u (.u (.u (.u (.u (.u (.u (.u .nil)))))))))))))))))))))))
    · refine jo_g 38 rfl rfl (ly_mv rfl) (hd 39 rfl) ?_; refine jo_g 38 rfl rfl (ly_lens und9 rfl) (hd 40 rfl) ?_; refine jo_g 38 rfl rfl (ly_mv rfl) (hd 41 rfl) ?_; refine jo_g 38 rfl rfl (ly_lens und9 rfl) (hd 42 rfl) ?_; refine jo_g 38 rfl rfl (ly_eq rfl rfl) (hd 43 rfl) ?_; refine jo_g 38 rfl rfl (ly_mv rfl) (hd 44 rfl) ?_
      refine jo_ifp 44 rfl (fun h4 => ?_) (fun h4 => ?_)
      · refine jo_g 44 rfl rfl (ly_mv rfl) (hd 45 rfl) ?_; refine jo_g 44 rfl rfl (ly_mv rfl) (hd 46 rfl) ?_; refine jo_g 44 rfl rfl (ly_lts rfl rfl) (hd 47 rfl) ?_; refine jo_g 38 rfl rfl (ly_pick_t rfl rfl) (hd 48 rfl) ?_; refine jo_l (ly_pick_f rfl rfl) (hd 49 rfl) ?_; refine jo_l (ly_as rfl) (hd 32 rfl) ?_; refine jo_nil ?_
        refine jc_cond rfl (fun h5 => ?_) (fun h5 => ?_)
        · refine jc_region ?_; refine jo_l (ly_as rfl) (hd 11 rfl) ?_; refine jo_nil ?_
          refine ⟨(), ?_, rfl, cov_n 21 rfl rfl ?_⟩
          · trivial
          · exact (.cons (by show some (V.i .i64 _) = some (V.i .i64 _); congr 1; congr 1; unfold ordW; first | rw [if_pos (.inl (by omega))] | rw [if_pos (.inr ⟨by omega, by assumption⟩)] | rw [if_neg (by rintro (h | ⟨h, h2⟩) <;> first | omega | simp_all), if_neg (by assumption)] | rw [if_neg (by rintro (h | ⟨h, h2⟩) <;> first | omega | simp_all), if_pos (by assumption)] | rw [if_neg (by rintro (h | ⟨h, h2⟩) <;> first | omega | simp_all), if_pos (Decidable.not_not.1 (by assumption))]) (.u (.u (.u (.u (.u (.u (.u (.u (.u (.u (.u (.u (.u (.u (.u (.u (.u (.u (.u (.u (.u (.u .nil)))))))))))))))))))))))
        · refine jc_seq ?_; refine jc_region ?_; refine jo_l (ly_mv rfl) (hd 51 rfl) ?_; refine jo_l (ly_mv rfl) (hd 52 rfl) ?_; refine jo_l (ly_neS rfl rfl) (hd 53 rfl) ?_; refine jo_l (ly_as rfl) (hd 50 rfl) ?_; refine jo_nil ?_
          refine jc_if rfl (fun h6 => ?_) (fun h6 => ?_)
          · refine jc_region ?_; refine jo_l (ly_as rfl) (hd 11 rfl) ?_; refine jo_nil ?_
            refine ⟨(), ?_, rfl, cov_n 25 rfl rfl ?_⟩
            · trivial
            · exact (.cons (by show some (V.i .i64 _) = some (V.i .i64 _); congr 1; congr 1; unfold ordW; first | rw [if_pos (.inl (by omega))] | rw [if_pos (.inr ⟨by omega, by assumption⟩)] | rw [if_neg (by rintro (h | ⟨h, h2⟩) <;> first | omega | simp_all), if_neg (by assumption)] | rw [if_neg (by rintro (h | ⟨h, h2⟩) <;> first | omega | simp_all), if_pos (by assumption)] | rw [if_neg (by rintro (h | ⟨h, h2⟩) <;> first | omega | simp_all), if_pos (Decidable.not_not.1 (by assumption))]) (.u (.u (.u (.u (.u (.u (.u (.u (.u (.u (.u (.u (.u (.u (.u (.u (.u (.u (.u (.u (.u (.u .nil)))))))))))))))))))))))
          · refine jc_skip ?_
            refine ⟨(), ?_, rfl, cov_n 24 rfl rfl ?_⟩
            · trivial
            · exact (.cons (by show some (V.i .i64 _) = some (V.i .i64 _); congr 1; congr 1; unfold ordW; first | rw [if_pos (.inl (by omega))] | rw [if_pos (.inr ⟨by omega, by assumption⟩)] | rw [if_neg (by rintro (h | ⟨h, h2⟩) <;> first | omega | simp_all), if_neg (by assumption)] | rw [if_neg (by rintro (h | ⟨h, h2⟩) <;> first | omega | simp_all), if_pos (by assumption)] | rw [if_neg (by rintro (h | ⟨h, h2⟩) <;> first | omega | simp_all), if_pos (Decidable.not_not.1 (by assumption))]) (.u (.u (.u (.u (.u (.u (.u (.u (.u (.u (.u (.u (.u (.u (.u (.u (.u (.u (.u (.u (.u (.u .nil)))))))))))))))))))))))
      · refine jo_s 44 rfl rfl rfl (hd 45 rfl) ?_; refine jo_s 44 rfl rfl rfl (hd 46 rfl) ?_; refine jo_s 44 rfl rfl rfl (hd 47 rfl) ?_; refine jo_g 38 rfl rfl (ly_pick_f rfl rfl) (hd 48 rfl) ?_; refine jo_l (ly_pick_f rfl rfl) (hd 49 rfl) ?_; refine jo_l (ly_as rfl) (hd 32 rfl) ?_; refine jo_nil ?_; refine jc_litf rfl ?_; refine jc_seq ?_; refine jc_region ?_; refine jo_l (ly_mv rfl) (hd 51 rfl) ?_; refine jo_l (ly_mv rfl) (hd 52 rfl) ?_; refine jo_l (ly_neS rfl rfl) (hd 53 rfl) ?_; refine jo_l (ly_as rfl) (hd 50 rfl) ?_; refine jo_nil ?_
        refine jc_if rfl (fun h8 => ?_) (fun h8 => ?_)
        · refine jc_region ?_; refine jo_l (ly_as rfl) (hd 11 rfl) ?_; refine jo_nil ?_
          refine ⟨(), ?_, rfl, cov_n 25 rfl rfl ?_⟩
          · trivial
          · exact (.cons (by show some (V.i .i64 _) = some (V.i .i64 _); congr 1; congr 1; unfold ordW; first | rw [if_pos (.inl (by omega))] | rw [if_pos (.inr ⟨by omega, by assumption⟩)] | rw [if_neg (by rintro (h | ⟨h, h2⟩) <;> first | omega | simp_all), if_neg (by assumption)] | rw [if_neg (by rintro (h | ⟨h, h2⟩) <;> first | omega | simp_all), if_pos (by assumption)] | rw [if_neg (by rintro (h | ⟨h, h2⟩) <;> first | omega | simp_all), if_pos (Decidable.not_not.1 (by assumption))]) (.u (.u (.u (.u (.u (.u (.u (.u (.u (.u (.u (.u (.u (.u (.u (.u (.u (.u (.u (.u (.u (.u .nil)))))))))))))))))))))))
        · refine jc_skip ?_
          refine ⟨(), ?_, rfl, cov_n 24 rfl rfl ?_⟩
          · trivial
          · exact (.cons (by show some (V.i .i64 _) = some (V.i .i64 _); congr 1; congr 1; unfold ordW; first | rw [if_pos (.inl (by omega))] | rw [if_pos (.inr ⟨by omega, by assumption⟩)] | rw [if_neg (by rintro (h | ⟨h, h2⟩) <;> first | omega | simp_all), if_neg (by assumption)] | rw [if_neg (by rintro (h | ⟨h, h2⟩) <;> first | omega | simp_all), if_pos (by assumption)] | rw [if_neg (by rintro (h | ⟨h, h2⟩) <;> first | omega | simp_all), if_pos (Decidable.not_not.1 (by assumption))]) (.u (.u (.u (.u (.u (.u (.u (.u (.u (.u (.u (.u (.u (.u (.u (.u (.u (.u (.u (.u (.u (.u .nil)))))))))))))))))))))))
  · rintro _ _; refine jc_seq ?_; refine jc_region ?_; refine jo_l (ly_mv rfl) (hd 54 rfl) ?_; refine jo_l (ly_mv rfl) (hd 55 rfl) ?_
    refine jo_call Try.f22 (Compare_s a b (by omega) (by omega)) rfl Try.func22 rfl rfl (ovL_cons rfl (ovL_cons rfl ovL_nil)) (.cons .n (.cons .n .nil)) (hd 56 rfl) ?_ (fun ch hp => by simp at hp)
    rintro y hy; injection hy with hy; subst hy; refine jo_l (ly_mv rfl) (hd 57 rfl) ?_; refine jo_l (ly_tt (ly_eq rfl rfl) (ord_is hlb hb2 ua ub)) (hd 58 rfl) ?_; refine jo_l (ly_mv rfl) (hd 59 rfl) ?_
    refine jo_callg Try.f15 59 rfl rfl (lives5_s) rfl Try.func15 rfl rfl ovL_nil .nil (hd 60 rfl) ?_ (fun ch hp => by simp at hp)
    rintro y hy; injection hy with hy; subst hy; refine jo_l (ly_pick_t rfl rfl) (hd 61 rfl) ?_; refine jo_l (ly_as rfl) (hd 6 rfl) ?_; refine jo_nil ?_; refine jc_ret ?_
    refine ⟨_, _, (.cons rfl .nil), .b, ?_⟩
    exact rfl
end Go.Proofs.Ytcfdclehmpfkcaa.Vc

/- The law NumeralOrders of every input of bulk at most 1048576: it returns true, and the input reads as it did. -/
namespace Go.Proofs.Ytcfdclehmpfkcaa.numeralOrders
open Go Go.ChangeShapes Go.WideShapes Go.ChangeAt Go.RowKit
open Go.ChangeMaps (open_string shut_string)

theorem own : ownKnob Try.prog.godebug = none := by kernel_rfl
theorem laidOut : laidOutB Try.prog = true := by kernel_rfl
set_option maxRecDepth 100000 in
theorem lifted (os : Os) (started : os.Started) (H : Type) (enc : TypeId × Value → H) (F : Stop.Interp) :
    ReturnsInHanded {} Try.checked os 5 .any ((Rows.OpenSpec.upto Rows.numeralOrdersSpec).pre6 enc Try.prog Try.f5 Rows.numeralOrdersUptoRow.domain false) (((Rows.OpenSpec.upto Rows.numeralOrdersSpec).at F).post enc Try.prog Try.f5 false true false false) := by
  refine returnsInHanded_of_cond (C := Try.checked) (s := Rows.OpenSpec.upto Rows.numeralOrdersSpec) (k := Rows.uptoSmall) rfl own started (by kernel_rfl) Try.func5
    (OpenSpec.witness (enc := enc) (C := Try.checked) (s := Rows.OpenSpec.upto Rows.numeralOrdersSpec) (k := Rows.uptoSmall) rfl false ⟨#[], #[.slice none 0 0, .slice none 0 0, .int .i64 0], []⟩ 8 (by kernel_rfl) (by kernel_rfl) (by kernel_rfl)
      (x := ([.nil, .nil, .lit (.int .i64 0)], [], [])) (by kernel_rfl) rfl (by kernel_rfl)) ?_
  intro W base args ds gs before hval0 hW _ hk _
  have hval : ∀ (j : Nat) t v, Try.f5.params[j]? = some t → args[j]? = some v → Value.okWide Try.prog W .any base t v := hval0
  have hW' := hW
  obtain ⟨p, q, hA0, hV, rfl, hfz, hnd⟩ := hW
  have hA : DataW.TrodAll enc Try.prog W 0 (fun _ => true) true Try.f5.params.toList args.toList ds p := hA0
  rw [Try.params5] at hA hval
  obtain ⟨v0, vs0, d0, ds0, p0, q0, hargs, rfl, rfl, h0, r0⟩ := trodAll_cons hA
  obtain ⟨v1, vs1, d1, ds1, p1, q1, rfl, rfl, rfl, h1, r1⟩ := trodAll_cons r0
  obtain ⟨v2, vs2, d2, ds2, p2, q2, rfl, rfl, rfl, h2, r2⟩ := trodAll_cons r1
  obtain ⟨rfl, rfl, rfl⟩ := trodAll_nil r2
  obtain rfl : args = #[v0, v1, v2] := by cases args; simp_all
  obtain ⟨rfl, rfl⟩ := trodVars_none hV
  have hk0 := h0
  obtain ⟨l0, rel0, hb0, ul0⟩ := Vc.openN28 (hval 0 24 v0 rfl rfl) h0
  have hk1 := h1
  obtain ⟨l1, rel1, hb1, ul1⟩ := Vc.openN28 (hval 1 24 v1 rfl rfl) h1
  obtain ⟨a2, rfl, rfl, rfl, w2⟩ := open_int Try.underlying3 (hval 2 3 v2 rfl rfl) h2
  clear hA0 hval0
  simp only [List.append_nil] at hW' hk
  refine (Vc.spec_calls (vals := [v0, v1, .int .i64 a2]) (Vc.NumeralOrders_s l0 l1 a2 (Vc.short2n hk hb0 hb1) ul0 ul1 (by have := w2; simp [Lit.wf, IntKind.min, IntKind.max, IntKind.signed, IntKind.bits] at this; omega) (by have := w2; simp [Lit.wf, IntKind.min, IntKind.max, IntKind.signed, IntKind.bits] at this; omega)) W (⟨_, _, rfl, rel0, ⟨_, _, rfl, rel1, ⟨_, _, rfl, rfl, rfl⟩⟩⟩)).mono fun e W' ⟨he, hb⟩ => ?_; subst he
  have hlt : ∀ x ∈ p0 ++ p1, x.block < W.heap.size := fun x hx => by simpa using hW'.lt x (by simpa using hx)
  exact ⟨_, rfl, Vc.post_of_below (pa := (p0 ++ (p1 ++ ([] ++ [])))) (pv := []) hW' (fun _ _ _ => (trodAll_cons_mk (shut_bool Try.underlying4 _) trodAll_mk0)) (fun sp hsp => (trodAll_cons_mk (Go.WideElems.Trod_stays laidOut (by kernel_rfl) (of_decide_eq_true (by kernel_rfl)) hk0 (fun x hx => hb.same (hlt x (by simp [hx]))) (fun x hx => hsp x (by simp [hx]))) (trodAll_cons_mk (Go.WideElems.Trod_stays laidOut (by kernel_rfl) (of_decide_eq_true (by kernel_rfl)) hk1 (fun x hx => hb.same (hlt x (by simp [hx]))) (fun x hx => hsp x (by simp [hx]))) (trodAll_cons_mk (shut_int Try.underlying3 w2) trodAll_mk0)))) (fun _ _ => rfl) (by simp) hb⟩

theorem proved : Rows.NumeralOrdersUptoSaid :=
  OpenClaim.holds_of_cond 5 Try.f5 rfl rfl rfl rfl rfl rfl rfl ⟨rfl, rfl, rfl, rfl, rfl⟩ rfl rfl rfl rfl rfl (by kernel_rfl) Try.func5 (by kernel_rfl)
    (of_decide_eq_true (by kernel_rfl)) (by unfold Func.isWrapper; first | (rw [if_pos (by decide +kernel)]; kernel_rfl) | (rw [if_neg (by decide +kernel)]; exact ⟨rfl, rfl⟩))
    (fun os started H enc _ F => lifted os started H enc F)
end Go.Proofs.Ytcfdclehmpfkcaa.numeralOrders
