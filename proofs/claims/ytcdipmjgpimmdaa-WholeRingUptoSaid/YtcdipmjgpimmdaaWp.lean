/- Contract of mul.halved. -/
import Derived.Test.YtcdipmjgpimmdaaWo
set_option linter.unusedVariables false
set_option linter.unusedSimpArgs false
namespace Go.Proofs.Ytcdipmjgpimmdaa.Vc
open Go Go.RowKit
set_option maxHeartbeats 4000000 in
theorem halved_ih (cut : Nat) (hc4 : 4 ≤ cut) (hcm : cut < 1099511627776) (a b : List Int) (hla : a.length < 549755813888) (hlb : b.length < 549755813888) (ua : u64s a) (ub : u64s b) (ih : ∀ a' b' : List Int, a'.length + b'.length < a.length + b.length → a'.length < 549755813888 → b'.length < 549755813888 → u64s a' → u64s b' → Spec Try.prog 92 [.n false .u64 a', .n false .u64 b', .i .i64 (cut : Int)] (fun o => ∃ r, o = .ret (.n true .u64 r) ∧ u64s r ∧ r.length ≤ a'.length + b'.length + 1 ∧ vl r = vl a' * vl b')) : Spec Try.prog 92 [.n false .u64 a, .n false .u64 b, .i .i64 (cut : Int)] (fun o => ∃ r, o = .ret (.n true .u64 r) ∧ u64s r ∧ r.length ≤ a.length + b.length + 1 ∧ vl r = vl a * vl b) := by
  refine spec_of' [(0, .n false .u64 a), (1, .n false .u64 b), (2, .i .i64 (cut : Int))] rfl Try.func92 rfl (Nat.le_of_ble_eq_true rfl) fun Γ hN hds hL hR => ?_
  have hd : ∀ d, Nat.blt d 124 = true → d < Γ.N := fun d h => by rw [hN]; exact Nat.le_of_ble_eq_true h
  refine jc_seq ?_
  refine jc_region ?_
  refine jo_l (ly_as rfl) (hd 6 rfl) ?_
  refine jo_nil ?_
  refine jc_meetH (G := List Int × List Int) (fun g => g.2.length ≤ g.1.length ∧ g.1.length + g.2.length = a.length + b.length ∧ u64s g.1 ∧ u64s g.2 ∧ vl g.1 * vl g.2 = vl a * vl b ∧ g.1.length < 549755813888 ∧ g.2.length < 549755813888) (fun g => [(0, .n false .u64 g.1), (1, .n false .u64 g.2), (17, .u), (18, .u), (19, .u), (20, .u), (21, .u), (22, .u), (23, .u)]) ?_ ?_
  · refine jc_seq ?_
    refine jc_region ?_
    refine jo_l (ly_mv rfl) (hd 17 rfl) ?_
    refine jo_l (ly_lenn sl28 rfl) (hd 18 rfl) ?_
    refine jo_l (ly_mv rfl) (hd 19 rfl) ?_
    refine jo_l (ly_lenn sl28 rfl) (hd 20 rfl) ?_
    refine jo_l (ly_lt rfl rfl) (hd 21 rfl) ?_
    refine jo_nil ?_
    refine jc_if rfl (fun h1 => ?_) (fun h1 => ?_)
    · refine jc_region ?_
      refine jo_l (ly_mv rfl) (hd 22 rfl) ?_
      refine jo_l (ly_mv rfl) (hd 23 rfl) ?_
      refine jo_l (ly_as rfl) (hd 0 rfl) ?_
      refine jo_l (ly_as rfl) (hd 1 rfl) ?_
      refine jo_nil ?_
      refine ⟨(b, a), ?_, rfl, cov_n 9 rfl rfl ?_⟩
      · exact ⟨by show a.length ≤ b.length; omega, by show b.length + a.length = _; omega, ub, ua, by show vl b * vl a = _; rw [Int.mul_comm], hlb, hla⟩
      · exact (.cons rfl (.cons rfl (.u (.u (.u (.u (.u (.u (.u .nil)))))))))
    · refine jc_skip ?_
      refine ⟨(a, b), ?_, rfl, cov_n 5 rfl rfl ?_⟩
      · exact ⟨by show b.length ≤ a.length; omega, rfl, ua, ub, rfl, hla, hlb⟩
      · exact (.cons rfl (.cons rfl (.u (.u (.u (.u (.u (.u (.u .nil)))))))))
  · rintro ⟨X, Y⟩ ⟨hm1, hm2, uX, uY, hm3, hX, hY⟩
    dsimp only at hm1 hm2 uX uY hm3 hX hY ⊢
    have hXY := vl_mul_lt uX uY
    have hXY2 := pB_mono (show X.length + Y.length ≤ X.length + Y.length + 1 by omega)
    have x0 := vl_nonneg uX
    have y0 := vl_nonneg uY
    refine jc_seq ?_
    refine jc_seq ?_
    refine jc_region ?_
    refine jo_l (ly_mv rfl) (hd 24 rfl) ?_
    refine jo_l (ly_lenn sl28 rfl) (hd 25 rfl) ?_
    refine jo_l (ly_mv rfl) (hd 26 rfl) ?_
    refine jo_l (ly_lt rfl rfl) (hd 27 rfl) ?_
    refine jo_nil ?_
    refine jc_if rfl (fun h2 => ?_) (fun h2 => ?_)
    · refine jc_seq ?_
      refine jc_region ?_
      refine jo_l (ly_mv rfl) (hd 28 rfl) ?_
      refine jo_l (ly_mv rfl) (hd 29 rfl) ?_
      refine jo_call Try.f102 (school_s X Y (by omega) (by omega) uX uY) rfl Try.func102 rfl rfl (ovL_cons rfl (ovL_cons rfl ovL_nil)) (.cons .n (.cons .n .nil)) (hd 30 rfl) ?_ (fun ch hp => by simp at hp)
      rintro y ⟨rs, hy, urs, lrs, vrs⟩
      injection hy with hy
      subst hy
      refine jo_l (ly_as rfl) (hd 6 rfl) ?_
      refine jo_nil ?_
      refine jc_ret ?_
      refine ⟨_, _, (.cons rfl .nil), .n, ?_⟩
      exact ⟨rs, rfl, urs, by omega, by rw [vrs, hm3]⟩
    · refine jc_skip ?_
      refine jc_seq ?_
      obtain ⟨k, hk⟩ : ∃ k, (X.length + 1) / 2 = k := ⟨_, rfl⟩
      have pk := pB_pos k
      refine jc_region ?_
      refine jo_l (ly_mv rfl) (hd 31 rfl) ?_
      refine jo_l (ly_lenn sl28 rfl) (hd 32 rfl) ?_
      refine jo_l (ly_add rfl rfl (r := ((X.length + 1 : Nat) : Int)) (by rw [wrap_i64 (by omega) (by omega)]; omega)) (hd 33 rfl) ?_
      refine jo_l (ly_quo rfl rfl (by decide) (r := (k : Int)) (by show IntKind.i64.wrap (Int.tdiv ((X.length + 1 : Nat) : Int) 2) = _; rw [half_k (by omega), hk])) (hd 34 rfl) ?_
      refine jo_l (ly_as rfl) (hd 7 rfl) ?_
      refine jo_nil ?_
      refine jc_seq ?_
      refine jc_seq ?_
      refine jc_region ?_
      refine jo_l (ly_mv rfl) (hd 35 rfl) ?_
      refine jo_l (ly_lenn sl28 rfl) (hd 36 rfl) ?_
      refine jo_l (ly_mv rfl) (hd 37 rfl) ?_
      refine jo_l (ly_le rfl rfl) (hd 38 rfl) ?_
      refine jo_nil ?_
      refine jc_if rfl (fun h3 => ?_) (fun h3 => ?_)
      · refine jc_seq ?_
        refine jc_region ?_
        refine jo_l (ly_mv rfl) (hd 39 rfl) ?_
        refine jo_l (ly_lenn sl28 rfl) (hd 40 rfl) ?_
        refine jo_l (ly_mv rfl) (hd 41 rfl) ?_
        refine jo_l (ly_lenn sl28 rfl) (hd 42 rfl) ?_
        refine jo_l (ly_add rfl rfl (r := ((X.length + Y.length : Nat) : Int)) (by rw [wrap_i64 (by omega) (by omega)]; omega)) (hd 43 rfl) ?_
        refine jo_l (ly_add rfl rfl (r := ((X.length + Y.length + 1) : Nat)) (by rw [wrap_i64 (by omega) (by omega)]; omega)) (hd 44 rfl) ?_
        refine jo_h (hy_mk (m := (X.length + Y.length + 1)) el28 rfl rfl rfl (by show 8 * (X.length + Y.length + 1) ≤ _; omega) (by unfold maxLen; omega) rfl) (hd 45 rfl) ?_
        refine jo_l (ly_as rfl) (hd 8 rfl) ?_
        refine jo_nil ?_
        refine jc_seq ?_
        refine jc_region ?_
        refine jo_l (ly_mv rfl) (hd 46 rfl) ?_
        refine jo_l (ly_mv rfl) (hd 47 rfl) ?_
        refine jo_l (ly_mv rfl) (hd 48 rfl) ?_
        refine jo_call Try.f104 (part_s X 0 k (by omega) (by omega) (by omega) uX) rfl Try.func104 rfl rfl (ovL_cons rfl (ovL_cons rfl (ovL_cons rfl ovL_nil))) (.cons .n (.cons .i (.cons .i .nil))) (hd 49 rfl) ?_ (fun ch hp => by simp at hp)
        rintro y ⟨al, hy, ual, lal, val⟩
        injection hy with hy
        subst hy
        refine jo_l (ly_mv rfl) (hd 50 rfl) ?_
        refine jo_l (ly_mv rfl) (hd 51 rfl) ?_
        refine jo_call Try.f92 (ih al Y (by omega) (by omega) (by omega) ual uY) rfl Try.func92 rfl rfl (ovL_cons rfl (ovL_cons rfl (ovL_cons rfl ovL_nil))) (.cons .n (.cons .n (.cons .i .nil))) (hd 52 rfl) ?_ (fun ch hp => by simp at hp)
        rintro y ⟨p1, hy, up1, lp1, vp1⟩
        injection hy with hy
        subst hy
        have a0 := vl_nonneg ual
        refine jo_callM Try.f103 (addAt_s (List.replicate (X.length + Y.length + 1) 0) p1 (X.length + Y.length + 1) 0 List.length_replicate (by omega) (by omega) (by omega) (u64s_zeros _) up1 (by
            have h1 := split_val (l := X) k
            rw [← val] at h1
            have h2 := vl_nonneg (u64s_drop (u64s_take uX X.length) k)
            have h3 := Int.mul_nonneg (Int.le_of_lt pk) h2
            have h4 := Int.mul_le_mul_of_nonneg_right (show vl al ≤ vl X by omega) y0
            rw [vl_zeros, vp1]; simp only [pB, Int.one_mul, Int.zero_add] at *; omega)) rfl Try.func103 rfl rfl (ovL_cons rfl (ovL_cons rfl (ovL_cons rfl ovL_nil))) (.cons (.same rfl) (.cons .n (.cons (.same rfl) .nil))) (freshless_cons ints_noFr freshless_nil) (hd 53 rfl) ?_ (fun ch H2 hp => by simp at hp)
        rintro y H2 ⟨hy, r1, rfl, lr1, ur1, vr1⟩
        injection hy with hy
        subst hy
        refine jo_nil ?_
        refine jc_seq ?_
        refine jc_region ?_
        refine jo_l (ly_mv rfl) (hd 54 rfl) ?_
        refine jo_l (ly_mv rfl) (hd 55 rfl) ?_
        refine jo_l (ly_mv rfl) (hd 56 rfl) ?_
        refine jo_l (ly_mv rfl) (hd 57 rfl) ?_
        refine jo_l (ly_lenn sl28 rfl) (hd 58 rfl) ?_
        refine jo_call Try.f104 (part_s X k X.length (by omega) (by omega) (by omega) uX) rfl Try.func104 rfl rfl (ovL_cons rfl (ovL_cons rfl (ovL_cons rfl ovL_nil))) (.cons .n (.cons .i (.cons .i .nil))) (hd 59 rfl) ?_ (fun ch hp => by simp at hp)
        rintro y ⟨ah, hy, uah, lah, vah⟩
        injection hy with hy
        subst hy
        refine jo_l (ly_mv rfl) (hd 60 rfl) ?_
        refine jo_l (ly_mv rfl) (hd 61 rfl) ?_
        refine jo_call Try.f92 (ih ah Y (by omega) (by omega) (by omega) uah uY) rfl Try.func92 rfl rfl (ovL_cons rfl (ovL_cons rfl (ovL_cons rfl ovL_nil))) (.cons .n (.cons .n (.cons .i .nil))) (hd 62 rfl) ?_ (fun ch hp => by simp at hp)
        rintro y ⟨p2, hy, up2, lp2, vp2⟩
        injection hy with hy
        subst hy
        have hv : vl r1 + pB k * vl p2 = vl X * vl Y := by
          have h1 := split_val (l := X) k
          rw [← val, ← vah] at h1
          rw [vr1, vp1, vp2, vl_zeros, ← h1, Int.add_mul, Int.mul_assoc (pB k)]
          simp only [pB, Int.one_mul, Int.zero_add]
        refine jo_l (ly_mv rfl) (hd 63 rfl) ?_
        refine jo_callM Try.f103 (addAt_s r1 p2 (X.length + Y.length + 1) k lr1 (by omega) (by omega) (by omega) ur1 up2 (by rw [hv]; omega)) rfl Try.func103 rfl rfl (ovL_cons rfl (ovL_cons rfl (ovL_cons rfl ovL_nil))) (.cons (.same rfl) (.cons .n (.cons (.same rfl) .nil))) (freshless_cons ints_noFr freshless_nil) (hd 64 rfl) ?_ (fun ch H2 hp => by simp at hp)
        rintro y H2 ⟨hy, rf, rfl, lrf, urf, vrf⟩
        injection hy with hy
        subst hy
        refine jo_nil ?_
        refine jc_seq ?_
        refine jc_region ?_
        refine jo_l (ly_mv rfl) (hd 65 rfl) ?_
        refine jo_l (ly_as rfl) (hd 6 rfl) ?_
        refine jo_nil ?_
        refine jc_ret ?_
        refine ⟨_, _, (.cons rfl .nil), (.o (l := rf) rfl (by omega) rfl), ?_⟩
        rw [List.drop_zero, List.take_of_length_le (by omega)]
        exact ⟨rf, rfl, urf, by omega, by rw [vrf, hv, hm3]⟩
      · refine jc_skip ?_
        refine jc_seq ?_
        refine jc_region ?_
        refine jo_l (ly_mv rfl) (hd 66 rfl) ?_
        refine jo_l (ly_mv rfl) (hd 67 rfl) ?_
        refine jo_call Try.f104 (part_s X 0 k (by omega) (by omega) (by omega) uX) rfl Try.func104 rfl rfl (ovL_cons rfl (ovL_cons rfl (ovL_cons rfl ovL_nil))) (.cons .n (.cons .i (.cons .i .nil))) (hd 68 rfl) ?_ (fun ch hp => by simp at hp)
        rintro y ⟨al, hy, ual, lal, val⟩
        injection hy with hy
        subst hy
        refine jo_l (ly_mv rfl) (hd 69 rfl) ?_
        refine jo_l (ly_mv rfl) (hd 70 rfl) ?_
        refine jo_l (ly_mv rfl) (hd 71 rfl) ?_
        refine jo_l (ly_lenn sl28 rfl) (hd 72 rfl) ?_
        refine jo_call Try.f104 (part_s X k X.length (by omega) (by omega) (by omega) uX) rfl Try.func104 rfl rfl (ovL_cons rfl (ovL_cons rfl (ovL_cons rfl ovL_nil))) (.cons .n (.cons .i (.cons .i .nil))) (hd 73 rfl) ?_ (fun ch hp => by simp at hp)
        rintro y ⟨ah, hy, uah, lah, vah⟩
        injection hy with hy
        subst hy
        refine jo_l (ly_mv rfl) (hd 74 rfl) ?_
        refine jo_l (ly_mv rfl) (hd 75 rfl) ?_
        refine jo_call Try.f104 (part_s Y 0 k (by omega) (by omega) (by omega) uY) rfl Try.func104 rfl rfl (ovL_cons rfl (ovL_cons rfl (ovL_cons rfl ovL_nil))) (.cons .n (.cons .i (.cons .i .nil))) (hd 76 rfl) ?_ (fun ch hp => by simp at hp)
        rintro y ⟨bl, hy, ubl, lbl, vbl⟩
        injection hy with hy
        subst hy
        refine jo_l (ly_mv rfl) (hd 77 rfl) ?_
        refine jo_l (ly_mv rfl) (hd 78 rfl) ?_
        refine jo_l (ly_mv rfl) (hd 79 rfl) ?_
        refine jo_l (ly_lenn sl28 rfl) (hd 80 rfl) ?_
        refine jo_call Try.f104 (part_s Y k Y.length (by omega) (by omega) (by omega) uY) rfl Try.func104 rfl rfl (ovL_cons rfl (ovL_cons rfl (ovL_cons rfl ovL_nil))) (.cons .n (.cons .i (.cons .i .nil))) (hd 81 rfl) ?_ (fun ch hp => by simp at hp)
        rintro y ⟨bh, hy, ubh, lbh, vbh⟩
        injection hy with hy
        subst hy
        refine jo_l (ly_as rfl) (hd 9 rfl) ?_
        refine jo_l (ly_as rfl) (hd 10 rfl) ?_
        refine jo_l (ly_as rfl) (hd 11 rfl) ?_
        refine jo_l (ly_as rfl) (hd 12 rfl) ?_
        refine jo_nil ?_
        refine jc_seq ?_
        refine jc_region ?_
        refine jo_l (ly_mv rfl) (hd 82 rfl) ?_
        refine jo_l (ly_mv rfl) (hd 83 rfl) ?_
        refine jo_l (ly_mv rfl) (hd 84 rfl) ?_
        refine jo_call Try.f92 (ih al bl (by omega) (by omega) (by omega) ual ubl) rfl Try.func92 rfl rfl (ovL_cons rfl (ovL_cons rfl (ovL_cons rfl ovL_nil))) (.cons .n (.cons .n (.cons .i .nil))) (hd 85 rfl) ?_ (fun ch hp => by simp at hp)
        rintro y ⟨lo, hy, ulo, llo, vlo⟩
        injection hy with hy
        subst hy
        refine jo_l (ly_mv rfl) (hd 86 rfl) ?_
        refine jo_l (ly_mv rfl) (hd 87 rfl) ?_
        refine jo_l (ly_mv rfl) (hd 88 rfl) ?_
        refine jo_call Try.f92 (ih ah bh (by omega) (by omega) (by omega) uah ubh) rfl Try.func92 rfl rfl (ovL_cons rfl (ovL_cons rfl (ovL_cons rfl ovL_nil))) (.cons .n (.cons .n (.cons .i .nil))) (hd 89 rfl) ?_ (fun ch hp => by simp at hp)
        rintro y ⟨hi, hy, uhi, lhi, vhi⟩
        injection hy with hy
        subst hy
        refine jo_l (ly_as rfl) (hd 13 rfl) ?_
        refine jo_l (ly_as rfl) (hd 14 rfl) ?_
        refine jo_nil ?_
        refine jc_seq ?_
        refine jc_region ?_
        refine jo_l (ly_mv rfl) (hd 90 rfl) ?_
        refine jo_l (ly_mv rfl) (hd 91 rfl) ?_
        refine jo_call Try.f106 (sum_s al ah (by omega) (by omega) ual uah) rfl Try.func106 rfl rfl (ovL_cons rfl (ovL_cons rfl ovL_nil)) (.cons .n (.cons .n .nil)) (hd 92 rfl) ?_ (fun ch hp => by simp at hp)
        rintro y ⟨s1, hy, us1, ls1, vs1⟩
        injection hy with hy
        subst hy
        have ts1 := trm_len s1
        refine jo_call Try.f86 (Norm_s s1 (by omega)) rfl Try.func86 rfl rfl (ovL_cons rfl ovL_nil) (.cons .n .nil) (hd 93 rfl) ?_ (fun ch hp => by simp at hp)
        rintro y hy; injection hy with hy; subst hy
        refine jo_l (ly_mv rfl) (hd 94 rfl) ?_
        refine jo_l (ly_mv rfl) (hd 95 rfl) ?_
        refine jo_call Try.f106 (sum_s bl bh (by omega) (by omega) ubl ubh) rfl Try.func106 rfl rfl (ovL_cons rfl (ovL_cons rfl ovL_nil)) (.cons .n (.cons .n .nil)) (hd 96 rfl) ?_ (fun ch hp => by simp at hp)
        rintro y ⟨s2, hy, us2, ls2, vs2⟩
        injection hy with hy
        subst hy
        have ts2 := trm_len s2
        refine jo_call Try.f86 (Norm_s s2 (by omega)) rfl Try.func86 rfl rfl (ovL_cons rfl ovL_nil) (.cons .n .nil) (hd 97 rfl) ?_ (fun ch hp => by simp at hp)
        rintro y hy; injection hy with hy; subst hy
        refine jo_l (ly_mv rfl) (hd 98 rfl) ?_
        refine jo_call Try.f92 (ih (trm s1) (trm s2) (by omega) (by omega) (by omega) (u64s_trm us1) (u64s_trm us2)) rfl Try.func92 rfl rfl (ovL_cons rfl (ovL_cons rfl (ovL_cons rfl ovL_nil))) (.cons .n (.cons .n (.cons .i .nil))) (hd 99 rfl) ?_ (fun ch hp => by simp at hp)
        rintro y ⟨m0, hy, um0, lm0, vm0⟩
        injection hy with hy
        subst hy
        rw [vl_trm, vl_trm, vs1, vs2] at vm0
        have hle := kara_le (vl_nonneg ual) (vl_nonneg uah) (vl_nonneg ubl) (vl_nonneg ubh)
        rw [← vm0, ← vlo, ← vhi] at hle
        refine jo_l (ly_mv rfl) (hd 100 rfl) ?_
        refine jo_call Try.f105 (less_s m0 lo (by omega) (by omega) um0 ulo hle.1) rfl Try.func105 rfl rfl (ovL_cons rfl (ovL_cons rfl ovL_nil)) (.cons .n (.cons .n .nil)) (hd 101 rfl) ?_ (fun ch hp => by simp at hp)
        rintro y ⟨m1, hy, um1, lm1, vm1⟩
        injection hy with hy
        subst hy
        refine jo_l (ly_mv rfl) (hd 102 rfl) ?_
        refine jo_call Try.f105 (less_s m1 hi (by omega) (by omega) um1 uhi (by rw [vm1]; exact hle.2)) rfl Try.func105 rfl rfl (ovL_cons rfl (ovL_cons rfl ovL_nil)) (.cons .n (.cons .n .nil)) (hd 103 rfl) ?_ (fun ch hp => by simp at hp)
        rintro y ⟨m2, hy, um2, lm2, vm2⟩
        injection hy with hy
        subst hy
        have hA : vl al + pB k * vl ah = vl X := by rw [val, vah]; exact split_val k
        have hB : vl bl + pB k * vl bh = vl Y := by rw [vbl, vbh]; exact split_val k
        have hmd : vl m2 = (vl al + vl ah) * (vl bl + vl bh) - vl lo - vl hi := by rw [vm2, vm1, vm0]
        have hkr := kara hA hB vlo vhi hmd
        have g1 := Int.mul_nonneg (Int.le_of_lt pk) (vl_nonneg um2)
        have g2 := Int.mul_nonneg (Int.mul_nonneg (Int.le_of_lt pk) (Int.le_of_lt pk)) (vl_nonneg uhi)
        refine jo_l (ly_as rfl) (hd 15 rfl) ?_
        refine jo_nil ?_
        refine jc_seq ?_
        refine jc_region ?_
        refine jo_l (ly_mv rfl) (hd 104 rfl) ?_
        refine jo_l (ly_lenn sl28 rfl) (hd 105 rfl) ?_
        refine jo_l (ly_mv rfl) (hd 106 rfl) ?_
        refine jo_l (ly_lenn sl28 rfl) (hd 107 rfl) ?_
        refine jo_l (ly_add rfl rfl (r := ((X.length + Y.length : Nat) : Int)) (by rw [wrap_i64 (by omega) (by omega)]; omega)) (hd 108 rfl) ?_
        refine jo_l (ly_add rfl rfl (r := ((X.length + Y.length + 1) : Nat)) (by rw [wrap_i64 (by omega) (by omega)]; omega)) (hd 109 rfl) ?_
        refine jo_h (hy_mk (m := (X.length + Y.length + 1)) el28 rfl rfl rfl (by show 8 * (X.length + Y.length + 1) ≤ _; omega) (by unfold maxLen; omega) rfl) (hd 110 rfl) ?_
        refine jo_l (ly_as rfl) (hd 16 rfl) ?_
        refine jo_nil ?_
        refine jc_seq ?_
        refine jc_region ?_
        refine jo_l (ly_mv rfl) (hd 111 rfl) ?_
        refine jo_l (ly_mv rfl) (hd 112 rfl) ?_
        refine jo_callM Try.f103 (addAt_s (List.replicate (X.length + Y.length + 1) 0) lo (X.length + Y.length + 1) 0 List.length_replicate (by omega) (by omega) (by omega) (u64s_zeros _) ulo (by rw [vl_zeros]; simp only [pB, Int.one_mul, Int.zero_add] at *; omega)) rfl Try.func103 rfl rfl (ovL_cons rfl (ovL_cons rfl (ovL_cons rfl ovL_nil))) (.cons (.same rfl) (.cons .n (.cons (.same rfl) .nil))) (freshless_cons ints_noFr freshless_nil) (hd 113 rfl) ?_ (fun ch H2 hp => by simp at hp)
        rintro y H2 ⟨hy, r1, rfl, lr1, ur1, vr1⟩
        injection hy with hy
        subst hy
        have e1 : vl r1 = vl lo := by rw [vr1, vl_zeros]; simp only [pB, Int.one_mul, Int.zero_add]
        refine jo_nil ?_
        refine jc_seq ?_
        refine jc_region ?_
        refine jo_l (ly_mv rfl) (hd 114 rfl) ?_
        refine jo_l (ly_mv rfl) (hd 115 rfl) ?_
        refine jo_l (ly_mv rfl) (hd 116 rfl) ?_
        refine jo_callM Try.f103 (addAt_s r1 m2 (X.length + Y.length + 1) k lr1 (by omega) (by omega) (by omega) ur1 um2 (by rw [e1]; omega)) rfl Try.func103 rfl rfl (ovL_cons rfl (ovL_cons rfl (ovL_cons rfl ovL_nil))) (.cons (.same rfl) (.cons .n (.cons (.same rfl) .nil))) (freshless_cons ints_noFr freshless_nil) (hd 117 rfl) ?_ (fun ch H2 hp => by simp at hp)
        rintro y H2 ⟨hy, r2, rfl, lr2, ur2, vr2⟩
        injection hy with hy
        subst hy
        refine jo_nil ?_
        refine jc_seq ?_
        refine jc_region ?_
        refine jo_l (ly_mv rfl) (hd 118 rfl) ?_
        refine jo_l (ly_mv rfl) (hd 119 rfl) ?_
        refine jo_l (ly_mv rfl) (hd 120 rfl) ?_
        refine jo_l (ly_mul rfl rfl (r := ((2 * k : Nat) : Int)) (by rw [wrap_i64 (by omega) (by omega)]; omega)) (hd 121 rfl) ?_
        refine jo_callM Try.f103 (addAt_s r2 hi (X.length + Y.length + 1) (2 * k) lr2 (by omega) (by omega) (by omega) ur2 uhi (by rw [vr2, e1, show 2 * k = k + k by omega, pB_add]; omega)) rfl Try.func103 rfl rfl (ovL_cons rfl (ovL_cons rfl (ovL_cons rfl ovL_nil))) (.cons (.same rfl) (.cons .n (.cons (.same rfl) .nil))) (freshless_cons ints_noFr freshless_nil) (hd 122 rfl) ?_ (fun ch H2 hp => by simp at hp)
        rintro y H2 ⟨hy, rf, rfl, lrf, urf, vrf⟩
        injection hy with hy
        subst hy
        refine jo_nil ?_
        refine jc_seq ?_
        refine jc_region ?_
        refine jo_l (ly_mv rfl) (hd 123 rfl) ?_
        refine jo_l (ly_as rfl) (hd 6 rfl) ?_
        refine jo_nil ?_
        refine jc_ret ?_
        refine ⟨_, _, (.cons rfl .nil), (.o (l := rf) rfl (by omega) rfl), ?_⟩
        rw [List.drop_zero, List.take_of_length_le (by omega)]
        exact ⟨rf, rfl, urf, by omega, by rw [vrf, vr2, e1, show 2 * k = k + k by omega, pB_add, hkr, hm3]⟩

theorem halved_s (cut : Nat) (hc4 : 4 ≤ cut) (hcm : cut < 1099511627776) (a b : List Int) (hla : a.length < 549755813888) (hlb : b.length < 549755813888) (ua : u64s a) (ub : u64s b) : Spec Try.prog 92 [.n false .u64 a, .n false .u64 b, .i .i64 (cut : Int)] (fun o => ∃ r, o = .ret (.n true .u64 r) ∧ u64s r ∧ r.length ≤ a.length + b.length + 1 ∧ vl r = vl a * vl b) := by
  induction hn : a.length + b.length using Nat.strongRecOn generalizing a b with
  | _ n ih =>
    subst hn
    exact halved_ih cut hc4 hcm a b hla hlb ua ub fun a' b' h h1 h2 h3 h4 => ih _ (by omega) a' b' h1 h2 h3 h4 rfl
end Go.Proofs.Ytcdipmjgpimmdaa.Vc
