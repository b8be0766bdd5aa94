/- Powers and shifts of whole numbers are what the document defines. Texts joined: Wp, Wq, Wr, Ws, Wt, Wv, Wx, Wy, Wz, Ya, Yb, Ye, Yg, Yh, Yi, Yj, Yk, Yl, Ym, Yo, Yp, Pa, Pb, Pc, Pd, Pe, Pf, Pg, Ph, Pi, Pj, Pk, Pl, Pm, Pp, Pq, Pr, Pt, Pv, Pw, Px, Py, Pz. -/
import Derived.Test.YteopohdkceelkaaDoorK4
set_option linter.unusedVariables false
set_option linter.unusedSimpArgs false
set_option maxHeartbeats 4000000
namespace Go.Proofs.YteopohdkceelkaaDoor.Vc
open Go Go.RowKit
theorem Qb (cut : Nat) (hc4 : 4 ≤ cut) (hcm : cut < 1099511627776) (a b : List Int) (hla : a.length < 549755813888) (hlb : b.length < 549755813888) (ua : Az a) (ub : Az b) (ih : ∀ a' b' : List Int, a'.length + b'.length < a.length + b.length → a'.length < 549755813888 → b'.length < 549755813888 → Az a' → Az b' → Spec Tryd.prog 57 [.n false .u64 a', .n false .u64 b', .i .i64 (cut : Int)] (fun o => ∃ r, o = .ret (.n true .u64 r) ∧ Az r ∧ r.length ≤ a'.length + b'.length + 1 ∧ vl r = vl a' * vl b')) : Spec Tryd.prog 57 [.n false .u64 a, .n false .u64 b, .i .i64 (cut : Int)] (fun o => ∃ r, o = .ret (.n true .u64 r) ∧ Az r ∧ r.length ≤ a.length + b.length + 1 ∧ vl r = vl a * vl b) := by
  refine An [(0, .n false .u64 a), (1, .n false .u64 b), (2, .i .i64 (cut : Int))] rfl Tryd.func57 rfl (zlb rfl) fun Γ hN hds hL hR => ?_
  have hd := Bu 124 hN
  refine zsr <| zas rfl (hd 6 rfl) <| Ab ?_
  refine Cx (G := List Int × List Int) (fun g => g.2.length ≤ g.1.length ∧ g.1.length + g.2.length = a.length + b.length ∧ Az g.1 ∧ Az g.2 ∧ vl g.1 * vl g.2 = vl a * vl b ∧ g.1.length < 549755813888 ∧ g.2.length < 549755813888) (fun g => [(0, .n false .u64 g.1), (1, .n false .u64 g.2), (17, .u), (18, .u), (19, .u), (20, .u), (21, .u), (22, .u), (23, .u)]) ?_ ?_
  · refine zsr <| zmv rfl (hd 17 rfl) <| Ac (Al Bj rfl) (hd 18 rfl) <| zmv rfl (hd 19 rfl) <| Ac (Al Bj rfl) (hd 20 rfl) <| Ac (Bp rfl rfl) (hd 21 rfl) <| Ab ?_
    refine Bc rfl (fun h1 => ?_) (fun h1 => ?_)
    · refine Af <| zmv rfl (hd 22 rfl) <| zmv rfl (hd 23 rfl) <| zas rfl (hd 0 rfl) <| zas rfl (hd 1 rfl) <| Ab ?_
      refine ⟨(b, a), ?_, rfl, Bb 9 rfl rfl ?_⟩
      · exact ⟨by show a.length ≤ b.length; omega, by show b.length + a.length = _; omega, ub, ua, by show vl b * vl a = _; rw [Int.mul_comm], hlb, hla⟩
      · exact (.cons rfl (.cons rfl (.v5 (.u (.u .nil)))))
    · refine Ai ?_
      refine ⟨(a, b), ?_, rfl, Bb 5 rfl rfl ?_⟩
      · exact ⟨by show b.length ≤ a.length; omega, rfl, ua, ub, rfl, hla, hlb⟩
      · exact (.cons rfl (.cons rfl (.v5 (.u (.u .nil)))))
  · rintro ⟨X, Y⟩ ⟨hm1, hm2, uX, uY, hm3, hX, hY⟩
    dsimp only at hm1 hm2 uX uY hm3 hX hY ⊢
    have hXY := N2 uX uY
    have hXY2 := Gv (show X.length + Y.length ≤ X.length + Y.length + 1 by omega)
    have x0 := Bk uX
    have y0 := Bk uY
    refine Ae <| zsr <| zmv rfl (hd 24 rfl) <| Ac (Al Bj rfl) (hd 25 rfl) <| zmv rfl (hd 26 rfl) <| Ac (Bp rfl rfl) (hd 27 rfl) <| Ab ?_
    refine Bc rfl (fun h2 => ?_) (fun h2 => ?_)
    · refine zsr <| zmv rfl (hd 28 rfl) <| zmv rfl (hd 29 rfl) ?_
      refine Aj Tryd.f68 (Rz X Y (by omega) (by omega) uX uY) rfl Tryd.func68 rfl rfl (Aa rfl (Aa rfl Ad)) (.cons .n (.cons .n .nil)) (hd 30 rfl) ?_ (fun ch hp => by simp at hp)
      rintro y ⟨rs, hy, urs, lrs, vrs⟩; injection hy with hy; subst hy; refine zas rfl (hd 6 rfl) <| Ab <| Ak ?_
      refine ⟨_, _, (.cons rfl .nil), .n, ?_⟩
      exact ⟨rs, rfl, urs, by omega, by rw [vrs, hm3]⟩
    · refine Ai <| Ae ?_
      obtain ⟨k, hk⟩ : ∃ k, (X.length + 1) / 2 = k := ⟨_, rfl⟩
      have pk := Dg k
      refine Af <| zmv rfl (hd 31 rfl) <| Ac (Al Bj rfl) (hd 32 rfl) <| Ac (Av rfl rfl (r := ((X.length + 1 : Nat) : Int)) (by rw [Ag (by omega) (by omega)]; omega)) (hd 33 rfl) <| Ac (D3 rfl rfl (by decide) (r := (k : Int)) (by show IntKind.i64.wrap (Int.tdiv ((X.length + 1 : Nat) : Int) 2) = _; rw [Zv (by omega), hk])) (hd 34 rfl) <| zas rfl (hd 7 rfl) <| Ab <| Ae <| zsr <| zmv rfl (hd 35 rfl) <| Ac (Al Bj rfl) (hd 36 rfl) <| zmv rfl (hd 37 rfl) ?_; refine Ac (Lw rfl rfl) (hd 38 rfl) <| Ab ?_
      refine Bc rfl (fun h3 => ?_) (fun h3 => ?_)
      · refine zsr <| zmv rfl (hd 39 rfl) <| Ac (Al Bj rfl) (hd 40 rfl) <| zmv rfl (hd 41 rfl) <| Ac (Al Bj rfl) (hd 42 rfl) <| Ac (Av rfl rfl (r := ((X.length + Y.length : Nat) : Int)) (by rw [Ag (by omega) (by omega)]; omega)) (hd 43 rfl) <| Ac (Av rfl rfl (r := ((X.length + Y.length + 1) : Nat)) (by rw [Ag (by omega) (by omega)]; omega)) (hd 44 rfl) <| Bl (Fp (m := (X.length + Y.length + 1)) Ns rfl rfl rfl (by show 8 * (X.length + Y.length + 1) ≤ _; omega) (by unfold maxLen; omega) rfl) (hd 45 rfl) <| zas rfl (hd 8 rfl) <| Ab <| Ae <| Af ?_; refine zmv rfl (hd 46 rfl) <| zmv rfl (hd 47 rfl) <| zmv rfl (hd 48 rfl) ?_
        refine Aj Tryd.f70 (I7 X 0 k (by omega) (by omega) (by omega) uX) rfl Tryd.func70 rfl rfl (Aa rfl (Aa rfl (Aa rfl Ad))) (.cons .n (.cons .i (.cons .i .nil))) (hd 49 rfl) ?_ (fun ch hp => by simp at hp)
        rintro y ⟨al, hy, ual, lal, val⟩; injection hy with hy; subst hy; refine zmv rfl (hd 50 rfl) <| zmv rfl (hd 51 rfl) ?_
        refine Aj Tryd.f57 (ih al Y (by omega) (by omega) (by omega) ual uY) rfl Tryd.func57 rfl rfl (Aa rfl (Aa rfl (Aa rfl Ad))) (.cons .n (.cons .n (.cons .i .nil))) (hd 52 rfl) ?_ (fun ch hp => by simp at hp)
        rintro y ⟨p1, hy, up1, lp1, vp1⟩; injection hy with hy; subst hy
        have a0 := Bk ual
        refine Fk Tryd.f69 (G2 (List.replicate (X.length + Y.length + 1) 0) p1 (X.length + Y.length + 1) 0 List.length_replicate (by omega) (by omega) (by omega) (Fe _) up1 (by
            have h1 := Ga (l := X) k
            rw [← val] at h1
            have h2 := Bk (F8 (E6 uX X.length) k)
            have h3 := Int.mul_nonneg (Int.le_of_lt pk) h2
            have h4 := Int.mul_le_mul_of_nonneg_right (show vl al ≤ vl X by omega) y0
            rw [Fd, vp1]; simp only [pB, Int.one_mul, Int.zero_add] at *; omega)) rfl Tryd.func69 rfl rfl (Aa rfl (Aa rfl (Aa rfl Ad))) (.cons (.same rfl) (.cons .n (.cons (.same rfl) .nil))) (C1 Eb C8) (hd 53 rfl) ?_ (fun ch H2 hp => by simp at hp)
        rintro y H2 ⟨hy, r1, rfl, lr1, ur1, vr1⟩; injection hy with hy; subst hy; refine Ab <| zsr <| zmv rfl (hd 54 rfl) <| zmv rfl (hd 55 rfl) <| zmv rfl (hd 56 rfl) <| zmv rfl (hd 57 rfl) <| Ac (Al Bj rfl) (hd 58 rfl) ?_
        refine Aj Tryd.f70 (I7 X k X.length (by omega) (by omega) (by omega) uX) rfl Tryd.func70 rfl rfl (Aa rfl (Aa rfl (Aa rfl Ad))) (.cons .n (.cons .i (.cons .i .nil))) (hd 59 rfl) ?_ (fun ch hp => by simp at hp)
        rintro y ⟨ah, hy, uah, lah, vah⟩; injection hy with hy; subst hy; refine zmv rfl (hd 60 rfl) <| zmv rfl (hd 61 rfl) ?_
        refine Aj Tryd.f57 (ih ah Y (by omega) (by omega) (by omega) uah uY) rfl Tryd.func57 rfl rfl (Aa rfl (Aa rfl (Aa rfl Ad))) (.cons .n (.cons .n (.cons .i .nil))) (hd 62 rfl) ?_ (fun ch hp => by simp at hp)
        rintro y ⟨p2, hy, up2, lp2, vp2⟩; injection hy with hy; subst hy
        have hv : vl r1 + pB k * vl p2 = vl X * vl Y := by
          have h1 := Ga (l := X) k
          rw [← val, ← vah] at h1
          rw [vr1, vp1, vp2, Fd, ← h1, Int.add_mul, Int.mul_assoc (pB k)]
          simp only [pB, Int.one_mul, Int.zero_add]
        refine zmv rfl (hd 63 rfl) ?_
        refine Fk Tryd.f69 (G2 r1 p2 (X.length + Y.length + 1) k lr1 (by omega) (by omega) (by omega) ur1 up2 (by rw [hv]; omega)) rfl Tryd.func69 rfl rfl (Aa rfl (Aa rfl (Aa rfl Ad))) (.cons (.same rfl) (.cons .n (.cons (.same rfl) .nil))) (C1 Eb C8) (hd 64 rfl) ?_ (fun ch H2 hp => by simp at hp)
        rintro y H2 ⟨hy, rf, rfl, lrf, urf, vrf⟩; injection hy with hy; subst hy; refine Ab <| zsr <| zmv rfl (hd 65 rfl) <| zas rfl (hd 6 rfl) <| Ab <| Ak ?_
        refine ⟨_, _, (.cons rfl .nil), (.o (l := rf) rfl (by omega) rfl), ?_⟩
        rw [List.drop_zero, List.take_of_length_le (by omega)]
        exact ⟨rf, rfl, urf, by omega, by rw [vrf, hv, hm3]⟩
      · refine Ai <| zsr <| zmv rfl (hd 66 rfl) <| zmv rfl (hd 67 rfl) ?_
        refine Aj Tryd.f70 (I7 X 0 k (by omega) (by omega) (by omega) uX) rfl Tryd.func70 rfl rfl (Aa rfl (Aa rfl (Aa rfl Ad))) (.cons .n (.cons .i (.cons .i .nil))) (hd 68 rfl) ?_ (fun ch hp => by simp at hp)
        rintro y ⟨al, hy, ual, lal, val⟩; injection hy with hy; subst hy; refine zmv rfl (hd 69 rfl) <| zmv rfl (hd 70 rfl) <| zmv rfl (hd 71 rfl) <| Ac (Al Bj rfl) (hd 72 rfl) ?_
        refine Aj Tryd.f70 (I7 X k X.length (by omega) (by omega) (by omega) uX) rfl Tryd.func70 rfl rfl (Aa rfl (Aa rfl (Aa rfl Ad))) (.cons .n (.cons .i (.cons .i .nil))) (hd 73 rfl) ?_ (fun ch hp => by simp at hp)
        rintro y ⟨ah, hy, uah, lah, vah⟩; injection hy with hy; subst hy; refine zmv rfl (hd 74 rfl) <| zmv rfl (hd 75 rfl) ?_
        refine Aj Tryd.f70 (I7 Y 0 k (by omega) (by omega) (by omega) uY) rfl Tryd.func70 rfl rfl (Aa rfl (Aa rfl (Aa rfl Ad))) (.cons .n (.cons .i (.cons .i .nil))) (hd 76 rfl) ?_ (fun ch hp => by simp at hp)
        rintro y ⟨bl, hy, ubl, lbl, vbl⟩; injection hy with hy; subst hy; refine zmv rfl (hd 77 rfl) <| zmv rfl (hd 78 rfl) <| zmv rfl (hd 79 rfl) <| Ac (Al Bj rfl) (hd 80 rfl) ?_
        refine Aj Tryd.f70 (I7 Y k Y.length (by omega) (by omega) (by omega) uY) rfl Tryd.func70 rfl rfl (Aa rfl (Aa rfl (Aa rfl Ad))) (.cons .n (.cons .i (.cons .i .nil))) (hd 81 rfl) ?_ (fun ch hp => by simp at hp)
        rintro y ⟨bh, hy, ubh, lbh, vbh⟩; injection hy with hy; subst hy; refine zas rfl (hd 9 rfl) <| zas rfl (hd 10 rfl) <| zas rfl (hd 11 rfl) <| zas rfl (hd 12 rfl) <| Ab <| zsr <| zmv rfl (hd 82 rfl) <| zmv rfl (hd 83 rfl) <| zmv rfl (hd 84 rfl) ?_
        refine Aj Tryd.f57 (ih al bl (by omega) (by omega) (by omega) ual ubl) rfl Tryd.func57 rfl rfl (Aa rfl (Aa rfl (Aa rfl Ad))) (.cons .n (.cons .n (.cons .i .nil))) (hd 85 rfl) ?_ (fun ch hp => by simp at hp)
        rintro y ⟨lo, hy, ulo, llo, vlo⟩; injection hy with hy; subst hy; refine zmv rfl (hd 86 rfl) <| zmv rfl (hd 87 rfl) <| zmv rfl (hd 88 rfl) ?_
        refine Aj Tryd.f57 (ih ah bh (by omega) (by omega) (by omega) uah ubh) rfl Tryd.func57 rfl rfl (Aa rfl (Aa rfl (Aa rfl Ad))) (.cons .n (.cons .n (.cons .i .nil))) (hd 89 rfl) ?_ (fun ch hp => by simp at hp)
        rintro y ⟨hi, hy, uhi, lhi, vhi⟩; injection hy with hy; subst hy; refine zas rfl (hd 13 rfl) <| zas rfl (hd 14 rfl) <| Ab <| zsr <| zmv rfl (hd 90 rfl) <| zmv rfl (hd 91 rfl) ?_
        refine Aj Tryd.f72 (Yi al ah (by omega) (by omega) ual uah) rfl Tryd.func72 rfl rfl (Aa rfl (Aa rfl Ad)) (.cons .n (.cons .n .nil)) (hd 92 rfl) ?_ (fun ch hp => by simp at hp)
        rintro y ⟨s1, hy, us1, ls1, vs1⟩; injection hy with hy; subst hy
        have ts1 := C2 s1
        refine Aj Tryd.f39 (Ej s1 (by omega)) rfl Tryd.func39 rfl rfl (Aa rfl Ad) (.cons .n .nil) (hd 93 rfl) ?_ (fun ch hp => by simp at hp)
        rintro _ ⟨⟩; refine zmv rfl (hd 94 rfl) <| zmv rfl (hd 95 rfl) ?_
        refine Aj Tryd.f72 (Yi bl bh (by omega) (by omega) ubl ubh) rfl Tryd.func72 rfl rfl (Aa rfl (Aa rfl Ad)) (.cons .n (.cons .n .nil)) (hd 96 rfl) ?_ (fun ch hp => by simp at hp)
        rintro y ⟨s2, hy, us2, ls2, vs2⟩; injection hy with hy; subst hy
        have ts2 := C2 s2
        refine Aj Tryd.f39 (Ej s2 (by omega)) rfl Tryd.func39 rfl rfl (Aa rfl Ad) (.cons .n .nil) (hd 97 rfl) ?_ (fun ch hp => by simp at hp)
        rintro _ ⟨⟩; refine zmv rfl (hd 98 rfl) ?_
        refine Aj Tryd.f57 (ih (trm s1) (trm s2) (by omega) (by omega) (by omega) (Cb us1) (Cb us2)) rfl Tryd.func57 rfl rfl (Aa rfl (Aa rfl (Aa rfl Ad))) (.cons .n (.cons .n (.cons .i .nil))) (hd 99 rfl) ?_ (fun ch hp => by simp at hp)
        rintro y ⟨m0, hy, um0, lm0, vm0⟩; injection hy with hy; subst hy
        rw [E3, E3, vs1, vs2] at vm0
        have hle := Wv (Bk ual) (Bk uah) (Bk ubl) (Bk ubh)
        rw [← vm0, ← vlo, ← vhi] at hle
        refine zmv rfl (hd 100 rfl) ?_
        refine Aj Tryd.f71 (Ua m0 lo (by omega) (by omega) um0 ulo hle.1) rfl Tryd.func71 rfl rfl (Aa rfl (Aa rfl Ad)) (.cons .n (.cons .n .nil)) (hd 101 rfl) ?_ (fun ch hp => by simp at hp)
        rintro y ⟨m1, hy, um1, lm1, vm1⟩; injection hy with hy; subst hy; refine zmv rfl (hd 102 rfl) ?_
        refine Aj Tryd.f71 (Ua m1 hi (by omega) (by omega) um1 uhi (by rw [vm1]; exact hle.2)) rfl Tryd.func71 rfl rfl (Aa rfl (Aa rfl Ad)) (.cons .n (.cons .n .nil)) (hd 103 rfl) ?_ (fun ch hp => by simp at hp)
        rintro y ⟨m2, hy, um2, lm2, vm2⟩; injection hy with hy; subst hy
        have hA : vl al + pB k * vl ah = vl X := by rw [val, vah]; exact Ga k
        have hB : vl bl + pB k * vl bh = vl Y := by rw [vbl, vbh]; exact Ga k
        have hmd : vl m2 = (vl al + vl ah) * (vl bl + vl bh) - vl lo - vl hi := by rw [vm2, vm1, vm0]
        have hkr := Adj hA hB vlo vhi hmd
        have g1 := Int.mul_nonneg (Int.le_of_lt pk) (Bk um2)
        have g2 := Int.mul_nonneg (Int.mul_nonneg (Int.le_of_lt pk) (Int.le_of_lt pk)) (Bk uhi)
        refine zas rfl (hd 15 rfl) <| Ab <| zsr <| zmv rfl (hd 104 rfl) <| Ac (Al Bj rfl) (hd 105 rfl) <| zmv rfl (hd 106 rfl) <| Ac (Al Bj rfl) (hd 107 rfl) <| Ac (Av rfl rfl (r := ((X.length + Y.length : Nat) : Int)) (by rw [Ag (by omega) (by omega)]; omega)) (hd 108 rfl) <| Ac (Av rfl rfl (r := ((X.length + Y.length + 1) : Nat)) (by rw [Ag (by omega) (by omega)]; omega)) (hd 109 rfl) <| Bl (Fp (m := (X.length + Y.length + 1)) Ns rfl rfl rfl (by show 8 * (X.length + Y.length + 1) ≤ _; omega) (by unfold maxLen; omega) rfl) (hd 110 rfl) <| zas rfl (hd 16 rfl) <| Ab ?_; refine zsr <| zmv rfl (hd 111 rfl) <| zmv rfl (hd 112 rfl) ?_
        refine Fk Tryd.f69 (G2 (List.replicate (X.length + Y.length + 1) 0) lo (X.length + Y.length + 1) 0 List.length_replicate (by omega) (by omega) (by omega) (Fe _) ulo (by rw [Fd]; simp only [pB, Int.one_mul, Int.zero_add] at *; omega)) rfl Tryd.func69 rfl rfl (Aa rfl (Aa rfl (Aa rfl Ad))) (.cons (.same rfl) (.cons .n (.cons (.same rfl) .nil))) (C1 Eb C8) (hd 113 rfl) ?_ (fun ch H2 hp => by simp at hp)
        rintro y H2 ⟨hy, r1, rfl, lr1, ur1, vr1⟩; injection hy with hy; subst hy
        have e1 : vl r1 = vl lo := by rw [vr1, Fd]; simp only [pB, Int.one_mul, Int.zero_add]
        refine Ab <| zsr <| zmv rfl (hd 114 rfl) <| zmv rfl (hd 115 rfl) <| zmv rfl (hd 116 rfl) ?_
        refine Fk Tryd.f69 (G2 r1 m2 (X.length + Y.length + 1) k lr1 (by omega) (by omega) (by omega) ur1 um2 (by rw [e1]; omega)) rfl Tryd.func69 rfl rfl (Aa rfl (Aa rfl (Aa rfl Ad))) (.cons (.same rfl) (.cons .n (.cons (.same rfl) .nil))) (C1 Eb C8) (hd 117 rfl) ?_ (fun ch H2 hp => by simp at hp)
        rintro y H2 ⟨hy, r2, rfl, lr2, ur2, vr2⟩; injection hy with hy; subst hy; refine Ab <| zsr <| zmv rfl (hd 118 rfl) <| zmv rfl (hd 119 rfl) <| zmv rfl (hd 120 rfl) <| Ac (Dn rfl rfl (r := ((2 * k : Nat) : Int)) (by rw [Ag (by omega) (by omega)]; omega)) (hd 121 rfl) ?_
        refine Fk Tryd.f69 (G2 r2 hi (X.length + Y.length + 1) (2 * k) lr2 (by omega) (by omega) (by omega) ur2 uhi (by rw [vr2, e1, show 2 * k = k + k by omega, E8]; omega)) rfl Tryd.func69 rfl rfl (Aa rfl (Aa rfl (Aa rfl Ad))) (.cons (.same rfl) (.cons .n (.cons (.same rfl) .nil))) (C1 Eb C8) (hd 122 rfl) ?_ (fun ch H2 hp => by simp at hp)
        rintro y H2 ⟨hy, rf, rfl, lrf, urf, vrf⟩; injection hy with hy; subst hy; refine Ab <| zsr <| zmv rfl (hd 123 rfl) <| zas rfl (hd 6 rfl) <| Ab <| Ak ?_
        refine ⟨_, _, (.cons rfl .nil), (.o (l := rf) rfl (by omega) rfl), ?_⟩
        rw [List.drop_zero, List.take_of_length_le (by omega)]
        exact ⟨rf, rfl, urf, by omega, by rw [vrf, vr2, e1, show 2 * k = k + k by omega, E8, hkr, hm3]⟩

theorem Sr (cut : Nat) (hc4 : 4 ≤ cut) (hcm : cut < 1099511627776) (a b : List Int) (hla : a.length < 549755813888) (hlb : b.length < 549755813888) (ua : Az a) (ub : Az b) : Spec Tryd.prog 57 [.n false .u64 a, .n false .u64 b, .i .i64 (cut : Int)] (fun o => ∃ r, o = .ret (.n true .u64 r) ∧ Az r ∧ r.length ≤ a.length + b.length + 1 ∧ vl r = vl a * vl b) := by
  induction hn : a.length + b.length using Nat.strongRecOn generalizing a b with
  | _ n ih =>
    subst hn
    exact Qb cut hc4 hcm a b hla hlb ua ub fun a' b' h h1 h2 h3 h4 => ih _ (by omega) a' b' h1 h2 h3 h4 rfl

theorem Aa3 (a b : List Int) (hla : a.length < 4294967296) (hlb : b.length < 4294967296) (ua : Az a) (ub : Az b) : Spec Tryd.prog 56 [.n false .u64 a, .n false .u64 b] (fun o => ∃ r, o = .ret (.n true .u64 r) ∧ Az r ∧ r.length ≤ a.length + b.length + 1 ∧ vl r = vl a * vl b) := by
  refine An [(0, .n false .u64 a), (1, .n false .u64 b)] rfl Tryd.func56 rfl (zlb rfl) fun Γ hN hds hL hR => ?_
  have hd := Bu 8 hN
  refine zsr <| zas rfl (hd 4 rfl) <| Ab <| zsr <| zmv rfl (hd 5 rfl) <| zmv rfl (hd 6 rfl) ?_
  refine Aj Tryd.f57 (Sr 40 (by decide) (by decide) a b (by omega) (by omega) ua ub) rfl Tryd.func57 rfl rfl (Aa rfl (Aa rfl (Aa rfl Ad))) (.cons .n (.cons .n (.cons .i .nil))) (hd 7 rfl) ?_ (fun ch hp => by simp at hp)
  rintro y ⟨rs, hy, us, ls, vs⟩; injection hy with hy; subst hy; refine zas rfl (hd 4 rfl) <| Ab <| Ak ?_
  refine ⟨_, _, (.cons rfl .nil), .n, ?_⟩
  exact ⟨rs, rfl, us, ls, vs⟩





set_option maxRecDepth 100000 in
theorem openW {H : Type} {enc : TypeId × Value → H} {w : World} {sp : Nat → Bool} {held : Bool} {r : Reach} {b0 : Nat} {v : Value} {d : DataW H} {ps : List MemPlace} (hval : Value.okWide Tryd.prog w r b0 24 v) (hd : DataW.Trod enc Tryd.prog w 0 sp held 24 v d ps) :
    ∃ (s : Bool) (l : List Int), Rel w (fun _ => False) w.heap.size [] (.a [.b s, .n false .u64 l]) v ∧ l.length + 2 ≤ Rows.uptoBulk d ∧ Az l := by
  obtain ⟨cs, rfl, hsz⟩ := Go.WideShapes.okWide_struct Tryd.underlying24 hval
  obtain ⟨fuel, hd⟩ := hd
  have hcl : (Value.agg cs).cells.toList = cs.toList := rfl
  rw [hcl] at hd
  obtain ⟨y0, y1, n, hx, hl, h0, h1⟩ := Go.ChangeShapes.trod_struct2 Tryd.underlying24 hd
  injection hx with hx _; subst hx
  have hl' : cs.toList.length = 2 := hl
  obtain ⟨c0, c1, hcs⟩ : ∃ c0 c1, cs.toList = [c0, c1] := by
    match hm : cs.toList, hl' with
    | [a, b], _ => exact ⟨a, b, rfl⟩
  rw [hcs] at h0 h1
  obtain ⟨s, e0, hy0⟩ := DataW.trod_bool Tryd.underlying4 h0
  have e0' : [c0] = [Value.bool s] := e0
  injection e0' with e0'; subst e0'; subst hy0
  have h1' : DataW.trod enc Tryd.prog w 0 sp held n 22 [c1] = some y1 := h1
  obtain ⟨l, k1, k2, k3⟩ := Nl Tryd.underlying22 Tryd.underlying58 (show Tryd.prog.cellsOf 58 = 1 by kernel_rfl) h1'
  refine ⟨s, l, ⟨cs.toList, by simp, ?_⟩, ?_, fun y hy => Xx (k3 y hy)⟩
  · rw [hcs]; exact ⟨_, _, rfl, rfl, _, _, rfl, k1, rfl⟩
  · simp only [Rows.uptoBulk, Rows.uptoBulkAll]; omega

theorem Iv (v : Int) (hl : (dg v).length < 1099511627776) : Spec Tryd.prog 21 [.n false .u64 (dg v)] (fun o => o = .ret (.i .i64 (Aq v : Int))) := by
  refine An [(0, .n false .u64 (dg v))] rfl Tryd.func21 rfl (zlb rfl) fun Γ hN hds hL hR => ?_
  have hd := Bu 25 hN
  have hB := Wu v
  have hT := M7 v ((dg v).length - 1)
  have hE := Jv v
  have hN := Ja (v := v)
  refine zsr <| zas rfl (hd 2 rfl) <| Ab <| Ae <| zsr <| zmv rfl (hd 5 rfl) <| Ac (Al Cj rfl) (hd 6 rfl) <| Ac (B7 rfl rfl) (hd 7 rfl) <| Ab ?_
  refine Bc rfl (fun h1 => ?_) (fun h1 => ?_)
  · have h0 : dg v = [] := List.eq_nil_of_length_eq_zero (by omega)
    refine zsr <| zas rfl (hd 2 rfl) <| Ab <| Ak ?_
    refine ⟨_, _, (.cons rfl .nil), .i, ?_⟩
    rw [hN.1 h0]
    rfl
  · have h0 : dg v ≠ [] := fun e => by rw [e] at h1; exact h1 rfl
    have hE := hE h0
    refine Ai <| zsr <| zmv rfl (hd 8 rfl) <| Ac (Al Cj rfl) (hd 9 rfl) <| Ac (Bt rfl rfl (Ag (by first | omega | (dsimp only; omega)) (by first | omega | (dsimp only; omega)))) (hd 10 rfl) <| Ac (Dn rfl rfl (r := ((32 * ((dg v).length - 1) : Nat) : Int)) (by have := List.length_pos_iff.2 h0; rw [Ag (by omega) (by omega)]; omega)) (hd 11 rfl) <| zas rfl (hd 3 rfl) <| Ab <| Ae <| zsr <| zmv rfl (hd 12 rfl) ?_; refine zmv rfl (hd 13 rfl) <| Ac (Al Cj rfl) (hd 14 rfl) <| Ac (Bt rfl rfl (Ag (by first | omega | (dsimp only; omega)) (by first | omega | (dsimp only; omega)))) (hd 15 rfl) <| Ac (Bx (i := (dg v).length - 1) Cj rfl rfl (by have := List.length_pos_iff.2 h0; omega) (by have := List.length_pos_iff.2 h0; omega)) (hd 16 rfl) <| Ac (Bw Bm rfl rfl) (hd 17 rfl) <| zas rfl (hd 4 rfl) <| Ab <| Au ?_
    refine Bv (G := Nat × Nat) (fun g => g.2 + Cg g.1 = Aq v ∧ g.1 < 4294967296) (fun g => [(3, .i .i64 (g.2 : Int)), (4, .i .u64 (g.1 : Int)), (18, .u), (19, .u), (20, .u), (21, .u), (22, .u), (23, .u)]) (fun _ => _) (fun g => g.1) (((dg v).getD ((dg v).length - 1) 0).toNat, 32 * ((dg v).length - 1)) ?_ ?_ rfl ?_
    · exact ⟨hE, by dsimp only; omega⟩
    · exact (.cons rfl (.cons (by show some (V.i .u64 _) = some (V.i .u64 _); congr 2; dsimp only; omega) (.v5 (.u .nil))))
    · rintro ⟨m, c⟩ ⟨hc1, hc2⟩
      dsimp only at hc1 hc2 ⊢
      refine Ae <| zsr <| zmv rfl (hd 18 rfl) <| Ac (B6 rfl rfl) (hd 19 rfl) <| Ab ?_
      refine Bc rfl (fun h2 => ?_) (fun h2 => ?_)
      · refine Ai <| Ae <| Au <| Af <| zmv rfl (hd 22 rfl) <| Ac (Av rfl rfl (Ag (by first | omega | (dsimp only; omega)) (by first | omega | (dsimp only; omega)))) (hd 23 rfl) <| zas rfl (hd 3 rfl) <| Ab <| Af <| zmv rfl (hd 20 rfl) <| Ac (D3 rfl rfl (by first | omega | (dsimp only; omega)) (r := ((m / 2 : Nat) : Int)) (by rw [show ((m : Int).tdiv 2) = ((m / 2 : Nat) : Int) from rfl, A5 (by omega) (by omega)])) (hd 21 rfl) <| zas rfl (hd 4 rfl) <| Ab ?_
        refine ⟨(m / 2, c + 1), ?_, ?_, rfl, Bb 16 rfl rfl ?_⟩
        · exact ⟨by have := No (m := m) (by omega); dsimp only; omega, by dsimp only; omega⟩
        · show m / 2 < m; omega
        · exact (.cons rfl (.cons rfl (.v5 (.u .nil))))
      · refine Br <| zsr <| zmv rfl (hd 24 rfl) <| zas rfl (hd 2 rfl) <| Ab <| Ak ?_
        refine ⟨_, _, (.cons rfl .nil), .i, ?_⟩
        have hm : m = 0 := by omega
        subst hm
        rw [Lu] at hc1
        rw [← hc1]
        rfl

theorem Aaq (l : List Int) (hl : l.length < 1099511627776) : Spec Tryd.prog 17 [.n false .u64 l] (fun o => o = .ret (.t [.n true .u64 (Ep l), .n true .u64 l])) := by
  refine An [(0, .n false .u64 l)] rfl Tryd.func17 rfl (zlb rfl) fun Γ hN hds hL hR => ?_
  have hd := Bu 40 hN
  refine zsr <| zas rfl (hd 2 rfl) <| zas rfl (hd 3 rfl) <| Ab <| zsr <| zmv rfl (hd 8 rfl) <| Ac (Al Fy rfl) (hd 9 rfl) <| Ac (Av rfl rfl (r := ((l.length + 4 : Nat) : Int)) (by rw [Ag (by omega) (by omega)]; omega)) (hd 10 rfl) <| Bl (Fp (m := l.length + 4) W5 rfl rfl rfl (by show 8 * (l.length + 4) ≤ _; omega) (by unfold maxLen; omega) rfl) (hd 11 rfl) <| zas rfl (hd 4 rfl) <| Ab ?_; refine Ae <| Ae <| Hr (H' := [⟨58, 1, 0, true, ints .u64 (I1 (l.length + 4) 0)⟩]) (by rw [← Ws]; rfl) <| Af <| zmv rfl (hd 12 rfl) <| Ac (Dc Fy rfl rfl) (hd 13 rfl) <| zmv rfl (hd 14 rfl) <| Ab <| Au ?_
  refine Bv (G := Nat) (fun i => i ≤ l.length + 4) (fun i => [(14, .i .i64 (i : Int)), (5, .u), (15, .u), (16, .u), (17, .u), (18, .u), (19, .u), (20, .u)]) (fun i => [⟨58, 1, 0, true, ints .u64 (I1 (l.length + 4) i)⟩]) (fun i => l.length + 4 - i) 0 ?_ ?_ rfl ?_
  · exact Nat.zero_le _
  · exact (.cons rfl (.v5 (.u (.u .nil))))
  · rintro i hc1
    have hlA := Ps hc1
    refine zsr <| Ac (Bp rfl rfl) (hd 15 rfl) <| Ab <| Ae ?_
    refine Bc rfl (fun h1 => ?_) (fun h1 => ?_)
    · refine Ai <| Ae <| Au <| zsr <| zmv rfl (hd 16 rfl) <| zas rfl (hd 5 rfl) <| Ab <| Af <| zmv rfl (hd 17 rfl) <| zmv rfl (hd 18 rfl) <| Ac (Cz (i := i) Fy rfl rfl rfl (by first | rfl | omega) (by first | omega | (dsimp only; omega)) rfl) (hd 19 rfl) <| A6 (Bz rfl rfl rfl Bm (by first | omega | (dsimp only; omega))) ?_; refine Ab <| Af <| Ac (Av rfl rfl (Ag (by first | omega | (dsimp only; omega)) (by first | omega | (dsimp only; omega)))) (hd 20 rfl) <| zmv rfl (hd 14 rfl) <| Ab ?_
      refine ⟨i + 1, ?_, ?_, (by show [(⟨58, 1, 0, true, ints .u64 _⟩ : Ob)] = [⟨58, 1, 0, true, ints .u64 _⟩]; rw [Pr (by omega)]), Bb 16 rfl rfl ?_⟩
      · omega
      · omega
      · exact (.cons rfl (.v5 (.u (.u .nil))))
    · refine Br <| Ae <| Ae <| Hr (H' := [⟨58, 1, 0, true, ints .u64 (Ic l 0)⟩]) (by rw [← Wr, show l.length + 4 = i by omega]) <| Af <| zmv rfl (hd 21 rfl) <| Ac (Al Fy rfl) (hd 22 rfl) <| zmv rfl (hd 23 rfl) <| Ab <| Au ?_
      refine Bv (G := Nat) (fun k => k ≤ l.length) (fun k => [(23, .i .i64 (k : Int)), (6, .u), (7, .u), (24, .u), (25, .u), (26, .u), (27, .u), (28, .u), (29, .u), (30, .u), (31, .u), (32, .u), (33, .u)]) (fun k => [⟨58, 1, 0, true, ints .u64 (Ic l k)⟩]) (fun k => l.length - k) 0 ?_ ?_ rfl ?_
      · exact Nat.zero_le _
      · exact (.cons rfl (.v9 (.u (.u .nil))))
      · rintro k hc2
        have hlB := Pp hc2
        refine zsr <| Ac (Bp rfl rfl) (hd 24 rfl) <| Ab <| Ae ?_
        refine Bc rfl (fun h2 => ?_) (fun h2 => ?_)
        · refine Ai <| Ae <| Au <| zsr <| zmv rfl (hd 25 rfl) <| Ac (Bx (i := k) Fy rfl rfl (by first | rfl | omega) (by first | omega | (dsimp only; omega))) (hd 26 rfl) <| Ac (Bw Bm rfl rfl) (hd 27 rfl) <| zas rfl (hd 6 rfl) <| zas rfl (hd 7 rfl) <| Ab <| Af <| zmv rfl (hd 28 rfl) ?_; refine zmv rfl (hd 29 rfl) <| Ac (Av rfl rfl (Ag (by first | omega | (dsimp only; omega)) (by first | omega | (dsimp only; omega)))) (hd 30 rfl) <| zmv rfl (hd 31 rfl) <| Ac (Cz (i := k + 2) Fy rfl rfl rfl (by first | rfl | omega) (by first | omega | (dsimp only; omega)) rfl) (hd 32 rfl) <| A6 (Bz rfl rfl rfl Bm (by first | omega | (dsimp only; omega))) <| Ab <| Af <| Ac (Av rfl rfl (Ag (by first | omega | (dsimp only; omega)) (by first | omega | (dsimp only; omega)))) (hd 33 rfl) <| zmv rfl (hd 23 rfl) <| Ab ?_
          refine ⟨k + 1, ?_, ?_, (by show [(⟨58, 1, 0, true, ints .u64 _⟩ : Ob)] = [⟨58, 1, 0, true, ints .u64 _⟩]; rw [Po (by omega)]), Bb 26 rfl rfl ?_⟩
          · omega
          · omega
          · exact (.cons rfl (.v9 (.u (.u .nil))))
        · refine Br <| Ae <| Hr (H' := [⟨58, 1, 0, true, ints .u64 (Ep l)⟩]) (by rw [← Pq, show l.length = k by omega]) <| Cf (n := 8) _ rfl Dk <| zal 0 (Am (At rfl) (hd 34 rfl)) rfl <| zal 1 (Am (At rfl) (hd 35 rfl)) rfl <| A4 2 [3, 4, 5, 7] (Am (At rfl) (hd 36 rfl)) rfl <| A4 3 [4, 5, 7] (Am (Al Fy rfl) (hd 37 rfl)) rfl <| zal 4 (Am (Av rfl rfl (Ag (by first | omega | (dsimp only; omega)) (by first | omega | (dsimp only; omega)))) (hd 38 rfl)) rfl <| zal 5 (Am (Zj (l := 2) (h := l.length + 2) (r := 2) (n := l.length) Fy rfl rfl (C7 rfl rfl) (C7 rfl (by omega)) (by omega) (by omega) rfl (by omega)) (hd 39 rfl)) rfl <| zal 6 (Am (Fo rfl) (hd 2 rfl)) rfl <| zal 7 (Am (Fo rfl) (hd 3 rfl)) rfl <| Bg (by kernel_rfl) ?_; refine Ak ?_
          refine ⟨_, _, (.cons rfl (.cons rfl .nil)), (.t1 (.o (l := Ep l) rfl (by rw [He]; omega) rfl) (.t1 (.o (l := Ep l) rfl (by rw [He]; omega) rfl) .t0)), ?_⟩
          rw [show ((Ep l).drop 0).take (l.length + 4) = Ep l by rw [List.drop_zero, ← He, List.take_length], Rl]

theorem Zp (s : Bool) (l : List Int) (hl : l.length < 1099511627776) : Spec Tryd.prog 4 [.a [.b s, .n false .u64 l]] (fun o => o = .ret (.t [.n true .u64 (Ep l), .a [.b s, .n true .u64 l]])) := by
  refine An [(0, .a [.b s, .n false .u64 l])] rfl Tryd.func4 rfl (zlb rfl) fun Γ hN hds hL hR => ?_
  have hd := Bu 17 hN
  refine zsr <| Bl (Ci (id := 0) (n := 2) rfl rfl rfl (by decide) rfl) (hd 1 rfl) <| zas rfl (hd 2 rfl) <| Bl (Ao (id := 1) By (by decide) rfl (by decide) rfl) (hd 3 rfl) <| Ab <| zsr <| Ac (Ba Ly rfl rfl rfl) (hd 7 rfl) <| Ac (A9 Nm rfl rfl rfl) (hd 8 rfl) ?_
  refine Aj Tryd.f17 (Aaq l hl) rfl Tryd.func17 rfl rfl (Aa rfl Ad) (.cons .n .nil) (hd 9 rfl) ?_ (fun ch hp => by simp at hp)
  rintro _ ⟨⟩; refine zmv rfl (hd 6 rfl) <| Ac (Ap rfl rfl) (hd 10 rfl) <| Ac (Ap rfl rfl) (hd 11 rfl) <| zas rfl (hd 4 rfl) <| zas rfl (hd 5 rfl) <| Ab <| Ae <| Cf (n := 7) _ rfl Dk <| zal 0 (Am (At rfl) (hd 12 rfl)) rfl <| A4 1 [2, 4, 6] (Am (Ba Qi rfl rfl rfl) (hd 13 rfl)) rfl <| zal 2 (Am (A9 Ez rfl rfl rfl) (hd 14 rfl)) rfl <| zal 3 (Am (At rfl) (hd 15 rfl)) rfl <| zal 4 (Am (Ct (is := [0, 1]) (xs := [.tmp 14, .tmp 15]) By Dw rfl (Aa rfl (Aa rfl Ad)) rfl (by first | (simp [D1, cellsV]; done) | (simp [D1, cellsV, old]; done)) (D0 rfl) rfl) (hd 16 rfl)) rfl ?_; refine zal 5 (Am (Fo rfl) (hd 2 rfl)) rfl ?_
  refine A0 6 ?_ rfl (by kernel_rfl)
  refine Bf (Ah rfl rfl rfl Cc rfl rfl (zlb rfl)) rfl <| Bg (by kernel_rfl) <| Ak ?_
  refine ⟨_, _, (.cons rfl (.cons (ResV.cell B3 rfl rfl rfl rfl) .nil)), (.t1 .n (.t1 (.a1 .b (.a1 .n .a0)) .t0)), ?_⟩
  exact rfl

theorem Aas (l : List Int) (hl : l.length < 1099511627776) : Spec Tryd.prog 16 [.n false .u64 (Ep l), .n false .u64 l] (fun o => o = .ret (.b true)) := by
  refine An [(0, .n false .u64 (Ep l)), (1, .n false .u64 l)] rfl Tryd.func16 rfl (zlb rfl) fun Γ hN hds hL hR => ?_
  have hd := Bu 39 hN
  have hw := He (l := l)
  refine zsr <| zas rfl (hd 4 rfl) <| Ab <| Ae <| zsr <| zmv rfl (hd 7 rfl) <| Ac (Al Fy rfl) (hd 8 rfl) <| zmv rfl (hd 9 rfl) <| Ac (Al Fy rfl) (hd 10 rfl) <| Ac (Av rfl rfl (Ag (by first | omega | (dsimp only; omega)) (by first | omega | (dsimp only; omega)))) (hd 11 rfl) <| Ac (Be (Dy rfl rfl) (by omega)) (hd 12 rfl) ?_; refine Ab <| Aw rfl <| Ai <| Ae <| zsr <| zmv rfl (hd 13 rfl) <| Ac (Al Fy rfl) (hd 14 rfl) <| zmv rfl (hd 15 rfl) <| Ab <| Au ?_
  refine Bv (G := Nat) (fun i => i ≤ l.length + 4) (fun i => [(15, .i .i64 (i : Int)), (4, .u), (5, .u), (6, .u), (16, .u), (17, .u), (18, .u), (19, .u), (20, .u), (21, .u), (22, .u), (23, .u), (24, .u), (25, .u), (26, .u), (27, .u), (28, .u), (29, .u), (30, .u), (31, .u), (32, .u), (33, .u), (34, .u), (35, .u), (36, .u), (37, .u), (38, .u)]) (fun _ => _) (fun i => l.length + 4 - i) 0 ?_ ?_ rfl ?_
  · exact Nat.zero_le _
  · exact (.cons rfl (.v9 (.v9 (.v5 (.u .nil)))))
  · rintro i hc1; refine zsr <| Ac (Bp rfl rfl) (hd 16 rfl) <| Ab <| Ae ?_
    refine Bc rfl (fun h2 => ?_) (fun h2 => ?_)
    · refine Ai <| Ae <| Au <| zsr <| zmv rfl (hd 17 rfl) <| Ac (Bx (i := i) Fy rfl rfl (by first | rfl | omega) (by first | omega | (dsimp only; omega))) (hd 18 rfl) <| Ac (Bw Bm rfl rfl) (hd 19 rfl) <| zas rfl (hd 5 rfl) <| zas rfl (hd 6 rfl) <| Ab <| Ae <| Af ?_; refine zmv rfl (hd 20 rfl) <| Ac (Bp rfl rfl) (hd 21 rfl) <| zmv rfl (hd 22 rfl) ?_
      refine Ea 22 rfl (fun h3 => ?_) (fun h3 => ?_)
      · refine Bh 22 rfl rfl rfl (hd 23 rfl) <| Bh 22 rfl rfl rfl (hd 24 rfl) <| Bh 22 rfl rfl rfl (hd 25 rfl) <| Bh 22 rfl rfl rfl (hd 26 rfl) <| Bh 22 rfl rfl rfl (hd 27 rfl) <| Ac (Bi rfl rfl) (hd 28 rfl) <| Ab <| B5 rfl <| zsr <| zmv rfl (hd 29 rfl) <| Ac (Be (Dy rfl rfl) (fun hh => hh (L5 (by omega) (by omega)))) (hd 30 rfl) <| Ab ?_; refine Aw rfl <| Ai <| Af <| Ac (Av rfl rfl (Ag (by first | omega | (dsimp only; omega)) (by first | omega | (dsimp only; omega)))) (hd 38 rfl) <| zmv rfl (hd 15 rfl) <| Ab ?_
        refine ⟨i + 1, ?_, ?_, rfl, Bb 47 rfl rfl ?_⟩
        · omega
        · omega
        · exact (.cons rfl (.v9 (.v9 (.v5 (.u .nil)))))
      · refine Ay 22 rfl rfl (At rfl) (hd 23 rfl) <| Ay 22 rfl rfl (At rfl) (hd 24 rfl) <| Ay 22 rfl rfl (Al Fy rfl) (hd 25 rfl) <| Ay 22 rfl rfl (Av rfl rfl (Ag (by first | omega | (dsimp only; omega)) (by first | omega | (dsimp only; omega)))) (hd 26 rfl) <| Ay 22 rfl rfl (Dl rfl rfl) (hd 27 rfl) <| Ac (Bn rfl rfl) (hd 28 rfl) <| Ab ?_
        refine Bc rfl (fun h6 => ?_) (fun h6 => ?_)
        · refine zsr <| zmv rfl (hd 29 rfl) <| Ac (Be (Dy rfl rfl) (fun hh => hh (L5 (by omega) (by omega)))) (hd 30 rfl) <| Ab <| Aw rfl <| Ai <| Af <| Ac (Av rfl rfl (Ag (by first | omega | (dsimp only; omega)) (by first | omega | (dsimp only; omega)))) (hd 38 rfl) <| zmv rfl (hd 15 rfl) <| Ab ?_
          refine ⟨i + 1, ?_, ?_, rfl, Bb 47 rfl rfl ?_⟩
          · omega
          · omega
          · exact (.cons rfl (.v9 (.v9 (.v5 (.u .nil)))))
        · refine zsr <| zmv rfl (hd 31 rfl) <| zmv rfl (hd 32 rfl) <| zmv rfl (hd 33 rfl) <| Ac (Bt rfl rfl (Ag (by first | omega | (dsimp only; omega)) (by first | omega | (dsimp only; omega)))) (hd 34 rfl) <| Ac (Bx (i := i - 2) Fy rfl rfl (by first | rfl | omega) (by first | omega | (dsimp only; omega))) (hd 35 rfl) <| Ac (Bw Bm rfl rfl) (hd 36 rfl) <| Ac (Be (Dy rfl rfl) (fun hh => hh (Uu (by omega) (by omega)))) (hd 37 rfl) <| Ab <| Aw rfl <| Ai <| Af ?_; refine Ac (Av rfl rfl (Ag (by first | omega | (dsimp only; omega)) (by first | omega | (dsimp only; omega)))) (hd 38 rfl) <| zmv rfl (hd 15 rfl) <| Ab ?_
          refine ⟨i + 1, ?_, ?_, rfl, Bb 52 rfl rfl ?_⟩
          · omega
          · omega
          · exact (.cons rfl (.v9 (.v9 (.v5 (.u .nil)))))
    · refine Br <| zsr <| zas rfl (hd 4 rfl) <| Ab <| Ak ?_
      refine ⟨_, _, (.cons rfl .nil), .b, ?_⟩
      exact rfl

theorem Wy (a b : List Int) (ha : a.length < 1099511627776) (hb : b.length < 1099511627776) (ua : Az a) (ub : Az b) : Spec Tryd.prog 66 [.n false .u64 a, .n false .u64 b] (fun o => ∃ x : Bool, o = .ret (.b x) ∧ (x = true → 0 < Fi a ∧ 0 < Fi b ∧ 67108864 < Fi a + Fi b - 1)) := by
  refine An [(0, .n false .u64 a), (1, .n false .u64 b)] rfl Tryd.func66 rfl (zlb rfl) fun Γ hN hds hL hR => ?_
  have hd := Bu 24 hN
  have h1 := Ih a
  have h2 := Ih b
  refine zsr <| zas rfl (hd 4 rfl) <| Ab <| zsr <| zmv rfl (hd 7 rfl) ?_
  refine Aj Tryd.f40 (Du a ha ua) rfl Tryd.func40 rfl rfl (Aa rfl Ad) (.cons .n .nil) (hd 8 rfl) ?_ (fun ch hp => by simp at hp)
  rintro _ ⟨⟩; refine zmv rfl (hd 9 rfl) ?_
  refine Aj Tryd.f40 (Du b hb ub) rfl Tryd.func40 rfl rfl (Aa rfl Ad) (.cons .n .nil) (hd 10 rfl) ?_ (fun ch hp => by simp at hp)
  rintro _ ⟨⟩; refine zas rfl (hd 5 rfl) <| zas rfl (hd 6 rfl) <| Ab <| zsr <| zmv rfl (hd 11 rfl) <| Ac (B6 rfl rfl) (hd 12 rfl) <| zmv rfl (hd 13 rfl) ?_
  refine Ea 13 rfl (fun h1 => ?_) (fun h1 => ?_)
  · refine Ay 13 rfl rfl (At rfl) (hd 14 rfl) <| Ay 13 rfl rfl (B6 rfl rfl) (hd 15 rfl) <| Ac (Bi rfl rfl) (hd 16 rfl) <| zmv rfl (hd 17 rfl) ?_
    refine Ea 17 rfl (fun h2 => ?_) (fun h2 => ?_)
    · refine Ay 17 rfl rfl (At rfl) (hd 18 rfl) <| Ay 17 rfl rfl (At rfl) (hd 19 rfl) <| Ay 17 rfl rfl (Av rfl rfl (Ag (by omega) (by omega))) (hd 20 rfl) <| Ay 17 rfl rfl (Bt rfl rfl (Ag (by omega) (by omega))) (hd 21 rfl) <| Ay 17 rfl rfl (B6 rfl rfl) (hd 22 rfl) <| Ac (Bi rfl rfl) (hd 23 rfl) <| zas rfl (hd 4 rfl) <| Ab <| Ak ?_
      refine ⟨_, _, (.cons rfl .nil), .b, ?_⟩
      exact ⟨_, rfl, fun h => by first | (cases h; done) | (simp at h; done) | (have h := of_decide_eq_true h; exact ⟨by omega, by omega, by omega⟩)⟩
    · refine Bh 17 rfl rfl rfl (hd 18 rfl) <| Bh 17 rfl rfl rfl (hd 19 rfl) <| Bh 17 rfl rfl rfl (hd 20 rfl) <| Bh 17 rfl rfl rfl (hd 21 rfl) <| Bh 17 rfl rfl rfl (hd 22 rfl) <| Ac (Bn rfl rfl) (hd 23 rfl) <| zas rfl (hd 4 rfl) <| Ab <| Ak ?_
      refine ⟨_, _, (.cons rfl .nil), .b, ?_⟩
      exact ⟨_, rfl, fun h => by first | (cases h; done) | (simp at h; done) | (have h := of_decide_eq_true h; exact ⟨by omega, by omega, by omega⟩)⟩
  · refine Bh 13 rfl rfl rfl (hd 14 rfl) <| Bh 13 rfl rfl rfl (hd 15 rfl) <| Ac (Bn rfl rfl) (hd 16 rfl) <| zmv rfl (hd 17 rfl) <| Bh 17 rfl rfl rfl (hd 18 rfl) <| Bh 17 rfl rfl rfl (hd 19 rfl) <| Bh 17 rfl rfl rfl (hd 20 rfl) <| Bh 17 rfl rfl rfl (hd 21 rfl) <| Bh 17 rfl rfl rfl (hd 22 rfl) <| Ac (Bn rfl rfl) (hd 23 rfl) <| zas rfl (hd 4 rfl) <| Ab <| Ak ?_
    refine ⟨_, _, (.cons rfl .nil), .b, ?_⟩
    exact ⟨_, rfl, fun h => by first | (cases h; done) | (simp at h; done) | (have h := of_decide_eq_true h; exact ⟨by omega, by omega, by omega⟩)⟩


theorem Aap (l : List Int) (hl : l.length < 1099511627776) : SpecM Tryd.prog 39 [.n false .u64 l] [] (fun o G => o = .ret (.o 0 0 0 (trm l).length) ∧ G = [⟨58, 1, 0, true, ints .u64 (trm l)⟩]) := by
  refine Dr [(0, .n false .u64 l)] rfl Tryd.func39 rfl (zlb rfl) fun Γ hN hds hL hR => ?_
  have hd := Bu 6 hN
  have hm := C2 l
  refine zsr <| zas rfl (hd 2 rfl) <| Ab <| zsr <| zmv rfl (hd 3 rfl) ?_
  refine Aj Tryd.f46 (D4 l hl) rfl Tryd.func46 rfl rfl (Aa rfl Ad) (.cons .n .nil) (hd 4 rfl) ?_ (fun ch hp => by simp at hp)
  rintro _ ⟨⟩; refine Bl (P6 (id := 0) Ns rfl rfl Yk (by omega) (by unfold maxLen; omega) rfl) (hd 5 rfl) <| zas rfl (hd 2 rfl) <| Ab <| Ak ?_
  refine ⟨[0], _, (.o 0 0 0 (trm l).length), (.cons rfl .nil), rfl, rfl, (by decide), (by first | exact Ax B2 A1 | exact Ax rfl A1), ?_⟩
  exact ⟨rfl, rfl⟩

theorem Ze (s : Bool) (l : List Int) (hl : l.length < 1099511627776) : SpecM Tryd.prog 28 [.a [.b s, .n false .u64 l]] [] (fun o G => o = .ret (.a [.b (s && decide (0 < ((trm l).length : Int))), .o 0 0 0 (trm l).length]) ∧ G = [⟨58, 1, 0, true, ints .u64 (trm l)⟩]) := by
  refine Dr [(0, .a [.b s, .n false .u64 l])] rfl Tryd.func28 rfl (zlb rfl) fun Γ hN hds hL hR => ?_
  have hd := Bu 16 hN
  refine zsr <| Bl (Ci (id := 0) (n := 2) rfl rfl rfl (by decide) rfl) (hd 1 rfl) <| Bl (Ao (id := 1) By (by decide) rfl (by decide) rfl) (hd 2 rfl) <| Ab <| zsr <| Ac (Ba Cn rfl rfl rfl) (hd 4 rfl) <| Ac (A9 D2 rfl rfl rfl) (hd 5 rfl) ?_
  refine Dt Tryd.f39 (Aap l hl) (fun o G ⟨_, h⟩ => h ▸ Ax B2 A1) rfl Tryd.func39 rfl rfl (Aa rfl Ad) (.cons .n .nil) (hd 6 rfl) ?_ (fun ch G hp => by simp at hp)
  rintro y G ⟨hy, rfl⟩; injection hy with hy; subst hy
  show JO _ _ _ _ ((6, .o 2 0 0 (trm l).length) :: _) _ _
  refine zas rfl (hd 3 rfl) <| Ab <| zsr <| Ac (Ba Cy rfl rfl rfl) (hd 7 rfl) <| Ac (A9 Ez rfl rfl rfl) (hd 8 rfl) <| zmv rfl (hd 9 rfl) ?_
  refine Fj 9 rfl (fun h1 => ?_) (fun h1 => ?_)
  · refine Ay 9 rfl rfl (At rfl) (hd 10 rfl) <| Ay 9 rfl rfl (Dc Bj rfl rfl) (hd 11 rfl) <| Ay 9 rfl rfl (B6 rfl rfl) (hd 12 rfl) <| Ac (Bi rfl rfl) (hd 13 rfl) <| zmv rfl (hd 14 rfl) <| Ac (Ct (is := [0, 1]) (xs := [.tmp 13, .tmp 14]) By Dw rfl (Aa rfl (Aa rfl Ad)) rfl (by first | (simp [D1, cellsV]; done) | (simp [D1, cellsV, old]; done)) (D0 rfl) rfl) (hd 15 rfl) <| A6 (Ah rfl rfl rfl Cc rfl rfl (zlb rfl)) <| Ab <| Ak ?_
    refine ⟨[2], _, (.a [.b (decide (0 < ((trm l).length : Int))), .o 0 0 0 (trm l).length]), (.cons (ResV.cell B3 rfl rfl rfl rfl) .nil), rfl, rfl, (by decide), (by first | exact Ax B2 A1 | exact Ax rfl A1), ?_⟩
    exact ⟨by simp_all, rfl⟩
  · refine Bh 9 rfl rfl rfl (hd 10 rfl) <| Bh 9 rfl rfl rfl (hd 11 rfl) <| Bh 9 rfl rfl rfl (hd 12 rfl) <| Ac (Bn rfl rfl) (hd 13 rfl) <| zmv rfl (hd 14 rfl) <| Ac (Ct (is := [0, 1]) (xs := [.tmp 13, .tmp 14]) By Dw rfl (Aa rfl (Aa rfl Ad)) rfl (by first | (simp [D1, cellsV]; done) | (simp [D1, cellsV, old]; done)) (D0 rfl) rfl) (hd 15 rfl) <| A6 (Ah rfl rfl rfl Cc rfl rfl (zlb rfl)) <| Ab <| Ak ?_
    refine ⟨[2], _, (.a [.b false, .o 0 0 0 (trm l).length]), (.cons (ResV.cell B3 rfl rfl rfl rfl) .nil), rfl, rfl, (by decide), (by first | exact Ax B2 A1 | exact Ax rfl A1), ?_⟩
    exact ⟨by simp_all, rfl⟩

theorem Zy (s : Bool) (l : List Int) (v : Int) (hl : l.length < 1099511627776) (hu : Az l) (hv : sv s l = v) : SpecM Tryd.prog 43 [.a [.b s, .n false .u64 l]] [] (fun o G => ∃ (s2 : Bool) (r : List Int) (e : Int), o = .ret (.t [.a [.b s2, .o 0 0 0 r.length], .i .i64 e]) ∧ G = [⟨58, 1, 0, true, ints .u64 r⟩] ∧ Res (v) s2 r e) := by
  refine Dr [(0, .a [.b s, .n false .u64 l])] rfl Tryd.func43 rfl (zlb rfl) fun Γ hN hds hL hR => ?_
  have hd := Bu 11 hN
  refine zsr <| Bl (Ci (id := 0) (n := 2) rfl rfl rfl (by decide) rfl) (hd 1 rfl) <| Bl (Ao (id := 1) By (by decide) rfl (by decide) rfl) (hd 2 rfl) <| zas rfl (hd 3 rfl) <| Ab <| Ae <| zsr <| Ac (Ba Cn rfl rfl rfl) (hd 4 rfl) <| Ac (A9 D2 rfl rfl rfl) (hd 5 rfl) ?_
  refine Aj Tryd.f40 (Du l hl hu) rfl Tryd.func40 rfl rfl (Aa rfl Ad) (.cons .n .nil) (hd 6 rfl) ?_ (fun ch hp => by simp at hp)
  rintro _ ⟨⟩; refine Ac (B6 rfl rfl) (hd 7 rfl) <| Ab ?_
  refine Bc rfl (fun h1 => ?_) (fun h1 => ?_)
  · refine zsr <| Ac (Ct (is := []) (xs := []) (pls := []) By Ko rfl Ad rfl trivial (D0 rfl) rfl) (hd 8 rfl) <| A6 (Ah rfl rfl rfl Cc rfl rfl (zlb rfl)) <| zas rfl (hd 3 rfl) <| Ab <| Gj (id := 1) 1 58 1 rfl rfl rfl <| Ak ?_
    refine ⟨[2], _, (.t [.a [.b false, .o 0 0 0 0], .i .i64 3]), (.cons (ResV.cell B3 rfl rfl rfl rfl) (.cons rfl .nil)), rfl, rfl, (by decide), (by first | exact Ax B2 A1 | exact Ax rfl A1), ?_⟩
    exact ⟨false, [], 3, rfl, rfl, Vy hu hv (by omega)⟩
  · refine Ai <| zsr <| Ac (A8 B3 rfl rfl rfl rfl) (hd 9 rfl) ?_
    refine Dt Tryd.f28 (Ze s l hl) (fun o G ⟨_, h⟩ => h ▸ Ax B2 A1) rfl Tryd.func28 rfl rfl (Aa rfl Ad) (.cons (.a1 .b (.a1 .n .a0)) .nil) (hd 10 rfl) ?_ (fun ch G hp => by simp at hp)
    rintro y G ⟨hy, rfl⟩; injection hy with hy; subst hy
    show JO _ _ _ _ ((10, .a [.b (s && decide (0 < ((trm l).length : Int))), .o 2 0 0 (trm l).length]) :: _) _ _
    refine A6 (Ah rfl rfl rfl Cc rfl rfl (zlb rfl)) <| zas rfl (hd 3 rfl) <| Ab <| Ak ?_
    refine ⟨[2], _, (.t [.a [.b (s && decide (0 < ((trm l).length : Int))), .o 0 0 0 (trm l).length], .i .i64 0]), (.cons (ResV.cell B3 rfl rfl rfl rfl) (.cons rfl .nil)), rfl, rfl, (by decide), (by first | exact Ax B2 A1 | exact Ax rfl A1), ?_⟩
    exact ⟨_, _, 0, rfl, rfl, Yx hu hv (by omega)⟩

theorem R5 (s : Bool) (l : List Int) (e v : Int) (hRs : Adx v s l e) : SpecM Tryd.prog 19 [.b s, .n false .u64 l, .i .i64 e] [] (fun o G => ∃ (s2 : Bool) (r : List Int) (e : Int), o = .ret (.t [.a [.b s2, .o 0 0 0 r.length], .i .i64 e]) ∧ G = [⟨58, 1, 0, true, ints .u64 r⟩] ∧ Res (v) s2 r e) := by
  refine Dr [(0, .b s), (1, .n false .u64 l), (2, .i .i64 e)] rfl Tryd.func19 rfl (zlb rfl) fun Γ hN hds hL hR => ?_
  have hd := Bu 18 hN
  refine zsr <| Bl (Ao (id := 0) By (by decide) rfl (by decide) rfl) (hd 6 rfl) <| zas rfl (hd 7 rfl) <| Ab <| Ae <| zsr <| zmv rfl (hd 8 rfl) <| Ac (Dy rfl rfl) (hd 9 rfl) <| Ab ?_
  refine Bc rfl (fun h1 => ?_) (fun h1 => ?_)
  · have hE : e = 3 ∧ 67108864 < Aq v := by
      rcases hRs with ⟨h, _⟩ | h
      · omega
      · exact h
    refine zsr <| Ac (Ct (is := []) (xs := []) (pls := []) By Ko rfl Ad rfl trivial (D0 rfl) rfl) (hd 10 rfl) <| zmv rfl (hd 11 rfl) <| A6 (Ah rfl rfl rfl Cc rfl rfl (zlb rfl)) <| zas rfl (hd 7 rfl) <| Ab <| Gj (id := 0) 1 58 1 rfl rfl rfl <| Ak ?_
    refine ⟨[1], _, (.t [.a [.b false, .o 0 0 0 0], .i .i64 e]), (.cons (ResV.cell B3 rfl rfl rfl rfl) (.cons rfl .nil)), rfl, rfl, (by decide), (by first | exact Ax B2 A1 | exact Ax rfl A1), ?_⟩
    exact ⟨false, [], e, rfl, rfl, .inr ⟨hE.2, rfl, rfl, hE.1⟩⟩
  · have hE : Az l ∧ l.length < 1099511627776 ∧ sv s l = v := by
      rcases hRs with ⟨_, h⟩ | ⟨h, _⟩
      · exact h
      · omega
    refine Ai <| zsr <| zmv rfl (hd 12 rfl) <| zmv rfl (hd 13 rfl) <| Ac (Ct (is := [0, 1]) (xs := [.tmp 12, .tmp 13]) By Dw rfl (Aa rfl (Aa rfl Ad)) rfl (by first | (simp [D1, cellsV]; done) | (simp [D1, cellsV, old]; done)) (D0 rfl) rfl) (hd 14 rfl) ?_
    refine Dt Tryd.f43 (Zy s l v hE.2.1 hE.1 hE.2.2) (fun o G ⟨_, _, _, _, h, _⟩ => h ▸ Ax B2 A1) rfl Tryd.func43 rfl rfl (Aa rfl Ad) (.cons (.a1 .b (.a1 .n .a0)) .nil) (hd 15 rfl) ?_ (fun ch G hp => by simp at hp)
    rintro y G ⟨sf, rf, ef, hy, rfl, hf⟩; injection hy with hy; subst hy
    show JO _ _ _ _ ((15, .t [.a [.b sf, .o 1 0 0 rf.length], .i .i64 ef]) :: _) _ _
    refine Ac (Ap rfl rfl) (hd 16 rfl) <| Ac (Ap rfl rfl) (hd 17 rfl) <| A6 (Ah rfl rfl rfl Cc rfl rfl (zlb rfl)) <| zas rfl (hd 7 rfl) <| Ab <| Ak ?_
    refine ⟨[1], _, (.t [.a [.b sf, .o 0 0 0 rf.length], .i .i64 ef]), (.cons (ResV.cell B3 rfl rfl rfl rfl) (.cons rfl .nil)), rfl, rfl, (by decide), (by first | exact Ax B2 A1 | exact Ax rfl A1), ?_⟩
    exact ⟨sf, rf, ef, rfl, rfl, hf⟩

theorem Abz (x i d : Nat) (hx : (Ar B32 x).length < 1099511627776) (hi : x / B32 ^ i % B32 = d) : Spec Tryd.prog 82 [.n false .u64 (Ar B32 x), .i .i64 (i : Int)] (fun o => o = .ret (.i .u64 (d : Int))) := by
  refine An [(0, .n false .u64 (Ar B32 x)), (1, .i .i64 (i : Int))] rfl Tryd.func82 rfl (zlb rfl) fun Γ hN hds hL hR => ?_
  have hd := Bu 13 hN
  have hv := Io (b := B32) (by decide) i x
  have ht := Er (b := B32) (by decide) (Es (by decide) x) i
  refine zsr <| zas rfl (hd 4 rfl) <| Ab <| Ae <| zsr <| zmv rfl (hd 5 rfl) <| zmv rfl (hd 6 rfl) <| Ac (Al Cj rfl) (hd 7 rfl) <| Ac (Bp rfl rfl) (hd 8 rfl) <| Ab ?_
  refine Bc rfl (fun h1 => ?_) (fun h1 => ?_)
  · refine zsr <| zmv rfl (hd 9 rfl) <| zmv rfl (hd 10 rfl) <| Ac (Bx (i := i) Cj rfl rfl (by first | rfl | omega) (by omega)) (hd 11 rfl) <| Ac (Bw Bm rfl rfl) (hd 12 rfl) <| zas rfl (hd 4 rfl) <| Ab <| Ak ?_
    refine ⟨_, _, (.cons rfl .nil), .i, ?_⟩
    rw [hv, hi]
  · refine Ai <| zsr <| zas rfl (hd 4 rfl) <| Ab <| Ak ?_
    refine ⟨_, _, (.cons rfl .nil), .i, ?_⟩
    rw [← hi]
    have h0 : (Ar B32 x).getD i 0 = 0 := C5 (by omega)
    rw [h0] at hv
    rw [← hv]

theorem Kk (x y : Nat) (hx : (Ar B32 x).length < 1099511627776) (hy : (Ar B32 y).length < 1099511627776) : Spec Tryd.prog 62 [.n false .u64 (Ar B32 x), .n false .u64 (Ar B32 y)] (fun o => o = .ret (.i .i64 (Gq x y))) := by
  refine An [(0, .n false .u64 (Ar B32 x)), (1, .n false .u64 (Ar B32 y))] rfl Tryd.func62 rfl (zlb rfl) fun Γ hN hds hL hR => ?_
  have hd := Bu 41 hN
  have hcm := Qy (b := B32) (by decide) x y
  unfold Nw at hcm
  refine zsr <| zas rfl (hd 4 rfl) <| Ab <| Ae <| zsr <| zmv rfl (hd 6 rfl) <| Ac (Al Cj rfl) (hd 7 rfl) <| zmv rfl (hd 8 rfl) <| Ac (Al Cj rfl) (hd 9 rfl) <| Ac (Dy rfl rfl) (hd 10 rfl) <| Ab ?_
  refine Bc rfl (fun h1 => ?_) (fun h1 => ?_)
  · refine Ae <| zsr <| zmv rfl (hd 11 rfl) <| Ac (Al Cj rfl) (hd 12 rfl) <| zmv rfl (hd 13 rfl) <| Ac (Al Cj rfl) (hd 14 rfl) <| Ac (Bp rfl rfl) (hd 15 rfl) <| Ab ?_
    refine Bc rfl (fun h2 => ?_) (fun h2 => ?_)
    · refine zsr <| zas rfl (hd 4 rfl) <| Ab <| Ak ?_
      refine ⟨_, _, (.cons rfl .nil), .i, ?_⟩
      rw [← hcm, if_pos (by omega)]
    · refine Ai <| zsr <| zas rfl (hd 4 rfl) <| Ab <| Ak ?_
      refine ⟨_, _, (.cons rfl .nil), .i, ?_⟩
      rw [← hcm, if_neg (by omega), if_pos (by omega)]
  · refine Ai <| Ae <| zsr <| zmv rfl (hd 16 rfl) <| Ac (Al Cj rfl) (hd 17 rfl) <| Ac (Bt rfl rfl (Ag (by omega) (by omega))) (hd 18 rfl) <| zas rfl (hd 5 rfl) <| Ab <| Au ?_
    refine Bv (G := Nat) (fun k => k ≤ (Ar B32 x).length ∧ Ip (Ar B32 x) (Ar B32 y) k = Ip (Ar B32 x) (Ar B32 y) (Ar B32 x).length) (fun k => [(5, .i .i64 ((k : Int) - 1)), (4, .u), (19, .u), (20, .u), (21, .u), (22, .u), (23, .u), (24, .u), (25, .u), (26, .u), (27, .u), (28, .u), (29, .u), (30, .u), (31, .u), (32, .u), (33, .u), (34, .u), (35, .u), (36, .u), (37, .u), (38, .u), (39, .u), (40, .u)]) (fun _ => _) (fun k => k) (Ar B32 x).length ?_ ?_ rfl ?_
    · exact ⟨Nat.le_refl _, rfl⟩
    · exact (.cons rfl (.v9 (.v9 (.u (.u (.u .nil))))))
    · rintro k ⟨hc1, hc2⟩; refine Ae <| zsr <| zmv rfl (hd 19 rfl) <| Ac (Dl rfl rfl) (hd 20 rfl) <| Ab ?_
      refine Bc rfl (fun h3 => ?_) (fun h3 => ?_)
      · refine Ai <| Ae <| Au <| Ae <| Ae <| Cf (n := 9) _ rfl Dk <| A4 0 [2, 3, 8] (Am (At rfl) (hd 23 rfl)) rfl <| A4 1 [2, 3, 8] (Am (At rfl) (hd 24 rfl)) rfl <| A4 2 [3, 8] (Am (Bx (i := k - 1) Cj rfl rfl (by omega) (by omega)) (hd 25 rfl)) rfl <| zal 3 (Am (Bw Bm rfl rfl) (hd 26 rfl)) rfl <| A4 4 [6, 7, 8] (Am (At rfl) (hd 27 rfl)) rfl <| A4 5 [6, 7, 8] (Am (At rfl) (hd 28 rfl)) rfl <| A4 6 [7, 8] (Am (Bx (i := k - 1) Cj rfl rfl (by omega) (by omega)) (hd 29 rfl)) rfl ?_; refine zal 7 (Am (Bw Bm rfl rfl) (hd 30 rfl)) rfl <| zal 8 (Am (Bp rfl rfl) (hd 31 rfl)) rfl <| Bg (by kernel_rfl) ?_
        refine Bc rfl (fun h4 => ?_) (fun h4 => ?_)
        · refine zsr <| zas rfl (hd 4 rfl) <| Ab <| Ak ?_
          refine ⟨_, _, (.cons rfl .nil), .i, ?_⟩
          rw [← hcm, if_neg (by omega), if_neg (by omega), ← hc2, Qu (by omega) (by assumption)]
        · refine Ai <| Ae <| Cf (n := 9) _ rfl Dk <| A4 0 [2, 3, 8] (Am (At rfl) (hd 32 rfl)) rfl <| A4 1 [2, 3, 8] (Am (At rfl) (hd 33 rfl)) rfl <| A4 2 [3, 8] (Am (Bx (i := k - 1) Cj rfl rfl (by omega) (by omega)) (hd 34 rfl)) rfl <| zal 3 (Am (Bw Bm rfl rfl) (hd 35 rfl)) rfl <| A4 4 [6, 7, 8] (Am (At rfl) (hd 36 rfl)) rfl <| A4 5 [6, 7, 8] (Am (At rfl) (hd 37 rfl)) rfl <| A4 6 [7, 8] (Am (Bx (i := k - 1) Cj rfl rfl (by omega) (by omega)) (hd 38 rfl)) rfl <| zal 7 (Am (Bw Bm rfl rfl) (hd 39 rfl)) rfl <| zal 8 (Am (B6 rfl rfl) (hd 40 rfl)) rfl <| Bg (by kernel_rfl) ?_
          refine Bc rfl (fun h5 => ?_) (fun h5 => ?_)
          · refine zsr <| zas rfl (hd 4 rfl) <| Ab <| Ak ?_
            refine ⟨_, _, (.cons rfl .nil), .i, ?_⟩
            rw [← hcm, if_neg (by omega), if_neg (by omega), ← hc2, Qv (by omega) (by assumption)]
          · refine Ai <| Af <| zmv rfl (hd 21 rfl) <| Ac (Bt rfl rfl (Ag (by omega) (by omega))) (hd 22 rfl) <| zas rfl (hd 5 rfl) <| Ab ?_
            refine ⟨k - 1, ?_, ?_, rfl, Bb 47 rfl rfl ?_⟩
            · exact ⟨by omega, by rw [← hc2]; exact Qw (by omega) (by assumption) (by assumption)⟩
            · omega
            · exact (.cons (by show some (V.i .i64 _) = some (V.i .i64 _); congr 2; omega) (.v9 (.v9 (.u (.u (.u .nil))))))
      · refine Br <| zsr <| zas rfl (hd 4 rfl) <| Ab <| Ak ?_
        refine ⟨_, _, (.cons rfl .nil), .i, ?_⟩
        rw [← hcm, if_neg (by omega), if_neg (by omega), ← hc2]
        obtain rfl : k = 0 := by omega
        rfl

theorem Ty (x y : Nat) (hx : (Ar B32 x).length < 549755813888) (hy : (Ar B32 y).length < 549755813888) : Spec Tryd.prog 61 [.n false .u64 (Ar B32 x), .n false .u64 (Ar B32 y)] (fun o => o = .ret (.n false .u64 (Ar B32 (x + y)))) := by
  refine An [(0, .n false .u64 (Ar B32 x)), (1, .n false .u64 (Ar B32 y))] rfl Tryd.func61 rfl (zlb rfl) fun Γ hN hds hL hR => ?_
  have hd := Bu 44 hN
  refine zsr <| zas rfl (hd 4 rfl) <| Ab <| zsr <| zmv rfl (hd 10 rfl) <| Ac (Al Cj rfl) (hd 11 rfl) <| zas rfl (hd 5 rfl) <| Ab ?_
  refine Cx (G := Nat) (fun n => n = max (Ar B32 x).length (Ar B32 y).length) (fun n => [(5, .i .i64 (n : Int)), (12, .u), (13, .u), (14, .u), (15, .u), (16, .u), (17, .u)]) ?_ ?_
  · refine zsr <| zmv rfl (hd 12 rfl) <| Ac (Al Cj rfl) (hd 13 rfl) <| zmv rfl (hd 14 rfl) <| Ac (B6 rfl rfl) (hd 15 rfl) <| Ab ?_
    refine Bc rfl (fun h1 => ?_) (fun h1 => ?_)
    · refine Af <| zmv rfl (hd 16 rfl) <| Ac (Al Cj rfl) (hd 17 rfl) <| zas rfl (hd 5 rfl) <| Ab ?_
      refine ⟨(Ar B32 y).length, ?_, rfl, Bb 7 rfl rfl ?_⟩
      · omega
      · exact (.cons rfl (.v5 (.u .nil)))
    · refine Ai ?_
      refine ⟨(Ar B32 x).length, ?_, rfl, Bb 4 rfl rfl ?_⟩
      · omega
      · exact (.cons rfl (.v5 (.u .nil)))
  · rintro n hn; refine zsr <| zmv rfl (hd 18 rfl) <| Ac (Av rfl rfl (r := ((n + 1 : Nat) : Int)) (by rw [Ag (by omega) (by omega)]; omega)) (hd 19 rfl) <| Bl (Fp (m := n + 1) Rk rfl rfl rfl (by show 8 * (n + 1) ≤ _; omega) (by unfold maxLen; omega) rfl) (hd 20 rfl) <| zas rfl (hd 6 rfl) <| Ab <| Ae <| Hr (H' := [⟨58, 1, 0, true, ints .u64 (Ca (dvl (x + y) 0) (n + 1))⟩]) (by rw [← K1]; rfl) <| Af <| zas rfl (hd 7 rfl) <| Ab <| Ae ?_; refine zsr <| zas rfl (hd 8 rfl) <| Ab <| Au ?_
    refine Bv (G := Nat) (fun i => i ≤ n + 1) (fun i => [(7, .i .u64 (cry x y i : Int)), (8, .i .i64 (i : Int)), (9, .u), (21, .u), (22, .u), (23, .u), (24, .u), (25, .u), (26, .u), (27, .u), (28, .u), (29, .u), (30, .u), (31, .u), (32, .u), (33, .u), (34, .u), (35, .u), (36, .u), (37, .u), (38, .u), (39, .u), (40, .u), (41, .u)]) (fun i => [⟨58, 1, 0, true, ints .u64 (Ca (dvl (x + y) i) (n + 1))⟩]) (fun i => n + 1 - i) 0 ?_ ?_ rfl ?_
    · exact Nat.zero_le _
    · exact (.cons (by show some (V.i .u64 _) = some (V.i .u64 _); rw [Abw]; rfl) (.cons rfl (.v9 (.v9 (.u (.u .nil))))))
    · rintro i hc1
      have hfl := M1 (z := x + y) hc1
      have hcl := Uh x y i
      have had := Q6 x y i
      obtain ⟨dx, hdx⟩ : ∃ q, x / B32 ^ i % B32 = q := ⟨_, rfl⟩
      obtain ⟨dy, hdy⟩ : ∃ q, y / B32 ^ i % B32 = q := ⟨_, rfl⟩
      have hb1 : x / B32 ^ i % B32 < 4294967296 := Nat.mod_lt _ (by decide)
      have hb2 : y / B32 ^ i % B32 < 4294967296 := Nat.mod_lt _ (by decide)
      rw [hdx] at hb1
      rw [hdy] at hb2
      rw [hdx, hdy] at had
      have hv1 : (dx + dy + cry x y i) % 4294967296 = (x + y) / B32 ^ i % B32 := had.1
      have hv2 : (dx + dy + cry x y i) / 4294967296 = cry x y (i + 1) := had.2
      refine Ae <| zsr <| zmv rfl (hd 21 rfl) <| zmv rfl (hd 22 rfl) <| Ac (Lw rfl rfl) (hd 23 rfl) <| Ab ?_
      refine Bc rfl (fun h2 => ?_) (fun h2 => ?_)
      · refine Ai <| Ae <| Au <| zsr <| zmv rfl (hd 26 rfl) <| zmv rfl (hd 27 rfl) ?_
        refine Aj Tryd.f82 (Abz x i dx (by omega) hdx) rfl Tryd.func82 rfl rfl (Aa rfl (Aa rfl Ad)) (.cons .n (.cons .i .nil)) (hd 28 rfl) ?_ (fun ch hp => by simp at hp)
        rintro _ ⟨⟩; refine zmv rfl (hd 29 rfl) <| zmv rfl (hd 30 rfl) ?_
        refine Aj Tryd.f82 (Abz y i dy (by omega) hdy) rfl Tryd.func82 rfl rfl (Aa rfl (Aa rfl Ad)) (.cons .n (.cons .i .nil)) (hd 31 rfl) ?_ (fun ch hp => by simp at hp)
        rintro _ ⟨⟩; refine Ac (Av rfl rfl (r := ((dx + dy : Nat) : Int)) (by rw [A5 (by omega) (by omega)]; omega)) (hd 32 rfl) <| zmv rfl (hd 33 rfl) <| Ac (Av rfl rfl (r := ((dx + dy + cry x y i : Nat) : Int)) (by rw [A5 (by omega) (by omega)]; omega)) (hd 34 rfl) <| zas rfl (hd 9 rfl) <| Ab <| zsr <| zmv rfl (hd 35 rfl) <| zmv rfl (hd 36 rfl) <| zmv rfl (hd 37 rfl) <| Ac (Bo (D8 rfl rfl (by decide) rfl) (show V.i .u64 (((dx + dy + cry x y i : Nat) : Int).tmod 4294967296) = V.i .u64 (dgt (x + y) i) by rw [show (((dx + dy + cry x y i : Nat) : Int).tmod 4294967296) = (((dx + dy + cry x y i) % 4294967296 : Nat) : Int) from rfl, hv1]; rfl)) (hd 38 rfl) <| Ac (Cz (i := i) Cj rfl rfl rfl (by first | rfl | omega) (by first | omega | (dsimp only; omega)) rfl) (hd 39 rfl) <| A6 (Bz rfl rfl rfl Bm (by first | omega | (dsimp only; omega))) ?_; refine Ab <| Af <| zmv rfl (hd 40 rfl) <| Ac (D3 rfl rfl (by decide) (r := ((cry x y (i + 1) : Nat) : Int)) (by rw [show (((dx + dy + cry x y i : Nat) : Int).tdiv 4294967296) = (((dx + dy + cry x y i) / 4294967296 : Nat) : Int) from rfl, hv2]; have := Uh x y (i + 1); rw [A5 (by omega) (by omega)])) (hd 41 rfl) <| zas rfl (hd 7 rfl) <| Ab <| Af <| zmv rfl (hd 24 rfl) <| Ac (Av rfl rfl (Ag (by first | omega | (dsimp only; omega)) (by first | omega | (dsimp only; omega)))) (hd 25 rfl) <| zas rfl (hd 8 rfl) <| Ab ?_
        refine ⟨i + 1, ?_, ?_, (by show [(⟨58, 1, 0, true, ints .u64 _⟩ : Ob)] = [⟨58, 1, 0, true, ints .u64 _⟩]; rw [M2 (by omega)]), Bb 48 rfl rfl ?_⟩
        · omega
        · omega
        · exact (.cons rfl (.cons rfl (.v9 (.v9 (.u (.u .nil))))))
      · refine Br <| Ae ?_
        obtain rfl : i = n + 1 := by omega
        refine I8 (k := .u64) (l' := dvl (x + y) (n + 1)) 6 rfl rfl (by rw [Ht, Ee]; omega) (by rw [Ht, List.drop_zero, List.take_of_length_le (by rw [Ee]; omega)]) hL <| Af <| zmv rfl (hd 42 rfl) ?_
        refine Aj Tryd.f44 (Fz (dvl (x + y) (n + 1)) (by rw [Ee]; omega)) rfl Tryd.func44 rfl rfl (Aa rfl Ad) (.cons .n .nil) (hd 43 rfl) ?_ (fun ch hp => by simp at hp)
        rintro _ ⟨⟩; refine zas rfl (hd 4 rfl) <| Ab <| Ak ?_
        refine ⟨_, _, (.cons rfl .nil), .n, ?_⟩
        rw [Oc (Tm (by omega) (by omega))]

theorem Mm (x y : Nat) (hle : y ≤ x) (hx : (Ar B32 x).length < 1099511627776) (hy : (Ar B32 y).length < 1099511627776) : Spec Tryd.prog 63 [.n false .u64 (Ar B32 x), .n false .u64 (Ar B32 y)] (fun o => o = .ret (.n false .u64 (Ar B32 (x - y)))) := by
  refine An [(0, .n false .u64 (Ar B32 x)), (1, .n false .u64 (Ar B32 y))] rfl Tryd.func63 rfl (zlb rfl) fun Γ hN hds hL hR => ?_
  have hd := Bu 39 hN
  refine zsr <| zas rfl (hd 4 rfl) <| Ab <| zsr <| zmv rfl (hd 9 rfl) <| Ac (Al Cj rfl) (hd 10 rfl) <| Bl (Fp (m := (Ar B32 x).length) Rk rfl rfl rfl (by show 8 * (Ar B32 x).length ≤ _; omega) (by unfold maxLen; omega) rfl) (hd 11 rfl) <| zas rfl (hd 5 rfl) <| Ab <| Ae <| Hr (H' := [⟨58, 1, 0, true, ints .u64 (Ca (dvl (x - y) 0) (Ar B32 x).length)⟩]) (by rw [← K1]; rfl) ?_; refine Af <| zas rfl (hd 6 rfl) <| Ab <| Ae <| zsr <| zmv rfl (hd 12 rfl) <| Ac (Al Cj rfl) (hd 13 rfl) <| zmv rfl (hd 14 rfl) <| Ab <| Au ?_
  refine Bv (G := Nat) (fun i => i ≤ (Ar B32 x).length) (fun i => [(6, .i .u64 (brw x y i : Int)), (14, .i .i64 (i : Int)), (7, .u), (8, .u), (15, .u), (16, .u), (17, .u), (18, .u), (19, .u), (20, .u), (21, .u), (22, .u), (23, .u), (24, .u), (25, .u), (26, .u), (27, .u), (28, .u), (29, .u), (30, .u), (31, .u), (32, .u), (33, .u), (34, .u), (35, .u), (36, .u)]) (fun i => [⟨58, 1, 0, true, ints .u64 (Ca (dvl (x - y) i) ((Ar B32 x).length))⟩]) (fun i => (Ar B32 x).length - i) 0 ?_ ?_ rfl ?_
  · exact Nat.zero_le _
  · exact (.cons (by show some (V.i .u64 _) = some (V.i .u64 _); rw [Abx]; rfl) (.cons rfl (.v9 (.v9 (.u (.u (.u (.u .nil))))))))
  · rintro i hc1
    have hfl := M1 (z := x - y) hc1
    have hcl := Uk x y i
    have had := Ok hle i
    have hvx := Io (b := B32) (by decide) i x
    obtain ⟨dx, hdx⟩ : ∃ q, x / B32 ^ i % B32 = q := ⟨_, rfl⟩
    obtain ⟨dy, hdy⟩ : ∃ q, y / B32 ^ i % B32 = q := ⟨_, rfl⟩
    have hb1 : x / B32 ^ i % B32 < 4294967296 := Nat.mod_lt _ (by decide)
    have hb2 : y / B32 ^ i % B32 < 4294967296 := Nat.mod_lt _ (by decide)
    rw [hdx] at hb1
    rw [hdy] at hb2
    rw [hdx, hdy] at had
    rw [hdx] at hvx
    have hv1 : (dx + 4294967296 - dy - brw x y i) % 4294967296 = (x - y) / B32 ^ i % B32 := had.1
    have hv2 : 1 - (dx + 4294967296 - dy - brw x y i) / 4294967296 = brw x y (i + 1) := had.2
    refine zsr <| Ac (Bp rfl rfl) (hd 15 rfl) <| Ab <| Ae ?_
    refine Bc rfl (fun h1 => ?_) (fun h1 => ?_)
    · refine Ai <| Ae <| Au <| zsr <| zmv rfl (hd 16 rfl) <| zas rfl (hd 7 rfl) <| Ab <| Ae <| Cf (n := 12) _ rfl Dk <| A4 0 [2, 3, 4, 8, 10, 11] (Am (At rfl) (hd 17 rfl)) rfl <| A4 1 [2, 3, 4, 8, 10, 11] (Am (At rfl) (hd 18 rfl)) rfl <| A4 2 [3, 4, 8, 10, 11] (Am (Bx (i := i) Cj rfl rfl (by first | rfl | omega) (by omega)) (hd 19 rfl)) rfl ?_; refine A4 3 [4, 8, 10, 11] (Am (Bo (Bw Bm rfl rfl) (by exact congrArg (V.i .u64) hvx)) (hd 20 rfl)) rfl <| A4 4 [8, 10, 11] (Am (Av rfl rfl (r := ((dx + 4294967296 : Nat) : Int)) (by rw [A5 (by omega) (by omega)]; omega)) (hd 21 rfl)) rfl <| A4 5 [7, 8, 10, 11] (Am (At rfl) (hd 22 rfl)) rfl <| A4 6 [7, 8, 10, 11] (Am (At rfl) (hd 23 rfl)) rfl <| zal 9 (Am (At rfl) (hd 26 rfl)) rfl ?_
      refine A0 7 ?_ rfl (by kernel_rfl)
      refine As Tryd.f82 (Abz y i dy hy hdy) rfl Tryd.func82 rfl rfl (Aa rfl (Aa rfl Ad)) (.cons .n (.cons .i .nil)) (hd 24 rfl) ?_ (fun ch hp => by simp at hp)
      rintro _ ⟨⟩; refine zal 8 (Am (Bt rfl rfl (r := ((dx + 4294967296 - dy : Nat) : Int)) (by rw [A5 (by omega) (by omega)]; omega)) (hd 25 rfl)) rfl <| zal 10 (Am (Bt rfl rfl (r := ((dx + 4294967296 - dy - brw x y i : Nat) : Int)) (by rw [A5 (by omega) (by omega)]; omega)) (hd 27 rfl)) rfl <| zal 11 (Am (Fo rfl) (hd 8 rfl)) rfl <| Bg (by kernel_rfl) <| zsr <| zmv rfl (hd 28 rfl) <| zmv rfl (hd 29 rfl) <| zmv rfl (hd 30 rfl) <| Ac (Bo (D8 rfl rfl (by decide) rfl) (show V.i .u64 (((dx + 4294967296 - dy - brw x y i : Nat) : Int).tmod 4294967296) = V.i .u64 (dgt (x - y) i) by rw [show (((dx + 4294967296 - dy - brw x y i : Nat) : Int).tmod 4294967296) = (((dx + 4294967296 - dy - brw x y i) % 4294967296 : Nat) : Int) from rfl, hv1]; rfl)) (hd 31 rfl) <| Ac (Cz (i := i) Cj rfl rfl rfl (by first | rfl | omega) (by first | omega | (dsimp only; omega)) rfl) (hd 32 rfl) <| A6 (Bz rfl rfl rfl Bm (by first | omega | (dsimp only; omega))) <| Ab ?_; refine Af <| zmv rfl (hd 33 rfl) <| Ac (D3 rfl rfl (by decide) (r := (((dx + 4294967296 - dy - brw x y i) / 4294967296 : Nat) : Int)) (by rw [show (((dx + 4294967296 - dy - brw x y i : Nat) : Int).tdiv 4294967296) = (((dx + 4294967296 - dy - brw x y i) / 4294967296 : Nat) : Int) from rfl, A5 (by omega) (by omega)])) (hd 34 rfl) <| Ac (Bt rfl rfl (r := ((brw x y (i + 1) : Nat) : Int)) (by rw [← hv2]; rw [A5 (by omega) (by omega)]; omega)) (hd 35 rfl) <| zas rfl (hd 6 rfl) <| Ab <| Af <| Ac (Av rfl rfl (Ag (by first | omega | (dsimp only; omega)) (by first | omega | (dsimp only; omega)))) (hd 36 rfl) <| zmv rfl (hd 14 rfl) <| Ab ?_
      refine ⟨i + 1, ?_, ?_, (by show [(⟨58, 1, 0, true, ints .u64 _⟩ : Ob)] = [⟨58, 1, 0, true, ints .u64 _⟩]; rw [M2 (by omega)]), Bb 52 rfl rfl ?_⟩
      · omega
      · omega
      · exact (.cons rfl (.cons rfl (.v9 (.v9 (.u (.u (.u (.u .nil))))))))
    · refine Br <| Ae ?_
      obtain rfl : i = (Ar B32 x).length := by omega
      refine I8 (k := .u64) (l' := dvl (x - y) (Ar B32 x).length) 5 rfl rfl (by rw [Ht, Ee]; omega) (by rw [Ht, List.drop_zero, List.take_of_length_le (by rw [Ee]; omega)]) hL <| Af <| zmv rfl (hd 37 rfl) ?_
      refine Aj Tryd.f44 (Fz (dvl (x - y) (Ar B32 x).length) (by rw [Ee]; omega)) rfl Tryd.func44 rfl rfl (Aa rfl Ad) (.cons .n .nil) (hd 38 rfl) ?_ (fun ch hp => by simp at hp)
      rintro _ ⟨⟩; refine zas rfl (hd 4 rfl) <| Ab <| Ak ?_
      refine ⟨_, _, (.cons rfl .nil), .n, ?_⟩
      rw [Oc Z4]

theorem Yz (a b : List Int) (hla : a.length < 549755813888) (hlb : b.length < 549755813888) (ra : rng B32 a) (rb : rng B32 b) : Spec Tryd.prog 22 [.n false .u64 a, .n false .u64 b] (fun o => ∃ r, o = .ret (.n false .u64 (trm r)) ∧ rng B32 r ∧ vb B32 r = vb B32 a * vb B32 b) := by
  refine An [(0, .n false .u64 a), (1, .n false .u64 b)] rfl Tryd.func22 rfl (zlb rfl) fun Γ hN hds hL hR => ?_
  have hd := Bu 65 hN
  have hB : B32 = 4294967296 := rfl
  refine zsr <| zas rfl (hd 4 rfl) <| Ab <| zsr <| zmv rfl (hd 12 rfl) <| Ac (Al Cj rfl) (hd 13 rfl) <| zmv rfl (hd 14 rfl) <| Ac (Al Cj rfl) (hd 15 rfl) <| Ac (Av rfl rfl (r := ((a.length + b.length : Nat) : Int)) (by rw [Ag (by omega) (by omega)]; omega)) (hd 16 rfl) <| Ac (Av rfl rfl (r := ((a.length + b.length + 1 : Nat) : Int)) (by rw [Ag (by omega) (by omega)]; omega)) (hd 17 rfl) <| Bl (Fp (m := a.length + b.length + 1) Rk rfl rfl rfl (by show 8 * (a.length + b.length + 1) ≤ _; omega) (by unfold maxLen; omega) rfl) (hd 18 rfl) ?_; refine zas rfl (hd 5 rfl) <| Ab <| Ae <| zsr <| zmv rfl (hd 19 rfl) <| Ac (Al Cj rfl) (hd 20 rfl) <| zmv rfl (hd 21 rfl) <| Ab <| Au ?_
  refine Bv (G := Nat × List Int) (fun g => g.1 ≤ a.length ∧ g.2.length = a.length + b.length + 1 ∧ rng B32 g.2 ∧ D.vl g.2 = D.vk a g.1 * D.vl b ∧ ∀ j, g.1 + b.length ≤ j → g.2.getD j 0 = 0) (fun g => [(21, .i .i64 (g.1 : Int)), (6, .u), (7, .u), (8, .u), (9, .u), (10, .u), (11, .u), (22, .u), (23, .u), (24, .u), (25, .u), (26, .u), (27, .u), (28, .u), (29, .u), (30, .u), (31, .u), (32, .u), (33, .u), (34, .u), (35, .u), (36, .u), (37, .u), (38, .u), (39, .u), (40, .u), (41, .u), (42, .u), (43, .u), (44, .u), (45, .u), (46, .u), (47, .u), (48, .u), (49, .u), (50, .u), (51, .u), (52, .u), (53, .u), (54, .u), (55, .u), (56, .u), (57, .u), (58, .u), (59, .u), (60, .u), (61, .u), (62, .u)]) (fun g => [⟨58, 1, 0, true, ints .u64 g.2⟩]) (fun g => a.length - g.1) (0, List.replicate (a.length + b.length + 1) 0) ?_ ?_ rfl ?_
  · exact ⟨Nat.zero_le _, List.length_replicate, fun x hx => by rw [List.eq_of_mem_replicate hx]; exact ⟨Int.le_refl 0, by decide⟩, by show D.vl (List.replicate (a.length + b.length + 1) 0) = D.vk a 0 * _; rw [D.vk_0, Int.zero_mul, ← X4]; have h9 := L9 4294967296 [] (a.length + b.length + 1); rw [List.nil_append] at h9; exact h9, fun j _ => I9 _ j⟩
  · exact (.cons rfl (.v9 (.v9 (.v9 (.v9 (.v5 (.u (.u .nil))))))))
  · rintro ⟨i, r⟩ ⟨hc1, hc2, hc3, hc4, hc5⟩
    dsimp only at hc1 hc2 hc3 hc4 hc5 ⊢
    have hX : 0 ≤ a.getD i 0 ∧ a.getD i 0 < 4294967296 := Er (by decide) ra i
    refine zsr <| Ac (Bp rfl rfl) (hd 22 rfl) <| Ab <| Ae ?_
    refine Bc rfl (fun h1 => ?_) (fun h1 => ?_)
    · refine Ai <| Ae <| Au <| zsr <| zmv rfl (hd 23 rfl) <| Ac (Bx (i := i) Cj rfl rfl (by first | rfl | omega) (by first | omega | (dsimp only; omega))) (hd 24 rfl) <| Ac (Bw Bm rfl rfl) (hd 25 rfl) <| zas rfl (hd 6 rfl) <| zas rfl (hd 7 rfl) <| Ab <| Ae <| Af ?_; refine zas rfl (hd 8 rfl) <| Ab <| Ae <| zsr <| zmv rfl (hd 26 rfl) <| Ac (Al Cj rfl) (hd 27 rfl) <| zmv rfl (hd 28 rfl) <| Ab <| Au ?_
      refine Bv (G := Nat × List Int × Int) (fun g => g.1 ≤ b.length ∧ g.2.1.length = a.length + b.length + 1 ∧ rng B32 g.2.1 ∧ (0 ≤ g.2.2 ∧ g.2.2 < 4294967296) ∧ D.vl g.2.1 + g.2.2 * D.pB (i + g.1) = D.vl r + a.getD i 0 * D.pB i * D.vk b g.1 ∧ ∀ j, i + b.length ≤ j → g.2.1.getD j 0 = 0) (fun g => [(8, .i .u64 g.2.2), (28, .i .i64 (g.1 : Int)), (9, .u), (10, .u), (11, .u), (29, .u), (30, .u), (31, .u), (32, .u), (33, .u), (34, .u), (35, .u), (36, .u), (37, .u), (38, .u), (39, .u), (40, .u), (41, .u), (42, .u), (43, .u), (44, .u), (45, .u), (46, .u), (47, .u), (48, .u), (49, .u), (50, .u), (51, .u), (52, .u), (53, .u), (54, .u)]) (fun g => [⟨58, 1, 0, true, ints .u64 g.2.1⟩]) (fun g => b.length - g.1) (0, r, 0) ?_ ?_ rfl ?_
      · exact ⟨Nat.zero_le _, hc2, hc3, ⟨Int.le_refl 0, by show (0 : Int) < _; decide⟩, by show D.vl r + 0 * _ = _ + _ * D.vk b 0; rw [D.vk_0, Int.mul_zero, Int.zero_mul], hc5⟩
      · exact (.cons rfl (.cons rfl (.v9 (.v9 (.v5 (.u (.u (.u (.u .nil)))))))))
      · rintro ⟨k, q, c⟩ ⟨hd1, hd2, hd3, hd4, hd5, hd6⟩
        dsimp only at hd1 hd2 hd3 hd4 hd5 hd6
        have hY : 0 ≤ b.getD k 0 ∧ b.getD k 0 < 4294967296 := Er (by decide) rb k
        have hT : 0 ≤ q.getD (i + k) 0 ∧ q.getD (i + k) 0 < 4294967296 := Er (by decide) hd3 (i + k)
        have hP := Ia (m := 4294967295) hX.1 hY.1 (by omega) (by omega)
        have hP2 : (a.getD i 0 * b.getD k 0) ≤ 18446744065119617025 := by have := hP.2; simpa using this
        have hP1 := hP.1
        refine zsr <| Ac (Bp rfl rfl) (hd 29 rfl) <| Ab <| Ae ?_
        refine Bc rfl (fun h2 => ?_) (fun h2 => ?_)
        · refine Ai <| Ae <| Au <| zsr <| zmv rfl (hd 30 rfl) <| Ac (Bx (i := k) Cj rfl rfl (by first | rfl | omega) (by first | omega | (dsimp only; omega))) (hd 31 rfl) <| Ac (Bw Bm rfl rfl) (hd 32 rfl) <| zas rfl (hd 9 rfl) <| zas rfl (hd 10 rfl) <| Ab <| Ae <| Af ?_; refine zmv rfl (hd 33 rfl) <| zmv rfl (hd 34 rfl) <| Ac (Dn rfl rfl (r := (a.getD i 0 * b.getD k 0)) (by rw [A5 (by omega) (by omega)])) (hd 35 rfl) <| zmv rfl (hd 36 rfl) <| zmv rfl (hd 37 rfl) <| zmv rfl (hd 38 rfl) <| Ac (Av rfl rfl (r := ((i + k : Nat) : Int)) (by rw [Ag (by omega) (by omega)]; omega)) (hd 39 rfl) <| Ac (Cz (i := i + k) Cj rfl rfl rfl (by first | rfl | omega) (by first | omega | (dsimp only; omega)) rfl) (hd 40 rfl) <| Ac (Bo (Fv Bm rfl rfl (by dsimp only; omega)) (show V.i .u64 (q.getD ((0 + (i + k)) * 1) 0) = V.i .u64 (q.getD (i + k) 0) by rw [Nat.zero_add, Nat.mul_one])) (hd 41 rfl) <| Ac (Av rfl rfl (r := (a.getD i 0 * b.getD k 0) + q.getD (i + k) 0) (by rw [A5 (by omega) (by omega)])) (hd 42 rfl) <| zmv rfl (hd 43 rfl) <| Ac (Av rfl rfl (r := ((a.getD i 0 * b.getD k 0) + q.getD (i + k) 0 + c)) (by rw [A5 (by dsimp only; omega) (by dsimp only; omega)])) (hd 44 rfl) <| zas rfl (hd 11 rfl) ?_; refine Ab <| zsr <| zmv rfl (hd 45 rfl) <| zmv rfl (hd 46 rfl) <| zmv rfl (hd 47 rfl) <| Ac (Av rfl rfl (r := ((i + k : Nat) : Int)) (by rw [Ag (by omega) (by omega)]; omega)) (hd 48 rfl) <| zmv rfl (hd 49 rfl) <| Ac (Bo (D8 rfl rfl (by decide) rfl) (congrArg (V.i .u64) (Int.tmod_eq_emod_of_nonneg (by omega)))) (hd 50 rfl) <| Ac (Cz (i := i + k) Cj rfl rfl rfl (by first | rfl | omega) (by first | omega | (dsimp only; omega)) rfl) (hd 51 rfl) <| A6 (Bz rfl rfl rfl Bm (by dsimp only; omega)) <| Ab <| Af ?_; refine zmv rfl (hd 52 rfl) <| Ac (D3 rfl rfl (by decide) (r := ((a.getD i 0 * b.getD k 0) + q.getD (i + k) 0 + c) / 4294967296) (by rw [Int.tdiv_eq_ediv_of_nonneg (by omega), A5 (by omega) (by omega)])) (hd 53 rfl) <| zas rfl (hd 8 rfl) <| Ab <| Af <| Ac (Av rfl rfl (Ag (by first | omega | (dsimp only; omega)) (by first | omega | (dsimp only; omega)))) (hd 54 rfl) <| zmv rfl (hd 28 rfl) <| Ab ?_
          refine ⟨(k + 1, q.set ((0 + (i + k)) * 1) (((a.getD i 0 * b.getD k 0) + q.getD (i + k) 0 + c) % 4294967296), ((a.getD i 0 * b.getD k 0) + q.getD (i + k) 0 + c) / 4294967296), ?_, ?_, rfl, Bb 62 rfl rfl ?_⟩
          · refine ⟨by show k + 1 ≤ b.length; omega, by rw [List.length_set]; exact hd2, Oy hd3 (by omega) (by show _ < ((4294967296 : Nat) : Int); omega), ⟨by show 0 ≤ ((a.getD i 0 * b.getD k 0) + q.getD (i + k) 0 + c) / 4294967296; omega, by show ((a.getD i 0 * b.getD k 0) + q.getD (i + k) 0 + c) / 4294967296 < 4294967296; omega⟩, ?_, fun j hj => ?_⟩
            · exact D.school_in (by omega) (by rw [Nat.zero_add, Nat.mul_one]) rfl hd5 (by show ((a.getD i 0 * b.getD k 0) + q.getD (i + k) 0 + c) % 4294967296 + 4294967296 * (((a.getD i 0 * b.getD k 0) + q.getD (i + k) 0 + c) / 4294967296) = q.getD (i + k) 0 + (a.getD i 0 * b.getD k 0) + c; omega)
            · rw [Nat.zero_add, Nat.mul_one, Hs (by omega)]; exact hd6 j hj
          · show b.length - (k + 1) < b.length - k
            omega
          · exact (.cons rfl (.cons rfl (.v9 (.v9 (.v5 (.u (.u (.u (.u .nil)))))))))
        · obtain rfl : k = b.length := by omega
          refine Br <| Af <| zmv rfl (hd 55 rfl) <| zmv rfl (hd 56 rfl) <| zmv rfl (hd 57 rfl) <| Ac (Al Cj rfl) (hd 58 rfl) <| Ac (Av rfl rfl (r := ((i + b.length : Nat) : Int)) (by rw [Ag (by omega) (by omega)]; omega)) (hd 59 rfl) <| zmv rfl (hd 60 rfl) <| Ac (Cz (i := i + b.length) Cj rfl rfl rfl (by first | rfl | omega) (by first | omega | (dsimp only; omega)) rfl) (hd 61 rfl) <| A6 (Bz rfl rfl rfl Bm (by dsimp only; omega)) <| Ab <| Af <| Ac (Av rfl rfl (Ag (by first | omega | (dsimp only; omega)) (by first | omega | (dsimp only; omega)))) (hd 62 rfl) ?_; refine zmv rfl (hd 21 rfl) <| Ab ?_
          refine ⟨(i + 1, q.set ((0 + (i + b.length)) * 1) c), ?_, ?_, rfl, Bb 99 rfl rfl ?_⟩
          · exact ⟨by show i + 1 ≤ a.length; omega, by rw [List.length_set]; exact hd2, Oy hd3 hd4.1 hd4.2, D.school_row (by omega) (hd6 _ (Nat.le_refl _)) (by rw [Nat.zero_add, Nat.mul_one]) (by rw [hd5, hc4]), fun j hj => by rw [Nat.zero_add, Nat.mul_one, Hs (by omega)]; exact hd6 j (by omega)⟩
          · show a.length - (i + 1) < a.length - i
            omega
          · exact (.cons rfl (.v9 (.v9 (.v9 (.v9 (.v5 (.u (.u .nil))))))))
    · refine Br <| Ae ?_
      obtain rfl : i = a.length := by omega
      refine I8 (k := .u64) (l' := r) 5 rfl rfl (by omega) (by rw [List.drop_zero, List.take_of_length_le (by omega)]) hL <| Af <| zmv rfl (hd 63 rfl) ?_
      refine Aj Tryd.f44 (Fz r (by omega)) rfl Tryd.func44 rfl rfl (Aa rfl Ad) (.cons .n .nil) (hd 64 rfl) ?_ (fun ch hp => by simp at hp)
      rintro _ ⟨⟩; refine zas rfl (hd 4 rfl) <| Ab <| Ak ?_
      refine ⟨_, _, (.cons rfl .nil), .n, ?_⟩
      exact ⟨r, rfl, hc3, by rw [X4, X4, X4, hc4, D.vk_all (Nat.le_refl _)]⟩

theorem O7 (x y : Nat) (hx : (Ar B32 x).length < 549755813888) (hy : (Ar B32 y).length < 549755813888) : Spec Tryd.prog 22 [.n false .u64 (Ar B32 x), .n false .u64 (Ar B32 y)] (fun o => o = .ret (.n false .u64 (Ar B32 (x * y)))) :=
  (Yz _ _ hx hy (Es (by decide) x) (Es (by decide) y)).mono fun o ⟨r, ho, h1, h2⟩ => by
    rw [ho, Ef (b := B32) (n := x * y) (by decide) h1 (by rw [h2, Hy (by decide), Hy (by decide), Int.natCast_mul])]

theorem Cl (s : Bool) (n : Nat) : Spec Tryd.prog 24 [.b s, .n false .u64 (Ar B32 n)] (fun o => o = .ret (.a [.b (decide ((zs s n) < 0)), .n false .u64 (dg (zs s n))])) := by
  have h := Jr s (Ar B32 n)
  rw [Abm] at h
  rw [Abu]
  exact h
theorem Wl (s : Bool) (l : List Int) (hu : Az l) : Spec Tryd.prog 24 [.b s, .n false .u64 (trm (dig l))] (fun o => o = .ret (.a [.b (decide ((sv s l) < 0)), .n false .u64 (dg (sv s l))])) := by
  have h := Jr s (trm (dig l))
  rw [Up hu, Gs (s := s) hu rfl] at h
  rw [Gs (s := s) hu rfl]
  exact h

theorem Xh (s : Bool) (l : List Int) (hl : l.length < 4294967296) (hu : Az l) : Spec Tryd.prog 8 [.b s, .n false .u64 l] (fun o => o = .ret (.a [.b (decide ((sv s l) < 0)), .n false .u64 (dg (sv s l))])) := by
  refine An [(0, .b s), (1, .n false .u64 l)] rfl Tryd.func8 rfl (zlb rfl) fun Γ hN hds hL hR => ?_
  have hd := Bu 9 hN
  refine zsr <| Bl (Ao (id := 0) Bd (by decide) rfl (by decide) rfl) (hd 4 rfl) <| Ab <| zsr <| zmv rfl (hd 5 rfl) <| zmv rfl (hd 6 rfl) ?_
  refine Aj Tryd.f25 (V7 l hl hu) rfl Tryd.func25 rfl rfl (Aa rfl Ad) (.cons .n .nil) (hd 7 rfl) ?_ (fun ch hp => by simp at hp)
  rintro y hy; injection hy with hy; subst hy
  refine Aj Tryd.f24 (Wl s l hu) rfl Tryd.func24 rfl rfl (Aa rfl (Aa rfl Ad)) (.cons .b (.cons .n .nil)) (hd 8 rfl) ?_ (fun ch hp => by simp at hp)
  rintro _ ⟨⟩; refine A6 (Ah rfl rfl rfl A2 rfl rfl (zlb rfl)) <| Ab <| Ak ?_
  refine ⟨_, _, (.cons (ResV.cell A7 rfl rfl rfl rfl) .nil), (.a1 .b (.a1 .n .a0)), ?_⟩
  exact rfl

theorem Ade (s : Bool) (l : List Int) (hl : l.length < 4294967296) (hu : Az l) : Spec Tryd.prog 5 [.a [.b s, .n false .u64 l]] (fun o => o = .ret (.a [.b (decide ((sv s l) < 0)), .n false .u64 (dg (sv s l))])) := by
  refine An [(0, .a [.b s, .n false .u64 l])] rfl Tryd.func5 rfl (zlb rfl) fun Γ hN hds hL hR => ?_
  have hd := Bu 8 hN
  refine zsr <| Bl (Ci (id := 0) (n := 2) rfl rfl rfl (by decide) rfl) (hd 1 rfl) <| Bl (Ao (id := 1) Bd (by decide) rfl (by decide) rfl) (hd 2 rfl) <| Ab <| zsr <| Ac (Ba Qi rfl rfl rfl) (hd 3 rfl) <| Ac (A9 Ez rfl rfl rfl) (hd 4 rfl) <| Ac (Ba Ly rfl rfl rfl) (hd 5 rfl) <| Ac (A9 Nm rfl rfl rfl) (hd 6 rfl) ?_
  refine Aj Tryd.f8 (Xh s l hl hu) rfl Tryd.func8 rfl rfl (Aa rfl (Aa rfl Ad)) (.cons .b (.cons .n .nil)) (hd 7 rfl) ?_ (fun ch hp => by simp at hp)
  rintro _ ⟨⟩; refine A6 (Ah rfl rfl rfl A2 rfl rfl (zlb rfl)) <| Ab <| Ak ?_
  refine ⟨_, _, (.cons (ResV.cell A7 rfl rfl rfl rfl) .nil), (.a1 .b (.a1 .n .a0)), ?_⟩
  exact rfl

theorem Aag (v : Int) : Spec Tryd.prog 65 [.a [.b (decide (v < 0)), .n false .u64 (dg v)]] (fun o => o = .ret (.a [.b (decide ((-v) < 0)), .n false .u64 (dg (-v))])) := by
  refine An [(0, .a [.b (decide (v < 0)), .n false .u64 (dg v)])] rfl Tryd.func65 rfl (zlb rfl) fun Γ hN hds hL hR => ?_
  have hd := Bu 9 hN
  refine zsr <| Bl (Ci (id := 0) (n := 2) rfl rfl rfl (by decide) rfl) (hd 1 rfl) <| Bl (Ao (id := 1) Bd (by decide) rfl (by decide) rfl) (hd 2 rfl) <| Ab <| zsr <| Ac (Ba C6 rfl rfl rfl) (hd 3 rfl) <| Ac (A9 Ez rfl rfl rfl) (hd 4 rfl) <| Ac (G7 rfl) (hd 5 rfl) <| Ac (Ba Cr rfl rfl rfl) (hd 6 rfl) <| Ac (A9 D6 rfl rfl rfl) (hd 7 rfl) ?_
  refine Aj Tryd.f24 (Cl (!decide (v < 0)) v.natAbs) rfl Tryd.func24 rfl rfl (Aa rfl (Aa rfl Ad)) (.cons .b (.cons .n .nil)) (hd 8 rfl) ?_ (fun ch hp => by simp at hp)
  rintro _ ⟨⟩; refine A6 (Ah rfl rfl rfl A2 rfl rfl (zlb rfl)) <| Ab <| Ak ?_
  refine ⟨_, _, (.cons (ResV.cell A7 rfl rfl rfl rfl) .nil), (.a1 .b (.a1 .n .a0)), ?_⟩
  rw [Acu]

theorem Aah (x y : Int) (hx : (dg x).length < 549755813888) (hy : (dg y).length < 549755813888) : Spec Tryd.prog 64 [.a [.b (decide (x < 0)), .n false .u64 (dg x)], .a [.b (decide (y < 0)), .n false .u64 (dg y)]] (fun o => o = .ret (.a [.b (decide ((x + y) < 0)), .n false .u64 (dg (x + y))])) := by
  refine An [(0, .a [.b (decide (x < 0)), .n false .u64 (dg x)]), (1, .a [.b (decide (y < 0)), .n false .u64 (dg y)])] rfl Tryd.func64 rfl (zlb rfl) fun Γ hN hds hL hR => ?_
  have hd := Bu 40 hN
  refine zsr <| Bl (Ci (id := 0) (n := 2) rfl rfl rfl (by decide) rfl) (hd 2 rfl) <| Bl (Ci (id := 1) (n := 2) rfl rfl rfl (by decide) rfl) (hd 3 rfl) <| Bl (Ao (id := 2) Bd (by decide) rfl (by decide) rfl) (hd 4 rfl) <| Ab <| Ae <| zsr <| Ac (Ba C6 rfl rfl rfl) (hd 5 rfl) <| Ac (A9 Ez rfl rfl rfl) (hd 6 rfl) <| Ac (Ba C6 rfl rfl rfl) (hd 7 rfl) <| Ac (A9 Ez rfl rfl rfl) (hd 8 rfl) ?_; refine Ac (T7 Xs rfl rfl) (hd 9 rfl) <| Ab ?_
  refine G0 rfl (fun h1 => ?_) (fun h1 => ?_)
  · refine Ae <| Cf (n := 9) _ rfl Dk <| A4 0 [1, 7, 8] (Am (Ba C6 rfl rfl rfl) (hd 10 rfl)) rfl <| zal 1 (Am (A9 Ez rfl rfl rfl) (hd 11 rfl)) rfl <| A4 2 [3, 6, 7, 8] (Am (Ba Cr rfl rfl rfl) (hd 12 rfl)) rfl <| A4 3 [6, 7, 8] (Am (A9 D6 rfl rfl rfl) (hd 13 rfl)) rfl <| A4 4 [5, 6, 7, 8] (Am (Ba Cr rfl rfl rfl) (hd 14 rfl)) rfl <| A4 5 [6, 7, 8] (Am (A9 D6 rfl rfl rfl) (hd 15 rfl)) rfl ?_
    refine A0 6 ?_ rfl (by kernel_rfl)
    refine As Tryd.f61 (Ty x.natAbs y.natAbs hx hy) rfl Tryd.func61 rfl rfl (Aa rfl (Aa rfl Ad)) (.cons .n (.cons .n .nil)) (hd 16 rfl) ?_ (fun ch hp => by simp at hp)
    rintro y hy; injection hy with hy; subst hy
    refine A0 7 ?_ rfl (by kernel_rfl)
    refine As Tryd.f24 (Cl (decide (x < 0)) (x.natAbs + y.natAbs)) rfl Tryd.func24 rfl rfl (Aa rfl (Aa rfl Ad)) (.cons .b (.cons .n .nil)) (hd 17 rfl) ?_ (fun ch hp => by simp at hp)
    rintro y hy; injection hy with hy; subst hy
    refine A0 8 ?_ rfl (by kernel_rfl)
    refine Bf (Ah rfl rfl rfl A2 rfl rfl (zlb rfl)) rfl <| Bg (by kernel_rfl) <| Ak ?_
    refine ⟨_, _, (.cons (ResV.cell A7 rfl rfl rfl rfl) .nil), (.a1 .b (.a1 .n .a0)), ?_⟩
    rw [Nz (by assumption)]
  · refine Ai <| Ae <| zsr <| Ac (Ba Cr rfl rfl rfl) (hd 18 rfl) <| Ac (A9 D6 rfl rfl rfl) (hd 19 rfl) <| Ac (Ba Cr rfl rfl rfl) (hd 20 rfl) <| Ac (A9 D6 rfl rfl rfl) (hd 21 rfl) ?_
    refine Aj Tryd.f62 (Kk x.natAbs y.natAbs (by show (dg x).length < _; omega) (by show (dg y).length < _; omega)) rfl Tryd.func62 rfl rfl (Aa rfl (Aa rfl Ad)) (.cons .n (.cons .n .nil)) (hd 22 rfl) ?_ (fun ch hp => by simp at hp)
    rintro _ ⟨⟩; refine Ac (Dl rfl rfl) (hd 23 rfl) <| Ab ?_
    refine Bc rfl (fun h2 => ?_) (fun h2 => ?_)
    · refine Ae <| Cf (n := 9) _ rfl Dk <| A4 0 [1, 7, 8] (Am (Ba C6 rfl rfl rfl) (hd 24 rfl)) rfl <| zal 1 (Am (A9 Ez rfl rfl rfl) (hd 25 rfl)) rfl <| A4 2 [3, 6, 7, 8] (Am (Ba Cr rfl rfl rfl) (hd 26 rfl)) rfl <| A4 3 [6, 7, 8] (Am (A9 D6 rfl rfl rfl) (hd 27 rfl)) rfl <| A4 4 [5, 6, 7, 8] (Am (Ba Cr rfl rfl rfl) (hd 28 rfl)) rfl <| A4 5 [6, 7, 8] (Am (A9 D6 rfl rfl rfl) (hd 29 rfl)) rfl ?_
      refine A0 6 ?_ rfl (by kernel_rfl)
      refine As Tryd.f63 (Mm x.natAbs y.natAbs (Qs (by assumption)) (by show (dg x).length < _; omega) (by show (dg y).length < _; omega)) rfl Tryd.func63 rfl rfl (Aa rfl (Aa rfl Ad)) (.cons .n (.cons .n .nil)) (hd 30 rfl) ?_ (fun ch hp => by simp at hp)
      rintro y hy; injection hy with hy; subst hy
      refine A0 7 ?_ rfl (by kernel_rfl)
      refine As Tryd.f24 (Cl (decide (x < 0)) (x.natAbs - y.natAbs)) rfl Tryd.func24 rfl rfl (Aa rfl (Aa rfl Ad)) (.cons .b (.cons .n .nil)) (hd 31 rfl) ?_ (fun ch hp => by simp at hp)
      rintro y hy; injection hy with hy; subst hy
      refine A0 8 ?_ rfl (by kernel_rfl)
      refine Bf (Ah rfl rfl rfl A2 rfl rfl (zlb rfl)) rfl <| Bg (by kernel_rfl) <| Ak ?_
      refine ⟨_, _, (.cons (ResV.cell A7 rfl rfl rfl rfl) .nil), (.a1 .b (.a1 .n .a0)), ?_⟩
      rw [Us (by assumption) (by assumption)]
    · refine Ai <| Ae <| Cf (n := 9) _ rfl Dk <| A4 0 [1, 7, 8] (Am (Ba C6 rfl rfl rfl) (hd 32 rfl)) rfl <| zal 1 (Am (A9 Ez rfl rfl rfl) (hd 33 rfl)) rfl <| A4 2 [3, 6, 7, 8] (Am (Ba Cr rfl rfl rfl) (hd 34 rfl)) rfl <| A4 3 [6, 7, 8] (Am (A9 D6 rfl rfl rfl) (hd 35 rfl)) rfl <| A4 4 [5, 6, 7, 8] (Am (Ba Cr rfl rfl rfl) (hd 36 rfl)) rfl <| A4 5 [6, 7, 8] (Am (A9 D6 rfl rfl rfl) (hd 37 rfl)) rfl ?_
      refine A0 6 ?_ rfl (by kernel_rfl)
      refine As Tryd.f63 (Mm y.natAbs x.natAbs (Z8 (by assumption)) (by show (dg y).length < _; omega) (by show (dg x).length < _; omega)) rfl Tryd.func63 rfl rfl (Aa rfl (Aa rfl Ad)) (.cons .n (.cons .n .nil)) (hd 38 rfl) ?_ (fun ch hp => by simp at hp)
      rintro y hy; injection hy with hy; subst hy
      refine A0 7 ?_ rfl (by kernel_rfl)
      refine As Tryd.f24 (Cl (decide (y < 0)) (y.natAbs - x.natAbs)) rfl Tryd.func24 rfl rfl (Aa rfl (Aa rfl Ad)) (.cons .b (.cons .n .nil)) (hd 39 rfl) ?_ (fun ch hp => by simp at hp)
      rintro y hy; injection hy with hy; subst hy
      refine A0 8 ?_ rfl (by kernel_rfl)
      refine Bf (Ah rfl rfl rfl A2 rfl rfl (zlb rfl)) rfl <| Bg (by kernel_rfl) <| Ak ?_
      refine ⟨_, _, (.cons (ResV.cell A7 rfl rfl rfl rfl) .nil), (.a1 .b (.a1 .n .a0)), ?_⟩
      rw [Ur (by assumption) (by assumption)]

theorem Nc (x y : Int) (hx : (dg x).length < 549755813888) (hy : (dg y).length < 549755813888) : Spec Tryd.prog 52 [.a [.b (decide (x < 0)), .n false .u64 (dg x)], .a [.b (decide (y < 0)), .n false .u64 (dg y)]] (fun o => o = .ret (.a [.b (decide ((x - y) < 0)), .n false .u64 (dg (x - y))])) := by
  refine An [(0, .a [.b (decide (x < 0)), .n false .u64 (dg x)]), (1, .a [.b (decide (y < 0)), .n false .u64 (dg y)])] rfl Tryd.func52 rfl (zlb rfl) fun Γ hN hds hL hR => ?_
  have hd := Bu 9 hN
  refine zsr <| Bl (Ci (id := 0) (n := 2) rfl rfl rfl (by decide) rfl) (hd 2 rfl) <| Bl (Ci (id := 1) (n := 2) rfl rfl rfl (by decide) rfl) (hd 3 rfl) <| Bl (Ao (id := 2) Bd (by decide) rfl (by decide) rfl) (hd 4 rfl) <| Ab <| Ae <| Cf (n := 5) _ rfl Dk <| zal 0 (Am (A8 A7 rfl rfl rfl rfl) (hd 5 rfl)) rfl <| A4 1 [2, 3, 4] (Am (A8 A7 rfl rfl rfl rfl) (hd 6 rfl)) rfl ?_
  refine A0 2 ?_ rfl (by kernel_rfl)
  refine As Tryd.f65 (Aag y) rfl Tryd.func65 rfl rfl (Aa rfl Ad) (.cons (.a1 .b (.a1 .n .a0)) .nil) (hd 7 rfl) ?_ (fun ch hp => by simp at hp)
  rintro y hy; injection hy with hy; subst hy
  refine A0 3 ?_ rfl (by kernel_rfl)
  refine As Tryd.f64 (Aah x (-y) hx (by unfold dg; rw [Int.natAbs_neg]; exact hy)) rfl Tryd.func64 rfl rfl (Aa rfl (Aa rfl Ad)) (.cons (.a1 .b (.a1 .n .a0)) (.cons (.a1 .b (.a1 .n .a0)) .nil)) (hd 8 rfl) ?_ (fun ch hp => by simp at hp)
  rintro y hy; injection hy with hy; subst hy
  refine A0 4 ?_ rfl (by kernel_rfl)
  refine Bf (Ah rfl rfl rfl A2 rfl rfl (zlb rfl)) rfl <| Bg (by kernel_rfl) <| Ak ?_
  refine ⟨_, _, (.cons (ResV.cell A7 rfl rfl rfl rfl) .nil), (.a1 .b (.a1 .n .a0)), ?_⟩
  rw [Int.sub_eq_add_neg]

theorem Q7 (x y : Int) (hx : (dg x).length < 549755813888) (hy : (dg y).length < 549755813888) : Spec Tryd.prog 53 [.a [.b (decide (x < 0)), .n false .u64 (dg x)], .a [.b (decide (y < 0)), .n false .u64 (dg y)]] (fun o => o = .ret (.a [.b (decide ((x * y) < 0)), .n false .u64 (dg (x * y))])) := by
  refine An [(0, .a [.b (decide (x < 0)), .n false .u64 (dg x)]), (1, .a [.b (decide (y < 0)), .n false .u64 (dg y)])] rfl Tryd.func53 rfl (zlb rfl) fun Γ hN hds hL hR => ?_
  have hd := Bu 16 hN
  refine zsr <| Bl (Ci (id := 0) (n := 2) rfl rfl rfl (by decide) rfl) (hd 2 rfl) <| Bl (Ci (id := 1) (n := 2) rfl rfl rfl (by decide) rfl) (hd 3 rfl) <| Bl (Ao (id := 2) Bd (by decide) rfl (by decide) rfl) (hd 4 rfl) <| Ab <| Ae <| Cf (n := 12) _ rfl Dk <| A4 0 [1, 4, 10, 11] (Am (Ba C6 rfl rfl rfl) (hd 5 rfl)) rfl <| A4 1 [4, 10, 11] (Am (A9 Ez rfl rfl rfl) (hd 6 rfl)) rfl <| A4 2 [3, 4, 10, 11] (Am (Ba C6 rfl rfl rfl) (hd 7 rfl)) rfl <| A4 3 [4, 10, 11] (Am (A9 Ez rfl rfl rfl) (hd 8 rfl)) rfl <| zal 4 (Am (Mr Xs rfl rfl) (hd 9 rfl)) rfl ?_; refine A4 5 [6, 9, 10, 11] (Am (Ba Cr rfl rfl rfl) (hd 10 rfl)) rfl <| A4 6 [9, 10, 11] (Am (A9 D6 rfl rfl rfl) (hd 11 rfl)) rfl <| A4 7 [8, 9, 10, 11] (Am (Ba Cr rfl rfl rfl) (hd 12 rfl)) rfl <| A4 8 [9, 10, 11] (Am (A9 D6 rfl rfl rfl) (hd 13 rfl)) rfl ?_
  refine A0 9 ?_ rfl (by kernel_rfl)
  refine As Tryd.f22 (O7 x.natAbs y.natAbs hx hy) rfl Tryd.func22 rfl rfl (Aa rfl (Aa rfl Ad)) (.cons .n (.cons .n .nil)) (hd 14 rfl) ?_ (fun ch hp => by simp at hp)
  rintro y hy; injection hy with hy; subst hy
  refine A0 10 ?_ rfl (by kernel_rfl)
  refine As Tryd.f24 (Cl (!(decide (x < 0) == decide (y < 0))) (x.natAbs * y.natAbs)) rfl Tryd.func24 rfl rfl (Aa rfl (Aa rfl Ad)) (.cons .b (.cons .n .nil)) (hd 15 rfl) ?_ (fun ch hp => by simp at hp)
  rintro y hy; injection hy with hy; subst hy
  refine A0 11 ?_ rfl (by kernel_rfl)
  refine Bf (Ah rfl rfl rfl A2 rfl rfl (zlb rfl)) rfl <| Bg (by kernel_rfl) <| Ak ?_
  refine ⟨_, _, (.cons (ResV.cell A7 rfl rfl rfl rfl) .nil), (.a1 .b (.a1 .n .a0)), ?_⟩
  rw [Acv]

theorem Ab0 (v : Int) (hl : (dg v).length < 4294967296) : Spec Tryd.prog 27 [.a [.b (decide (v < 0)), .n false .u64 (dg v)], .b (decide (v < 0)), .n false .u64 (lm v)] (fun o => o = .ret (.b true)) := by
  have h := Xi (decide (v < 0)) (dg v) hl
  rw [Wq] at h
  exact h

theorem Hu (v : Int) (h : Aq v ≤ 67108864) : Spec Tryd.prog 10 [.a [.b (decide (v < 0)), .n false .u64 (lm v)], .i .i64 0, .a [.b (decide (v < 0)), .n false .u64 (dg v)], .i .i64 0] (fun o => o = .ret (.b true)) := by
  refine An [(0, .a [.b (decide (v < 0)), .n false .u64 (lm v)]), (1, .i .i64 0), (2, .a [.b (decide (v < 0)), .n false .u64 (dg v)]), (3, .i .i64 0)] rfl Tryd.func10 rfl (zlb rfl) fun Γ hN hds hL hR => ?_
  have hd := Bu 45 hN
  have hl := Ie h
  refine zsr <| Bl (Ci (id := 0) (n := 2) rfl rfl rfl (by decide) rfl) (hd 4 rfl) <| Bl (Ci (id := 1) (n := 2) rfl rfl rfl (by decide) rfl) (hd 6 rfl) <| zas rfl (hd 8 rfl) <| Ab <| Ae <| zsr <| zmv rfl (hd 9 rfl) <| Ac (B8 (B7 rfl rfl) rfl) (hd 10 rfl) <| zmv rfl (hd 11 rfl) <| Ay 11 rfl rfl (Ba Cr rfl rfl rfl) (hd 12 rfl) ?_; refine Ay 11 rfl rfl (A9 D6 rfl rfl rfl) (hd 13 rfl) ?_
  refine Ds Tryd.f21 11 rfl rfl (Iv v (by omega)) rfl Tryd.func21 rfl rfl (Aa rfl Ad) (.cons .n .nil) (hd 14 rfl) ?_ (fun ch hp => by simp at hp)
  rintro _ ⟨⟩; refine Ay 11 rfl rfl (Be (B6 rfl rfl) (by omega)) (hd 15 rfl) <| Ac (Bi rfl rfl) (hd 16 rfl) <| Ab <| Aw rfl <| Ai <| Ae <| zsr <| zmv rfl (hd 17 rfl) <| Ac (Be (Dy rfl rfl) (fun h => h rfl)) (hd 18 rfl) <| Ab <| Aw rfl <| Ai ?_; refine zsr <| zmv rfl (hd 34 rfl) ?_
  refine Aj Tryd.f26 (Sg 0) rfl Tryd.func26 rfl rfl (Aa rfl Ad) (.cons .i .nil) (hd 35 rfl) ?_ (fun ch hp => by simp at hp)
  rintro _ ⟨⟩; refine Ac (B8 (B7 rfl rfl) rfl) (hd 36 rfl) <| zmv rfl (hd 37 rfl) <| Ay 37 rfl rfl (A8 A7 rfl rfl rfl rfl) (hd 38 rfl) <| Ay 37 rfl rfl (Ba Cy rfl rfl rfl) (hd 39 rfl) <| Ay 37 rfl rfl (A9 Ez rfl rfl rfl) (hd 40 rfl) <| Ay 37 rfl rfl (Ba Cn rfl rfl rfl) (hd 41 rfl) <| Ay 37 rfl rfl (A9 D2 rfl rfl rfl) (hd 42 rfl) ?_
  refine Ds Tryd.f27 37 rfl rfl (Ab0 v (by omega)) rfl Tryd.func27 rfl rfl (Aa rfl (Aa rfl (Aa rfl Ad))) (.cons (.a1 .b (.a1 .n .a0)) (.cons .b (.cons .n .nil))) (hd 43 rfl) ?_ (fun ch hp => by simp at hp)
  rintro _ ⟨⟩; refine Ac (Bi rfl rfl) (hd 44 rfl) <| zas rfl (hd 8 rfl) <| Ab <| Ak ?_
  refine ⟨_, _, (.cons rfl .nil), .b, ?_⟩
  exact rfl

theorem Q4 (v : Int) (h : 67108864 < Aq v) (hl : (dg v).length < 1099511627776) : Spec Tryd.prog 10 [.a [.b false, .n false .u64 []], .i .i64 3, .a [.b (decide (v < 0)), .n false .u64 (dg v)], .i .i64 0] (fun o => o = .ret (.b true)) := by
  refine An [(0, .a [.b false, .n false .u64 []]), (1, .i .i64 3), (2, .a [.b (decide (v < 0)), .n false .u64 (dg v)]), (3, .i .i64 0)] rfl Tryd.func10 rfl (zlb rfl) fun Γ hN hds hL hR => ?_
  have hd := Bu 45 hN
  refine zsr <| Bl (Ci (id := 0) (n := 2) rfl rfl rfl (by decide) rfl) (hd 4 rfl) <| Bl (Ci (id := 1) (n := 2) rfl rfl rfl (by decide) rfl) (hd 6 rfl) <| zas rfl (hd 8 rfl) <| Ab <| Ae <| zsr <| zmv rfl (hd 9 rfl) <| Ac (B8 (B7 rfl rfl) rfl) (hd 10 rfl) <| zmv rfl (hd 11 rfl) <| Ay 11 rfl rfl (Ba Cr rfl rfl rfl) (hd 12 rfl) ?_; refine Ay 11 rfl rfl (A9 D6 rfl rfl rfl) (hd 13 rfl) ?_
  refine Ds Tryd.f21 11 rfl rfl (Iv v hl) rfl Tryd.func21 rfl rfl (Aa rfl Ad) (.cons .n .nil) (hd 14 rfl) ?_ (fun ch hp => by simp at hp)
  rintro _ ⟨⟩; refine Ay 11 rfl rfl (B8 (B6 rfl rfl) (by omega)) (hd 15 rfl) <| Ac (Bi rfl rfl) (hd 16 rfl) <| Ab <| B5 rfl <| Af <| zas rfl (hd 3 rfl) <| Ab <| Ae <| zsr <| zmv rfl (hd 17 rfl) <| Ac (B8 (Dy rfl rfl) (by decide)) (hd 18 rfl) <| Ab ?_; refine B5 rfl <| zsr <| zmv rfl (hd 19 rfl) ?_
  refine Aj Tryd.f26 (Sg 3) rfl Tryd.func26 rfl rfl (Aa rfl Ad) (.cons .i .nil) (hd 20 rfl) ?_ (fun ch hp => by simp at hp)
  rintro _ ⟨⟩; refine zmv rfl (hd 21 rfl) <| Ac (B8 (B7 rfl rfl) rfl) (hd 22 rfl) <| zmv rfl (hd 23 rfl) <| Ay 23 rfl rfl (Ba Cy rfl rfl rfl) (hd 24 rfl) <| Ay 23 rfl rfl (A9 Ez rfl rfl rfl) (hd 25 rfl) <| Ay 23 rfl rfl (G7 rfl) (hd 26 rfl) <| Ac (Bi rfl rfl) (hd 27 rfl) <| zmv rfl (hd 28 rfl) <| Ay 28 rfl rfl (Ba Cn rfl rfl rfl) (hd 29 rfl) <| Ay 28 rfl rfl (A9 D2 rfl rfl rfl) (hd 30 rfl) <| Ay 28 rfl rfl (Al Bj rfl) (hd 31 rfl) <| Ay 28 rfl rfl (B8 (B7 rfl rfl) rfl) (hd 32 rfl) <| Ac (Bi rfl rfl) (hd 33 rfl) ?_; refine zas rfl (hd 8 rfl) <| Ab <| Ak ?_
  refine ⟨_, _, (.cons rfl .nil), .b, ?_⟩
  exact rfl

theorem K7 (v f : Int) (h : f ≠ 0) : Spec Tryd.prog 10 [.a [.b false, .n false .u64 []], .i .i64 f, .a [.b (decide (v < 0)), .n false .u64 (dg v)], .i .i64 f] (fun o => o = .ret (.b true)) := by
  refine An [(0, .a [.b false, .n false .u64 []]), (1, .i .i64 f), (2, .a [.b (decide (v < 0)), .n false .u64 (dg v)]), (3, .i .i64 f)] rfl Tryd.func10 rfl (zlb rfl) fun Γ hN hds hL hR => ?_
  have hd := Bu 45 hN
  refine zsr <| Bl (Ci (id := 0) (n := 2) rfl rfl rfl (by decide) rfl) (hd 4 rfl) <| Bl (Ci (id := 1) (n := 2) rfl rfl rfl (by decide) rfl) (hd 6 rfl) <| zas rfl (hd 8 rfl) <| Ab <| Ae <| zsr <| zmv rfl (hd 9 rfl) <| Ac (Be (B7 rfl rfl) h) (hd 10 rfl) <| zmv rfl (hd 11 rfl) <| Bh 11 rfl rfl rfl (hd 12 rfl) ?_; refine Bh 11 rfl rfl rfl (hd 13 rfl) <| Bh 11 rfl rfl rfl (hd 14 rfl) <| Bh 11 rfl rfl rfl (hd 15 rfl) <| Ac (Bn rfl rfl) (hd 16 rfl) <| Ab <| Aw rfl <| Ai <| Ae <| zsr <| zmv rfl (hd 17 rfl) <| Ac (B8 (Dy rfl rfl) h) (hd 18 rfl) <| Ab ?_; refine B5 rfl <| zsr <| zmv rfl (hd 19 rfl) ?_
  refine Aj Tryd.f26 (Sg f) rfl Tryd.func26 rfl rfl (Aa rfl Ad) (.cons .i .nil) (hd 20 rfl) ?_ (fun ch hp => by simp at hp)
  rintro _ ⟨⟩; refine zmv rfl (hd 21 rfl) <| Ac (B8 (B7 rfl rfl) rfl) (hd 22 rfl) <| zmv rfl (hd 23 rfl) <| Ay 23 rfl rfl (Ba Cy rfl rfl rfl) (hd 24 rfl) <| Ay 23 rfl rfl (A9 Ez rfl rfl rfl) (hd 25 rfl) <| Ay 23 rfl rfl (G7 rfl) (hd 26 rfl) <| Ac (Bi rfl rfl) (hd 27 rfl) <| zmv rfl (hd 28 rfl) <| Ay 28 rfl rfl (Ba Cn rfl rfl rfl) (hd 29 rfl) <| Ay 28 rfl rfl (A9 D2 rfl rfl rfl) (hd 30 rfl) <| Ay 28 rfl rfl (Al Bj rfl) (hd 31 rfl) <| Ay 28 rfl rfl (B8 (B7 rfl rfl) rfl) (hd 32 rfl) <| Ac (Bi rfl rfl) (hd 33 rfl) ?_; refine zas rfl (hd 8 rfl) <| Ab <| Ak ?_
  refine ⟨_, _, (.cons rfl .nil), .b, ?_⟩
  exact rfl


theorem Q8 (v : Int) (h : inI v) : Spec Tryd.prog 36 [.i .i64 v] (fun o => o = .ret (.a [.b (decide (v < 0)), .n false .u64 (dg v)])) := by
  have h' : -9223372036854775808 ≤ v ∧ v < 9223372036854775808 := h
  by_cases h0 : v < 0
  · have hu : Az [-v] := F9 (by omega) (by omega)
    have h1 := Ri v h0 h'.1
    have e := Up (s := true) hu
    rw [e, Gs (s := true) (v := v) hu (by simp [sv, vl])] at h1
    have e2 : sv true [-v] = v := by simp [sv, vl]
    rw [e2] at h1
    exact h1
  · have hu : Az [v] := F9 (by omega) (by omega)
    have h1 := Rh v (by omega) h'.2
    have e := Up (s := false) hu
    rw [e, Gs (s := false) (v := v) hu (by simp [sv, vl])] at h1
    have e2 : sv false [v] = v := by simp [sv, vl]
    rw [e2] at h1
    exact h1






theorem Fn (v : Int) (hl : (lm v).length < 1099511627776) : Spec Tryd.prog 40 [.n false .u64 (lm v)] (fun o => o = .ret (.i .i64 (Aq v : Int))) := by
  have h := Du (lm v) hl (Gz v)
  rwa [Px] at h
theorem Aav (v : Int) (h0 : 0 ≤ v) (hv : Aq (v + 1) ≤ 67108864) : Spec Tryd.prog 32 [.n false .u64 (lm v), .n false .u64 [1]] (fun o => o = .ret (.t [.n false .u64 (lm (v + 1)), .i .i64 0])) := by
  have hlv := Cd (Nat.le_trans (D9 (show v.natAbs ≤ (v + 1).natAbs by omega)) hv)
  have ev : vl (lm v) = v := by rw [T8]; omega
  have u1 : Az [1] := F9 (by decide) (by decide)
  have hd : vl (Oj (lm v) [1]) = v + 1 := by rw [Uw, ev]; rfl
  have hc := Xg (a := (swL (trm (lm v)) (trm [1])).1) (b := (swL (trm (lm v)) (trm [1])).2) (by unfold swL; split; exact Cb u1; exact Cb (Gz v)) (by unfold swL; split; exact Cb (Gz v); exact Cb u1) (swL (trm (lm v)) (trm [1])).1.length
  have hu : Az (Oj (lm v) [1]) := Dv (S6 _) hc.1 (by omega)
  have e := El hu hd
  have h := Uo (lm v) [1] (by omega) (by decide) (Gz v) u1 (by rw [e, Px]; exact hv)
  rwa [e] at h

theorem E7 (s : Bool) (l : List Int) (v : Int) (hl : l.length < 1099511627776) (hu : Az l) (hv : sv s l = v) (h : Aq v ≤ 67108864) : SpecM Tryd.prog 19 [.b s, .n false .u64 l, .i .i64 0] [] (fun o G => o = .ret (.t [.a [.b (decide (v < 0)), .o 0 0 0 (lm v).length], .i .i64 0]) ∧ G = [⟨58, 1, 0, true, ints .u64 (lm v)⟩]) :=
  (R5 s l 0 v (.inl ⟨rfl, hu, hl, hv⟩)).mono fun o G ⟨s2, r, e, ho, hG, hR⟩ => by
    rcases hR with ⟨_, h1, h2, h3⟩ | ⟨hb, _⟩
    · subst h1; subst h2; subst h3; exact ⟨ho, hG⟩
    · omega


theorem Ny (x n : Nat) (hx : (Ar B32 x).length < 549755813888) (hn : n < 4294967296) : Spec Tryd.prog 37 [.n false .u64 (Ar B32 x), .i .i64 (n : Int)] (fun o => o = .ret (.n false .u64 (Ar B32 (x * 2 ^ n)))) := by
  refine An [(0, .n false .u64 (Ar B32 x)), (1, .i .i64 (n : Int))] rfl Tryd.func37 rfl (zlb rfl) fun Γ hN hds hL hR => ?_
  have hd := Bu 55 hN
  have hr := Es (b := B32) (by decide) x
  have hs : n % 32 < 32 := by omega
  refine zsr <| zas rfl (hd 4 rfl) <| Ab <| Ae <| zsr <| zmv rfl (hd 9 rfl) <| Ac (Al Cj rfl) (hd 10 rfl) <| Ac (B7 rfl rfl) (hd 11 rfl) <| Ab ?_
  refine Bc rfl (fun h1 => ?_) (fun h1 => ?_)
  · refine zsr <| zas rfl (hd 4 rfl) <| Ab <| Ak ?_
    refine ⟨_, _, (.cons rfl .nil), (.nil (fr := false) (k := .u64)), ?_⟩
    have hz : (Ar B32 x) = [] := List.eq_nil_of_length_eq_zero (by omega)
    rw [Jz.1 hz, Nat.zero_mul, Cu]
  · refine Ai <| zsr <| zmv rfl (hd 12 rfl) <| Ac (Al Cj rfl) (hd 13 rfl) <| zmv rfl (hd 14 rfl) <| Ac (D3 rfl rfl (by omega) (r := ((n / 32 : Nat) : Int)) (V9 (by omega))) (hd 15 rfl) <| Ac (Av rfl rfl (r := (((Ar B32 x).length + n / 32 : Nat) : Int)) (by rw [Ag (by omega) (by omega)]; omega)) (hd 16 rfl) <| Ac (Av rfl rfl (r := (((Ar B32 x).length + n / 32 + 1 : Nat) : Int)) (by rw [Ag (by omega) (by omega)]; omega)) (hd 17 rfl) <| Bl (Fp (m := (Ar B32 x).length + n / 32 + 1) Rk rfl rfl rfl (by show 8 * ((Ar B32 x).length + n / 32 + 1) ≤ _; omega) (by unfold maxLen; omega) rfl) (hd 18 rfl) <| zas rfl (hd 5 rfl) <| Ab <| Ae ?_; refine Af <| zmv rfl (hd 19 rfl) <| Ac (Bo (D8 rfl rfl (by omega) rfl) (show V.i .i64 _ = V.i .i64 (((n % 32 : Nat) : Int)) from congrArg (V.i .i64) Abg)) (hd 20 rfl) <| zas rfl (hd 6 rfl) <| Ab <| Ae <| zsr <| zmv rfl (hd 21 rfl) <| Ac (Al Cj rfl) (hd 22 rfl) <| zmv rfl (hd 23 rfl) <| Ab <| Au ?_; refine Hr (H' := [⟨58, 1, 0, true, ints .u64 (shR (Ar B32 x) (n % 32) (n / 32) 0)⟩]) (by rw [← Abe]; rfl) ?_
    refine Bv (G := Nat) (fun i => i ≤ (Ar B32 x).length) (fun i => [(23, .i .i64 (i : Int)), (7, .u), (8, .u), (24, .u), (25, .u), (26, .u), (27, .u), (28, .u), (29, .u), (30, .u), (31, .u), (32, .u), (33, .u), (34, .u), (35, .u), (36, .u), (37, .u), (38, .u), (39, .u), (40, .u), (41, .u), (42, .u), (43, .u), (44, .u), (45, .u), (46, .u), (47, .u), (48, .u), (49, .u), (50, .u), (51, .u), (52, .u)]) (fun i => [⟨58, 1, 0, true, ints .u64 (shR (Ar B32 x) (n % 32) (n / 32) i)⟩]) (fun i => (Ar B32 x).length - i) 0 ?_ ?_ rfl ?_
    · exact Nat.zero_le _
    · exact (.cons rfl (.v9 (.v9 (.v9 (.u .nil)))))
    · rintro i hc1
      have hf := Vr (s := (n % 32)) (w := (n / 32)) hc1
      have hc := Ou hs hr i
      have hx := Er (by decide) hr i
      have hp := Ot hs hr i
      have hel := Yo (x := (Ar B32 x).getD i 0) hs hc.1 hc.2
      refine zsr <| Ac (Bp rfl rfl) (hd 24 rfl) <| Ab <| Ae ?_
      refine Bc rfl (fun h2 => ?_) (fun h2 => ?_)
      · refine Ai <| Ae <| Au <| zsr <| zmv rfl (hd 25 rfl) <| Ac (Bx (i := i) Cj rfl rfl (by first | rfl | omega) (by omega)) (hd 26 rfl) <| Ac (Bw Bm rfl rfl) (hd 27 rfl) <| zas rfl (hd 7 rfl) <| zas rfl (hd 8 rfl) <| Ab <| Ae <| Cf (n := 14) _ rfl Dk ?_; refine A4 0 [5, 6, 11, 12, 13] (Am (At rfl) (hd 28 rfl)) rfl <| A4 1 [4, 5, 6, 11, 12, 13] (Am (At rfl) (hd 29 rfl)) rfl <| A4 2 [3, 4, 5, 6, 11, 12, 13] (Am (At rfl) (hd 30 rfl)) rfl <| A4 3 [4, 5, 6, 11, 12, 13] (Am (D3 rfl rfl (by omega) (r := ((n / 32 : Nat) : Int)) (V9 (by omega))) (hd 31 rfl)) rfl <| A4 4 [5, 6, 11, 12, 13] (Am (Av rfl rfl (r := ((i + n / 32 : Nat) : Int)) (by rw [Ag (by omega) (by omega)]; omega)) (hd 32 rfl)) rfl <| A4 5 [6, 11, 12, 13] (Am (Cz (i := i + n / 32) Cj rfl rfl rfl (by first | rfl | omega) (by omega) rfl) (hd 33 rfl)) rfl <| zal 6 (Am (Bo (Fv Bm rfl rfl (by omega)) (show V.i .u64 _ = V.i .u64 ((Gr (Ar B32 x) (n % 32) i).2) from congrArg (V.i .u64) Vs)) (hd 34 rfl)) rfl <| A4 7 [9, 10, 11, 12, 13] (Am (At rfl) (hd 35 rfl)) rfl <| A4 8 [9, 10, 11, 12, 13] (Am (At rfl) (hd 36 rfl)) rfl <| A4 9 [10, 11, 12, 13] (Am (Bo (Ib rfl rfl (by omega) rfl) (show V.i .u64 _ = V.i .u64 (((Ar B32 x).getD i 0 * 2 ^ (n % 32))) from congrArg (V.i .u64) (Lh hs hx.1 hx.2))) (hd 37 rfl)) rfl <| zal 10 (Am (Bo (D8 rfl rfl (by decide) rfl) (show V.i .u64 _ = V.i .u64 (((Ar B32 x).getD i 0 * 2 ^ (n % 32)) % 4294967296) from congrArg (V.i .u64) (Int.tmod_eq_emod_of_nonneg hp.1))) (hd 38 rfl)) rfl <| zal 11 (Am (Av rfl rfl (A5 hel.1 (Int.lt_trans hel.2 (by decide)))) (hd 39 rfl)) rfl <| zal 12 (Am (Cz (i := i + n / 32) Cj rfl rfl rfl (by first | rfl | omega) (by omega) rfl) (hd 40 rfl)) rfl ?_
        refine A0 13 ?_ rfl (by kernel_rfl)
        refine Bf (Bz rfl rfl rfl Bm (by omega)) rfl <| Bg (by kernel_rfl) <| Af <| zmv rfl (hd 41 rfl) <| zmv rfl (hd 42 rfl) <| zmv rfl (hd 43 rfl) <| Ac (D3 rfl rfl (by omega) (r := ((n / 32 : Nat) : Int)) (V9 (by omega))) (hd 44 rfl) <| Ac (Av rfl rfl (r := ((i + n / 32 : Nat) : Int)) (by rw [Ag (by omega) (by omega)]; omega)) (hd 45 rfl) <| Ac (Av rfl rfl (r := ((i + n / 32 + 1 : Nat) : Int)) (by rw [Ag (by omega) (by omega)]; omega)) (hd 46 rfl) <| zmv rfl (hd 47 rfl) <| zmv rfl (hd 48 rfl) <| Ac (Bo (Ib rfl rfl (by omega) rfl) (show V.i .u64 _ = V.i .u64 (((Ar B32 x).getD i 0 * 2 ^ (n % 32))) from congrArg (V.i .u64) (Lh hs hx.1 hx.2))) (hd 49 rfl) <| Ac (D3 rfl rfl (by decide) (r := ((Ar B32 x).getD i 0 * 2 ^ (n % 32)) / 4294967296) (V8 hp.1 (by omega) (by decide))) (hd 50 rfl) ?_; refine Ac (Cz (i := i + n / 32 + 1) Cj rfl rfl rfl (by first | rfl | omega) (by omega) rfl) (hd 51 rfl) <| A6 (Bz rfl rfl rfl Bm (by simp only [List.length_set]; omega)) <| Ab <| Af <| Ac (Av rfl rfl (Ag (by omega) (by omega))) (hd 52 rfl) <| zmv rfl (hd 23 rfl) <| Ab ?_
        refine ⟨i + 1, ?_, ?_, (by show [(⟨58, 1, 0, true, ints .u64 _⟩ : Ob)] = [⟨58, 1, 0, true, ints .u64 _⟩]; rw [Vq (by omega)]), Bb 64 rfl rfl ?_⟩
        · omega
        · omega
        · exact (.cons rfl (.v9 (.v9 (.v9 (.u .nil)))))
      · obtain rfl : i = (Ar B32 x).length := by omega
        refine Br <| zsr <| Ii (k := .u64) (l := shR (Ar B32 x) (n % 32) (n / 32) (Ar B32 x).length) (l' := shR (Ar B32 x) (n % 32) (n / 32) (Ar B32 x).length) 5 rfl rfl (by omega) (by rw [List.drop_zero, List.take_of_length_le (by omega)]) hL <| zmv rfl (hd 53 rfl) ?_
        refine Aj Tryd.f44 (Fz (shR (Ar B32 x) (n % 32) (n / 32) (Ar B32 x).length) (by omega)) rfl Tryd.func44 rfl rfl (Aa rfl Ad) (.cons .n .nil) (hd 54 rfl) ?_ (fun ch hp => by simp at hp)
        rintro _ ⟨⟩; refine zas rfl (hd 4 rfl) <| Ab <| Ak ?_
        refine ⟨_, _, (.cons rfl .nil), .n, ?_⟩
        rw [Vt]

theorem Y0 (x y : Nat) (hx : (Ar B32 x).length < 4294967296) (hy : (Ar B32 y).length < 4294967296) (h0 : 0 < y) : Spec Tryd.prog 51 [.n false .u64 (Ar B32 x), .n false .u64 (Ar B32 y)] (fun o => o = .ret (.t [.n false .u64 (Ar B32 (x / y)), .n false .u64 (Ar B32 (x % y))])) := by
  refine An [(0, .n false .u64 (Ar B32 x)), (1, .n false .u64 (Ar B32 y))] rfl Tryd.func51 rfl (zlb rfl) fun Γ hN hds hL hR => ?_
  have hd := Bu 60 hN
  refine zsr <| zas rfl (hd 4 rfl) <| zas rfl (hd 5 rfl) <| Ab <| zsr <| zas rfl (hd 6 rfl) <| Ab <| zsr <| zmv rfl (hd 12 rfl) <| Ac (Al Cj rfl) (hd 13 rfl) ?_; refine Bl (Fp (m := (Ar B32 x).length) Rk rfl rfl rfl (by show 8 * (Ar B32 x).length ≤ _; omega) (by unfold maxLen; omega) rfl) (hd 14 rfl) <| zas rfl (hd 7 rfl) <| Ab <| Ae <| Ae <| Wx (k := .u64) 6 rfl <| Af <| zmv rfl (hd 15 rfl) <| Ac (Al Cj rfl) (hd 16 rfl) <| Ac (Bt rfl rfl (Ag (by omega) (by omega))) (hd 17 rfl) <| zas rfl (hd 8 rfl) <| Ab <| Au ?_; refine Hr (H' := [⟨58, 1, 0, true, ints .u64 (List.replicate (Ar B32 x).length 0 ++ [])⟩]) (by rw [List.append_nil]; rfl) ?_
  refine Jw (G := Nat × List Int) 1 (fun g => g.1 ≤ (Ar B32 x).length ∧ Qd x y g.1 g.2) (fun g => [(6, .n false .u64 (Ar B32 (x / B32 ^ g.1 % y))), (8, .i .i64 ((g.1 : Int) - 1)), (9, .u), (10, .u), (11, .u), (18, .u), (19, .u), (20, .u), (21, .u), (22, .u), (23, .u), (24, .u), (25, .u), (26, .u), (27, .u), (28, .u), (29, .u), (30, .u), (31, .u), (32, .u), (33, .u), (34, .u), (35, .u), (36, .u), (37, .u), (38, .u), (39, .u), (40, .u), (41, .u), (42, .u), (43, .u), (44, .u), (45, .u), (46, .u), (47, .u), (48, .u), (49, .u), (50, .u), (51, .u), (52, .u), (53, .u), (54, .u), (55, .u), (56, .u)]) (fun g => [⟨58, 1, 0, true, ints .u64 (List.replicate g.1 0 ++ g.2)⟩]) (fun g => g.1) ((Ar B32 x).length, []) ?_ ?_ rfl hR rfl (fun _ _ => rfl) (fun g _ => .cons B2 .nil) ?_
  · exact ⟨Nat.le_refl _, Ac7⟩
  · exact (.cons (by show some (V.n false .u64 []) = some (V.n false .u64 (Ar B32 (x / B32 ^ (Ar B32 x).length % y))); rw [Yg, Nat.zero_mod, Cu]) (.cons rfl (.v9 (.v9 (.v9 (.v9 (.u (.u .nil))))))))
  · rintro ⟨k, Q⟩ ⟨hk, hQ⟩
    dsimp only at hk hQ
    obtain ⟨R, hR0⟩ : ∃ R, x / B32 ^ k % y * B32 + x / B32 ^ (k - 1) % B32 = R := ⟨_, rfl⟩
    have hRb := Aci (x := x) (k := k) h0
    rw [hR0] at hRb
    have hlR := Mv hRb
    have hlA := Uc (Nat.le_of_lt (Nat.mod_lt (x / B32 ^ k) h0))
    have hAB : x / B32 ^ k % y * 2 ^ 32 < y * B32 := Nat.mul_lt_mul_of_pos_right (Nat.mod_lt (x / B32 ^ k) h0) (by decide)
    have hlAB := Mv hAB
    have hdB := Nat.mod_lt (x / B32 ^ (k - 1)) (show 0 < B32 by decide)
    have hlD : (Ar B32 (x / B32 ^ (k - 1) % B32)).length ≤ 1 := Gp (by decide) 1 _ (by rw [Nat.pow_one]; exact hdB)
    have hNm : Spec Tryd.prog 44 [.n false .u64 [((x / B32 ^ (k - 1) % B32 : Nat) : Int)]] (fun o => o = .ret (.n false .u64 (Ar B32 (x / B32 ^ (k - 1) % B32)))) := by have h := Fz [((x / B32 ^ (k - 1) % B32 : Nat) : Int)] (by simp); rwa [Abb hdB] at h
    have hAdd : Spec Tryd.prog 61 [.n false .u64 (Ar B32 (x / B32 ^ k % y * 2 ^ 32)), .n false .u64 (Ar B32 (x / B32 ^ (k - 1) % B32))] (fun o => o = .ret (.n false .u64 (Ar B32 R))) := by have h := Ty (x / B32 ^ k % y * 2 ^ 32) (x / B32 ^ (k - 1) % B32) (by omega) (by omega); rw [show x / B32 ^ k % y * 2 ^ 32 + x / B32 ^ (k - 1) % B32 = R from hR0] at h; exact h
    refine Ae <| zsr <| zmv rfl (hd 18 rfl) <| Ac (Dl rfl rfl) (hd 19 rfl) <| Ab ?_
    refine Bc rfl (fun h1 => ?_) (fun h1 => ?_)
    · refine Ai <| Ae <| Au <| Ae <| Cf (n := 10) _ rfl Dk <| A4 0 [1, 7, 8, 9] (Am (At rfl) (hd 22 rfl)) rfl <| A4 2 [4, 5, 6, 7, 8, 9] (Am (At rfl) (hd 24 rfl)) rfl <| A4 3 [4, 5, 6, 7, 8, 9] (Am (At rfl) (hd 25 rfl)) rfl <| A4 4 [5, 6, 7, 8, 9] (Am (Bx (i := k - 1) Cj rfl rfl (by omega) (by omega)) (hd 26 rfl)) rfl <| A4 5 [6, 7, 8, 9] (Am (Bo (Bw Bm rfl rfl) (by show V.i .u64 _ = V.i .u64 (((x / B32 ^ (k - 1) % B32 : Nat) : Int)); exact congrArg (V.i .u64) (Io (by decide) (k - 1) x))) (hd 27 rfl)) rfl ?_
      refine Ik 1 6 ?_ ?_ rfl rfl (by kernel_rfl)
      · refine As Tryd.f37 (Ny (x / B32 ^ k % y) 32 (by omega) (by decide)) rfl Tryd.func37 rfl rfl (Aa rfl (Aa rfl Ad)) (.cons .n (.cons .i .nil)) (hd 23 rfl) ?_ (fun ch hp => by simp at hp)
        rintro y hy; injection hy with hy; subst hy
        refine A0 6 ?_ rfl (by kernel_rfl)
        refine Cw (Gl (id := 1) (xs := [.tmp 27]) Rk rfl (Aa rfl Ad) rfl (Ey rfl) (by decide) rfl) (hd 28 rfl) <| Ud (k := .u64) (l := [((x / B32 ^ (k - 1) % B32 : Nat) : Int)]) (l' := [((x / B32 ^ (k - 1) % B32 : Nat) : Int)]) 28 rfl rfl (Nat.le_refl _) rfl hL ?_
        refine A0 7 ?_ rfl (by kernel_rfl)
        refine As Tryd.f44 (hNm) rfl Tryd.func44 rfl rfl (Aa rfl Ad) (.cons .n .nil) (hd 29 rfl) ?_ (fun ch hp => by simp at hp)
        rintro y hy; injection hy with hy; subst hy
        refine A0 8 ?_ rfl (by kernel_rfl)
        refine As Tryd.f61 (hAdd) rfl Tryd.func61 rfl rfl (Aa rfl (Aa rfl Ad)) (.cons .n (.cons .n .nil)) (hd 30 rfl) ?_ (fun ch hp => by simp at hp)
        rintro _ ⟨⟩; refine zal 9 (Am (Fo rfl) (hd 6 rfl)) rfl <| Bg (by kernel_rfl) <| zsr <| zas rfl (hd 9 rfl) <| Ab ?_
        refine Cx (G := Unit) (fun _ => True) (fun _ => [(6, .n false .u64 (Ar B32 (R % y))), (9, .i .u64 ((R / y : Nat) : Int)), (10, .u), (11, .u), (31, .u), (32, .u), (33, .u), (34, .u), (35, .u), (36, .u), (37, .u), (38, .u), (39, .u), (40, .u), (41, .u), (42, .u), (43, .u), (44, .u), (45, .u), (46, .u), (47, .u), (48, .u), (49, .u), (50, .u), (51, .u), (52, .u)]) ?_ ?_
        · refine zsr <| zmv rfl (hd 31 rfl) <| zmv rfl (hd 32 rfl) ?_
          refine Aj Tryd.f62 (Kk R y (by omega) (by omega)) rfl Tryd.func62 rfl rfl (Aa rfl (Aa rfl Ad)) (.cons .n (.cons .n .nil)) (hd 33 rfl) ?_ (fun ch hp => by simp at hp)
          rintro _ ⟨⟩; refine Ac (Dl rfl rfl) (hd 34 rfl) <| Ab ?_
          refine Bc rfl (fun h2 => ?_) (fun h2 => ?_)
          · refine zsr <| zas rfl (hd 10 rfl) <| Ab <| Au ?_
            refine Bv (G := Nat × Nat) (fun g => Hlv R y g.1 g.2) (fun g => [(6, .n false .u64 (Ar B32 (R - y * g.2))), (9, .i .u64 (g.2 : Int)), (10, .i .i64 ((g.1 : Int) - 1)), (11, .u), (35, .u), (36, .u), (37, .u), (38, .u), (39, .u), (40, .u), (41, .u), (42, .u), (43, .u), (44, .u), (45, .u), (46, .u), (47, .u), (48, .u), (49, .u), (50, .u), (51, .u), (52, .u)]) (fun _ => _) (fun g => g.1) (32, 0) ?_ ?_ rfl ?_
            · exact Zu hRb
            · exact (.cons (by show some (V.n false .u64 (Ar B32 R)) = some (V.n false .u64 (Ar B32 (R - y * 0))); rw [Nat.mul_zero, Nat.sub_zero]) (.cons rfl (.cons rfl (.v9 (.v5 (.u (.u (.u (.u .nil)))))))))
            · rintro ⟨t, q⟩ hH
              dsimp only at hH
              have hlq := P8 (t := t) (q := q) hRb
              refine Ae <| zsr <| zmv rfl (hd 35 rfl) <| Ac (Dl rfl rfl) (hd 36 rfl) <| Ab ?_
              refine Bc rfl (fun h3 => ?_) (fun h3 => ?_)
              · obtain ⟨s, rfl⟩ : ∃ s, t = s + 1 := ⟨t - 1, by omega⟩
                have hs : s < 32 := by have := hH.1; omega
                have hls := Ub (y := y) h0 hs
                refine Ai ?_
                refine Cx (G := Nat) (fun g => Hlv R y s g) (fun g => [(6, .n false .u64 (Ar B32 (R - y * g))), (9, .i .u64 (g : Int)), (11, .u), (39, .u), (40, .u), (41, .u), (42, .u), (43, .u), (44, .u), (45, .u), (46, .u), (47, .u), (48, .u), (49, .u), (50, .u), (51, .u), (52, .u)]) ?_ ?_
                · refine Au <| zsr <| zmv rfl (hd 39 rfl) <| Ac (Bo (At rfl) (show V.i .i64 _ = V.i .i64 (s : Int) by congr 1; omega)) (hd 40 rfl) ?_
                  refine Aj Tryd.f37 (Ny y s (by omega) (by omega)) rfl Tryd.func37 rfl rfl (Aa rfl (Aa rfl Ad)) (.cons .n (.cons .i .nil)) (hd 41 rfl) ?_ (fun ch hp => by simp at hp)
                  rintro _ ⟨⟩; refine zas rfl (hd 11 rfl) <| Ab <| zsr <| zmv rfl (hd 42 rfl) <| zmv rfl (hd 43 rfl) ?_
                  refine Aj Tryd.f62 (Kk (R - y * q) (y * 2 ^ s) (by omega) (by omega)) rfl Tryd.func62 rfl rfl (Aa rfl (Aa rfl Ad)) (.cons .n (.cons .n .nil)) (hd 44 rfl) ?_ (fun ch hp => by simp at hp)
                  rintro _ ⟨⟩; refine Ac (Dl rfl rfl) (hd 45 rfl) <| Ab ?_
                  refine Bc rfl (fun h4 => ?_) (fun h4 => ?_)
                  · have hle := Qs h4
                    obtain ⟨hy1, hy2⟩ := P7 hH hle
                    have hqb := hy1.2.2.2
                    refine zsr <| zmv rfl (hd 46 rfl) <| zmv rfl (hd 47 rfl) ?_
                    refine Aj Tryd.f63 (Mm (R - y * q) (y * 2 ^ s) hle (by omega) (by omega)) rfl Tryd.func63 rfl rfl (Aa rfl (Aa rfl Ad)) (.cons .n (.cons .n .nil)) (hd 48 rfl) ?_ (fun ch hp => by simp at hp)
                    rintro _ ⟨⟩; refine zas rfl (hd 6 rfl) <| Ab <| Af <| zmv rfl (hd 49 rfl) <| Ac (Bo (At rfl) (show V.i .i64 _ = V.i .i64 (s : Int) by congr 1; omega)) (hd 50 rfl) <| Ac (Bo (Ib rfl rfl (by omega) rfl) (show V.i .u64 _ = V.i .u64 (((2 ^ s : Nat) : Int)) from congrArg (V.i .u64) (Q1 hs))) (hd 51 rfl) <| Ac (Av rfl rfl (r := ((q + 2 ^ s : Nat) : Int)) (by generalize 2 ^ s = u at *; rw [A5 (by omega) (by omega)]; omega)) (hd 52 rfl) <| zas rfl (hd 9 rfl) <| Ab ?_
                    refine ⟨(q + 2 ^ s), ?_, rfl, Bb 17 rfl rfl ?_⟩
                    · exact hy1
                    · exact (.cons (by show some (V.n false .u64 _) = some (V.n false .u64 _); rw [hy2]) (.cons rfl (.v9 (.v5 .nil))))
                  · have hno := Ue hH (fun hle => h4 (Qt hle))
                    refine Ai ?_
                    refine ⟨q, ?_, rfl, Bb 8 rfl rfl ?_⟩
                    · exact hno
                    · exact (.cons rfl (.cons rfl (.v9 (.v5 .nil))))
                · rintro q' hH'; refine Af <| zmv rfl (hd 37 rfl) <| Ac (Bt rfl rfl (Ag (by omega) (by omega))) (hd 38 rfl) <| zas rfl (hd 10 rfl) <| Ab ?_
                  refine ⟨(s, q'), ?_, ?_, rfl, Bb 44 rfl rfl ?_⟩
                  · exact hH'
                  · show s < s + 1
                    omega
                  · exact (.cons rfl (.cons rfl (.cons (by show some (V.i .i64 _) = some (V.i .i64 _); congr 2; omega) (.v9 (.v5 (.u (.u (.u (.u .nil)))))))))
              · obtain rfl : t = 0 := by omega
                obtain ⟨he1, he2⟩ := P9 hH
                refine Br ?_
                refine ⟨(), ?_, rfl, Bb 29 rfl rfl ?_⟩
                · trivial
                · exact (.cons (by show some (V.n false .u64 _) = some (V.n false .u64 _); rw [he2]) (.cons (by show some (V.i .u64 _) = some (V.i .u64 _); rw [he1]) (.v9 (.v9 (.u (.u (.u (.u .nil))))))))
          · have hlt := Qq h2
            refine Ai ?_
            refine ⟨(), ?_, rfl, Bb 4 rfl rfl ?_⟩
            · trivial
            · exact (.cons (by show some (V.n false .u64 _) = some (V.n false .u64 _); rw [Nat.mod_eq_of_lt hlt]) (.cons (by show some (V.i .u64 _) = some (V.i .u64 _); rw [Nat.div_eq_of_lt hlt]; rfl) (.v9 (.v9 (.u (.u (.u (.u .nil))))))))
        · rintro _ _; refine Af <| zmv rfl (hd 53 rfl) <| zmv rfl (hd 54 rfl) <| zmv rfl (hd 55 rfl) <| Ac (Cz (i := k - 1) Cj rfl rfl rfl (by omega) (by omega) rfl) (hd 56 rfl) <| A6 (Bz rfl rfl rfl Bm (by simp only [List.length_append, List.length_replicate]; omega)) <| Ab <| Af <| zmv rfl (hd 20 rfl) <| Ac (Bt rfl rfl (Ag (by omega) (by omega))) (hd 21 rfl) <| zas rfl (hd 8 rfl) <| Ab ?_
          refine ⟨(k - 1, ((R / y : Nat) : Int) :: Q), ?_, ?_, (by show [(⟨58, 1, 0, true, ints .u64 _⟩ : Ob)] = [⟨58, 1, 0, true, ints .u64 _⟩]; rw [Uf (by omega)]), Bb 91 rfl rfl ?_⟩
          · exact ⟨by show k - 1 ≤ _; omega, by rw [← hR0]; exact hQ.next h0 (by omega) hk⟩
          · show k - 1 < k
            omega
          · exact (.cons (by show some (V.n false .u64 _) = some (V.n false .u64 _); rw [(Jx h0 (by omega)).2, hR0]) (.cons (by show some (V.i .i64 _) = some (V.i .i64 _); congr 2; omega) (.v9 (.v9 (.v9 (.v9 (.u (.u .nil))))))))
      · refine Cw (Gl (id := 1) (xs := [.tmp 27]) Rk rfl (Aa rfl Ad) rfl (Ey rfl) (by decide) rfl) (hd 28 rfl) <| Ud (k := .u64) (l := [((x / B32 ^ (k - 1) % B32 : Nat) : Int)]) (l' := [((x / B32 ^ (k - 1) % B32 : Nat) : Int)]) 28 rfl rfl (Nat.le_refl _) rfl hL ?_
        refine A0 1 ?_ rfl (by kernel_rfl)
        refine As Tryd.f37 (Ny (x / B32 ^ k % y) 32 (by omega) (by decide)) rfl Tryd.func37 rfl rfl (Aa rfl (Aa rfl Ad)) (.cons .n (.cons .i .nil)) (hd 23 rfl) ?_ (fun ch hp => by simp at hp)
        rintro y hy; injection hy with hy; subst hy
        refine A0 7 ?_ rfl (by kernel_rfl)
        refine As Tryd.f44 (hNm) rfl Tryd.func44 rfl rfl (Aa rfl Ad) (.cons .n .nil) (hd 29 rfl) ?_ (fun ch hp => by simp at hp)
        rintro y hy; injection hy with hy; subst hy
        refine A0 8 ?_ rfl (by kernel_rfl)
        refine As Tryd.f61 (hAdd) rfl Tryd.func61 rfl rfl (Aa rfl (Aa rfl Ad)) (.cons .n (.cons .n .nil)) (hd 30 rfl) ?_ (fun ch hp => by simp at hp)
        rintro _ ⟨⟩; refine zal 9 (Am (Fo rfl) (hd 6 rfl)) rfl <| Bg (by kernel_rfl) <| zsr <| zas rfl (hd 9 rfl) <| Ab ?_
        refine Cx (G := Unit) (fun _ => True) (fun _ => [(6, .n false .u64 (Ar B32 (R % y))), (9, .i .u64 ((R / y : Nat) : Int)), (10, .u), (11, .u), (31, .u), (32, .u), (33, .u), (34, .u), (35, .u), (36, .u), (37, .u), (38, .u), (39, .u), (40, .u), (41, .u), (42, .u), (43, .u), (44, .u), (45, .u), (46, .u), (47, .u), (48, .u), (49, .u), (50, .u), (51, .u), (52, .u)]) ?_ ?_
        · refine zsr <| zmv rfl (hd 31 rfl) <| zmv rfl (hd 32 rfl) ?_
          refine Aj Tryd.f62 (Kk R y (by omega) (by omega)) rfl Tryd.func62 rfl rfl (Aa rfl (Aa rfl Ad)) (.cons .n (.cons .n .nil)) (hd 33 rfl) ?_ (fun ch hp => by simp at hp)
          rintro _ ⟨⟩; refine Ac (Dl rfl rfl) (hd 34 rfl) <| Ab ?_
          refine Bc rfl (fun h5 => ?_) (fun h5 => ?_)
          · refine zsr <| zas rfl (hd 10 rfl) <| Ab <| Au ?_
            refine Bv (G := Nat × Nat) (fun g => Hlv R y g.1 g.2) (fun g => [(6, .n false .u64 (Ar B32 (R - y * g.2))), (9, .i .u64 (g.2 : Int)), (10, .i .i64 ((g.1 : Int) - 1)), (11, .u), (35, .u), (36, .u), (37, .u), (38, .u), (39, .u), (40, .u), (41, .u), (42, .u), (43, .u), (44, .u), (45, .u), (46, .u), (47, .u), (48, .u), (49, .u), (50, .u), (51, .u), (52, .u)]) (fun _ => _) (fun g => g.1) (32, 0) ?_ ?_ rfl ?_
            · exact Zu hRb
            · exact (.cons (by show some (V.n false .u64 (Ar B32 R)) = some (V.n false .u64 (Ar B32 (R - y * 0))); rw [Nat.mul_zero, Nat.sub_zero]) (.cons rfl (.cons rfl (.v9 (.v5 (.u (.u (.u (.u .nil)))))))))
            · rintro ⟨t, q⟩ hH
              dsimp only at hH
              have hlq := P8 (t := t) (q := q) hRb
              refine Ae <| zsr <| zmv rfl (hd 35 rfl) <| Ac (Dl rfl rfl) (hd 36 rfl) <| Ab ?_
              refine Bc rfl (fun h6 => ?_) (fun h6 => ?_)
              · obtain ⟨s, rfl⟩ : ∃ s, t = s + 1 := ⟨t - 1, by omega⟩
                have hs : s < 32 := by have := hH.1; omega
                have hls := Ub (y := y) h0 hs
                refine Ai ?_
                refine Cx (G := Nat) (fun g => Hlv R y s g) (fun g => [(6, .n false .u64 (Ar B32 (R - y * g))), (9, .i .u64 (g : Int)), (11, .u), (39, .u), (40, .u), (41, .u), (42, .u), (43, .u), (44, .u), (45, .u), (46, .u), (47, .u), (48, .u), (49, .u), (50, .u), (51, .u), (52, .u)]) ?_ ?_
                · refine Au <| zsr <| zmv rfl (hd 39 rfl) <| Ac (Bo (At rfl) (show V.i .i64 _ = V.i .i64 (s : Int) by congr 1; omega)) (hd 40 rfl) ?_
                  refine Aj Tryd.f37 (Ny y s (by omega) (by omega)) rfl Tryd.func37 rfl rfl (Aa rfl (Aa rfl Ad)) (.cons .n (.cons .i .nil)) (hd 41 rfl) ?_ (fun ch hp => by simp at hp)
                  rintro _ ⟨⟩; refine zas rfl (hd 11 rfl) <| Ab <| zsr <| zmv rfl (hd 42 rfl) <| zmv rfl (hd 43 rfl) ?_
                  refine Aj Tryd.f62 (Kk (R - y * q) (y * 2 ^ s) (by omega) (by omega)) rfl Tryd.func62 rfl rfl (Aa rfl (Aa rfl Ad)) (.cons .n (.cons .n .nil)) (hd 44 rfl) ?_ (fun ch hp => by simp at hp)
                  rintro _ ⟨⟩; refine Ac (Dl rfl rfl) (hd 45 rfl) <| Ab ?_
                  refine Bc rfl (fun h7 => ?_) (fun h7 => ?_)
                  · have hle := Qs h7
                    obtain ⟨hy1, hy2⟩ := P7 hH hle
                    have hqb := hy1.2.2.2
                    refine zsr <| zmv rfl (hd 46 rfl) <| zmv rfl (hd 47 rfl) ?_
                    refine Aj Tryd.f63 (Mm (R - y * q) (y * 2 ^ s) hle (by omega) (by omega)) rfl Tryd.func63 rfl rfl (Aa rfl (Aa rfl Ad)) (.cons .n (.cons .n .nil)) (hd 48 rfl) ?_ (fun ch hp => by simp at hp)
                    rintro _ ⟨⟩; refine zas rfl (hd 6 rfl) <| Ab <| Af <| zmv rfl (hd 49 rfl) <| Ac (Bo (At rfl) (show V.i .i64 _ = V.i .i64 (s : Int) by congr 1; omega)) (hd 50 rfl) <| Ac (Bo (Ib rfl rfl (by omega) rfl) (show V.i .u64 _ = V.i .u64 (((2 ^ s : Nat) : Int)) from congrArg (V.i .u64) (Q1 hs))) (hd 51 rfl) <| Ac (Av rfl rfl (r := ((q + 2 ^ s : Nat) : Int)) (by generalize 2 ^ s = u at *; rw [A5 (by omega) (by omega)]; omega)) (hd 52 rfl) <| zas rfl (hd 9 rfl) <| Ab ?_
                    refine ⟨(q + 2 ^ s), ?_, rfl, Bb 17 rfl rfl ?_⟩
                    · exact hy1
                    · exact (.cons (by show some (V.n false .u64 _) = some (V.n false .u64 _); rw [hy2]) (.cons rfl (.v9 (.v5 .nil))))
                  · have hno := Ue hH (fun hle => h7 (Qt hle))
                    refine Ai ?_
                    refine ⟨q, ?_, rfl, Bb 8 rfl rfl ?_⟩
                    · exact hno
                    · exact (.cons rfl (.cons rfl (.v9 (.v5 .nil))))
                · rintro q' hH'; refine Af <| zmv rfl (hd 37 rfl) <| Ac (Bt rfl rfl (Ag (by omega) (by omega))) (hd 38 rfl) <| zas rfl (hd 10 rfl) <| Ab ?_
                  refine ⟨(s, q'), ?_, ?_, rfl, Bb 44 rfl rfl ?_⟩
                  · exact hH'
                  · show s < s + 1
                    omega
                  · exact (.cons rfl (.cons rfl (.cons (by show some (V.i .i64 _) = some (V.i .i64 _); congr 2; omega) (.v9 (.v5 (.u (.u (.u (.u .nil)))))))))
              · obtain rfl : t = 0 := by omega
                obtain ⟨he1, he2⟩ := P9 hH
                refine Br ?_
                refine ⟨(), ?_, rfl, Bb 29 rfl rfl ?_⟩
                · trivial
                · exact (.cons (by show some (V.n false .u64 _) = some (V.n false .u64 _); rw [he2]) (.cons (by show some (V.i .u64 _) = some (V.i .u64 _); rw [he1]) (.v9 (.v9 (.u (.u (.u (.u .nil))))))))
          · have hlt := Qq h5
            refine Ai ?_
            refine ⟨(), ?_, rfl, Bb 4 rfl rfl ?_⟩
            · trivial
            · exact (.cons (by show some (V.n false .u64 _) = some (V.n false .u64 _); rw [Nat.mod_eq_of_lt hlt]) (.cons (by show some (V.i .u64 _) = some (V.i .u64 _); rw [Nat.div_eq_of_lt hlt]; rfl) (.v9 (.v9 (.u (.u (.u (.u .nil))))))))
        · rintro _ _; refine Af <| zmv rfl (hd 53 rfl) <| zmv rfl (hd 54 rfl) <| zmv rfl (hd 55 rfl) <| Ac (Cz (i := k - 1) Cj rfl rfl rfl (by omega) (by omega) rfl) (hd 56 rfl) <| A6 (Bz rfl rfl rfl Bm (by simp only [List.length_append, List.length_replicate]; omega)) <| Ab <| Af <| zmv rfl (hd 20 rfl) <| Ac (Bt rfl rfl (Ag (by omega) (by omega))) (hd 21 rfl) <| zas rfl (hd 8 rfl) <| Ab ?_
          refine ⟨(k - 1, ((R / y : Nat) : Int) :: Q), ?_, ?_, (by show [(⟨58, 1, 0, true, ints .u64 _⟩ : Ob)] = [⟨58, 1, 0, true, ints .u64 _⟩]; rw [Uf (by omega)]), Bb 91 rfl rfl ?_⟩
          · exact ⟨by show k - 1 ≤ _; omega, by rw [← hR0]; exact hQ.next h0 (by omega) hk⟩
          · show k - 1 < k
            omega
          · exact (.cons (by show some (V.n false .u64 _) = some (V.n false .u64 _); rw [(Jx h0 (by omega)).2, hR0]) (.cons (by show some (V.i .i64 _) = some (V.i .i64 _); congr 2; omega) (.v9 (.v9 (.v9 (.v9 (.u (.u .nil))))))))
    · obtain rfl : k = 0 := by omega
      refine Br <| zsr <| Ii (k := .u64) (l := List.replicate 0 0 ++ Q) (l' := Q) 7 rfl rfl (by have := hQ.l; simp only [List.length_append, List.length_replicate]; omega) (by have := hQ.l; rw [List.drop_zero]; show List.take _ Q = _; rw [List.take_of_length_le (by omega)]) hL <| zmv rfl (hd 57 rfl) ?_
      refine Aj Tryd.f44 (Fz Q (by have := hQ.l; omega)) rfl Tryd.func44 rfl rfl (Aa rfl Ad) (.cons .n .nil) (hd 58 rfl) ?_ (fun ch hp => by simp at hp)
      rintro _ ⟨⟩; refine zmv rfl (hd 59 rfl) <| zas rfl (hd 4 rfl) <| zas rfl (hd 5 rfl) <| Ab <| Ak ?_
      refine ⟨_, _, (.cons rfl (.cons rfl .nil)), (.t1 .n (.t1 .n .t0)), ?_⟩
      rw [hQ.fin, Nat.pow_zero, Nat.div_one]

theorem B1 (v w : Int) (hv : (dg v).length < 4294967296) (hw : (dg w).length < 4294967296) (h0 : w ≠ 0) : Spec Tryd.prog 38 [.a [.b (decide (v < 0)), .n false .u64 (dg v)], .a [.b (decide (w < 0)), .n false .u64 (dg w)]] (fun o => o = .ret (.t [.a [.b (decide ((flo v w) < 0)), .n false .u64 (dg (flo v w))], .a [.b (decide ((v - (flo v w) * w) < 0)), .n false .u64 (dg (v - (flo v w) * w))]])) := by
  refine An [(0, .a [.b (decide (v < 0)), .n false .u64 (dg v)]), (1, .a [.b (decide (w < 0)), .n false .u64 (dg w)])] rfl Tryd.func38 rfl (zlb rfl) fun Γ hN hds hL hR => ?_
  have hd := Bu 43 hN
  have hX1 : (dg (zs (ng v w) (v.natAbs / w.natAbs))).length ≤ (dg v).length := Xa (by rw [J5]; exact Nat.div_le_self _ _)
  have hX2 := Nu (zs (ng v w) (v.natAbs / w.natAbs)) 1
  have h1 := Adr
  have hX3 := Jb (zs (ng v w) (v.natAbs / w.natAbs)) w
  have hX4 := Jb ((zs (ng v w) (v.natAbs / w.natAbs)) - 1) w
  refine zsr <| Bl (Ci (id := 0) (n := 2) rfl rfl rfl (by decide) rfl) (hd 2 rfl) <| Bl (Ci (id := 1) (n := 2) rfl rfl rfl (by decide) rfl) (hd 3 rfl) <| Bl (Ao (id := 2) Bd (by decide) rfl (by decide) rfl) (hd 4 rfl) <| Bl (Ao (id := 3) Bd (by decide) rfl (by decide) rfl) (hd 5 rfl) <| Ab <| zsr <| Ac (Ba Cr rfl rfl rfl) (hd 10 rfl) <| Ac (A9 D6 rfl rfl rfl) (hd 11 rfl) <| Ac (Ba Cr rfl rfl rfl) (hd 12 rfl) <| Ac (A9 D6 rfl rfl rfl) (hd 13 rfl) ?_
  refine Aj Tryd.f51 (Y0 v.natAbs w.natAbs hv hw (by omega)) rfl Tryd.func51 rfl rfl (Aa rfl (Aa rfl Ad)) (.cons .n (.cons .n .nil)) (hd 14 rfl) ?_ (fun ch hp => by simp at hp)
  rintro _ ⟨⟩; refine zmv rfl (hd 9 rfl) <| Ac (Ap rfl rfl) (hd 15 rfl) <| Ac (Ap rfl rfl) (hd 16 rfl) <| zas rfl (hd 6 rfl) <| zas rfl (hd 7 rfl) <| Ab <| zsr <| Ac (Ba C6 rfl rfl rfl) (hd 17 rfl) <| Ac (A9 Ez rfl rfl rfl) (hd 18 rfl) <| Ac (Ba C6 rfl rfl rfl) (hd 19 rfl) <| Ac (A9 Ez rfl rfl rfl) (hd 20 rfl) <| Ac (Bo (Mr Xs rfl rfl) (show V.b _ = V.b (ng v w) from rfl)) (hd 21 rfl) ?_; refine zmv rfl (hd 22 rfl) ?_
  refine Aj Tryd.f24 (Cl (ng v w) (v.natAbs / w.natAbs)) rfl Tryd.func24 rfl rfl (Aa rfl (Aa rfl Ad)) (.cons .b (.cons .n .nil)) (hd 23 rfl) ?_ (fun ch hp => by simp at hp)
  rintro _ ⟨⟩; refine Bl (Ao (id := 4) Bd (by decide) rfl (by decide) rfl) (hd 8 rfl) <| A6 (Ah rfl rfl rfl A2 rfl rfl (zlb rfl)) <| Ab <| Ae <| zsr <| zmv rfl (hd 24 rfl) ?_
  refine Aj Tryd.f12 (Nb (Ar B32 (v.natAbs % w.natAbs))) rfl Tryd.func12 rfl rfl (Aa rfl Ad) (.cons .n .nil) (hd 25 rfl) ?_ (fun ch hp => by simp at hp)
  rintro _ ⟨⟩; refine Ac (G7 rfl) (hd 26 rfl) <| zmv rfl (hd 27 rfl) ?_
  refine Fj 27 rfl (fun h1 => ?_) (fun h1 => ?_)
  · have hr0 : ¬ v.natAbs % w.natAbs = 0 := fun h => by rw [decide_eq_true (K2.2 h)] at h1; exact absurd h1 (by decide)
    refine Ay 27 rfl rfl (Ba C6 rfl rfl rfl) (hd 28 rfl) <| Ay 27 rfl rfl (A9 Ez rfl rfl rfl) (hd 29 rfl) <| Ay 27 rfl rfl (Ba C6 rfl rfl rfl) (hd 30 rfl) <| Ay 27 rfl rfl (A9 Ez rfl rfl rfl) (hd 31 rfl) <| Ay 27 rfl rfl (Bo (Mr Xs rfl rfl) (show V.b _ = V.b (ng v w) from rfl)) (hd 32 rfl) <| Ac (Bi rfl rfl) (hd 33 rfl) <| Ab ?_
    refine G0 rfl (fun h2 => ?_) (fun h2 => ?_)
    · have hf : (zs (ng v w) (v.natAbs / w.natAbs)) - 1 = flo v w := Abt h2 hr0
      refine Cf (n := 4) _ rfl Dk <| zal 0 (Am (A8 A7 rfl rfl rfl rfl) (hd 34 rfl)) rfl ?_
      refine A0 1 ?_ rfl (by kernel_rfl)
      refine As Tryd.f36 (Q8 1 (by unfold inI; omega)) rfl Tryd.func36 rfl rfl (Aa rfl Ad) (.cons .i .nil) (hd 35 rfl) ?_ (fun ch hp => by simp at hp)
      rintro y hy; injection hy with hy; subst hy
      refine A0 2 ?_ rfl (by kernel_rfl)
      refine As Tryd.f52 (Nc _ 1 (by omega) (by omega)) rfl Tryd.func52 rfl rfl (Aa rfl (Aa rfl Ad)) (.cons (.a1 .b (.a1 .n .a0)) (.cons (.a1 .b (.a1 .n .a0)) .nil)) (hd 36 rfl) ?_ (fun ch hp => by simp at hp)
      rintro y hy; injection hy with hy; subst hy
      refine A0 3 ?_ rfl (by kernel_rfl)
      refine Bf (Ah rfl rfl rfl A2 rfl rfl (zlb rfl)) rfl <| Bg (by kernel_rfl) <| Ae <| Cf (n := 8) _ rfl Dk <| zal 0 (Am (A8 A7 rfl rfl rfl rfl) (hd 37 rfl)) rfl <| A4 1 [5, 6, 7] (Am (A8 A7 rfl rfl rfl rfl) (hd 38 rfl)) rfl <| A4 2 [4, 5, 6, 7] (Am (A8 A7 rfl rfl rfl rfl) (hd 39 rfl)) rfl <| A4 3 [4, 5, 6, 7] (Am (A8 A7 rfl rfl rfl rfl) (hd 40 rfl)) rfl ?_
      refine A0 4 ?_ rfl (by kernel_rfl)
      refine As Tryd.f53 (Q7 _ w (by omega) (by omega)) rfl Tryd.func53 rfl rfl (Aa rfl (Aa rfl Ad)) (.cons (.a1 .b (.a1 .n .a0)) (.cons (.a1 .b (.a1 .n .a0)) .nil)) (hd 41 rfl) ?_ (fun ch hp => by simp at hp)
      rintro y hy; injection hy with hy; subst hy
      refine A0 5 ?_ rfl (by kernel_rfl)
      refine As Tryd.f52 (Nc v _ (by omega) (by omega)) rfl Tryd.func52 rfl rfl (Aa rfl (Aa rfl Ad)) (.cons (.a1 .b (.a1 .n .a0)) (.cons (.a1 .b (.a1 .n .a0)) .nil)) (hd 42 rfl) ?_ (fun ch hp => by simp at hp)
      rintro y hy; injection hy with hy; subst hy
      refine A0 6 ?_ rfl (by kernel_rfl)
      refine Bf (Ah rfl rfl rfl A2 rfl rfl (zlb rfl)) rfl ?_
      refine A0 7 ?_ rfl (by kernel_rfl)
      refine Bf (Ah rfl rfl rfl A2 rfl rfl (zlb rfl)) rfl <| Bg (by kernel_rfl) <| Ak ?_
      refine ⟨_, _, (.cons (ResV.cell A7 rfl rfl rfl rfl) (.cons (ResV.cell A7 rfl rfl rfl rfl) .nil)), (.t1 (.a1 .b (.a1 .n .a0)) (.t1 (.a1 .b (.a1 .n .a0)) .t0)), ?_⟩
      rw [hf]
    · have hf : (zs (ng v w) (v.natAbs / w.natAbs)) = flo v w := Zx (.inl h2)
      refine Ai <| Ae <| Cf (n := 8) _ rfl Dk <| zal 0 (Am (A8 A7 rfl rfl rfl rfl) (hd 37 rfl)) rfl <| A4 1 [5, 6, 7] (Am (A8 A7 rfl rfl rfl rfl) (hd 38 rfl)) rfl <| A4 2 [4, 5, 6, 7] (Am (A8 A7 rfl rfl rfl rfl) (hd 39 rfl)) rfl <| A4 3 [4, 5, 6, 7] (Am (A8 A7 rfl rfl rfl rfl) (hd 40 rfl)) rfl ?_
      refine A0 4 ?_ rfl (by kernel_rfl)
      refine As Tryd.f53 (Q7 _ w (by omega) (by omega)) rfl Tryd.func53 rfl rfl (Aa rfl (Aa rfl Ad)) (.cons (.a1 .b (.a1 .n .a0)) (.cons (.a1 .b (.a1 .n .a0)) .nil)) (hd 41 rfl) ?_ (fun ch hp => by simp at hp)
      rintro y hy; injection hy with hy; subst hy
      refine A0 5 ?_ rfl (by kernel_rfl)
      refine As Tryd.f52 (Nc v _ (by omega) (by omega)) rfl Tryd.func52 rfl rfl (Aa rfl (Aa rfl Ad)) (.cons (.a1 .b (.a1 .n .a0)) (.cons (.a1 .b (.a1 .n .a0)) .nil)) (hd 42 rfl) ?_ (fun ch hp => by simp at hp)
      rintro y hy; injection hy with hy; subst hy
      refine A0 6 ?_ rfl (by kernel_rfl)
      refine Bf (Ah rfl rfl rfl A2 rfl rfl (zlb rfl)) rfl ?_
      refine A0 7 ?_ rfl (by kernel_rfl)
      refine Bf (Ah rfl rfl rfl A2 rfl rfl (zlb rfl)) rfl <| Bg (by kernel_rfl) <| Ak ?_
      refine ⟨_, _, (.cons (ResV.cell A7 rfl rfl rfl rfl) (.cons (ResV.cell A7 rfl rfl rfl rfl) .nil)), (.t1 (.a1 .b (.a1 .n .a0)) (.t1 (.a1 .b (.a1 .n .a0)) .t0)), ?_⟩
      rw [hf]
  · have hr0 : v.natAbs % w.natAbs = 0 := K2.1 (Decidable.byContradiction fun hn => by rw [decide_eq_false hn] at h1; exact absurd h1 (by decide))
    refine Bh 27 rfl rfl rfl (hd 28 rfl) <| Bh 27 rfl rfl rfl (hd 29 rfl) <| Bh 27 rfl rfl rfl (hd 30 rfl) <| Bh 27 rfl rfl rfl (hd 31 rfl) <| Bh 27 rfl rfl rfl (hd 32 rfl) <| Ac (Bn rfl rfl) (hd 33 rfl) <| Ab <| Aw rfl <| Ai <| Ae <| Cf (n := 8) _ rfl Dk <| zal 0 (Am (A8 A7 rfl rfl rfl rfl) (hd 37 rfl)) rfl <| A4 1 [5, 6, 7] (Am (A8 A7 rfl rfl rfl rfl) (hd 38 rfl)) rfl ?_; refine A4 2 [4, 5, 6, 7] (Am (A8 A7 rfl rfl rfl rfl) (hd 39 rfl)) rfl <| A4 3 [4, 5, 6, 7] (Am (A8 A7 rfl rfl rfl rfl) (hd 40 rfl)) rfl ?_
    refine A0 4 ?_ rfl (by kernel_rfl)
    refine As Tryd.f53 (Q7 _ w (by omega) (by omega)) rfl Tryd.func53 rfl rfl (Aa rfl (Aa rfl Ad)) (.cons (.a1 .b (.a1 .n .a0)) (.cons (.a1 .b (.a1 .n .a0)) .nil)) (hd 41 rfl) ?_ (fun ch hp => by simp at hp)
    rintro y hy; injection hy with hy; subst hy
    refine A0 5 ?_ rfl (by kernel_rfl)
    refine As Tryd.f52 (Nc v _ (by omega) (by omega)) rfl Tryd.func52 rfl rfl (Aa rfl (Aa rfl Ad)) (.cons (.a1 .b (.a1 .n .a0)) (.cons (.a1 .b (.a1 .n .a0)) .nil)) (hd 42 rfl) ?_ (fun ch hp => by simp at hp)
    rintro y hy; injection hy with hy; subst hy
    refine A0 6 ?_ rfl (by kernel_rfl)
    refine Bf (Ah rfl rfl rfl A2 rfl rfl (zlb rfl)) rfl ?_
    refine A0 7 ?_ rfl (by kernel_rfl)
    refine Bf (Ah rfl rfl rfl A2 rfl rfl (zlb rfl)) rfl <| Bg (by kernel_rfl) <| Ak ?_
    refine ⟨_, _, (.cons (ResV.cell A7 rfl rfl rfl rfl) (.cons (ResV.cell A7 rfl rfl rfl rfl) .nil)), (.t1 (.a1 .b (.a1 .n .a0)) (.t1 (.a1 .b (.a1 .n .a0)) .t0)), ?_⟩
    rw [Zx (.inr hr0)]

def xr5 (x : Int) : Int := Fc .xor .u64 x 5
def Acy (l : List Int) : List Int := l.map xr5
def Ad0 (l : List Int) (i : Nat) : List Int := Acy (l.take i) ++ l.drop i
def cpI (l : List Int) (i : Nat) : List Int := Ca (l.take i) l.length
theorem Mx (a b : Int) : Aq (a + b) ≤ max (Aq a) (Aq b) + 1 := by
  have h := Sn a (-b)
  rw [Int.sub_neg] at h
  have e : Aq (-b) = Aq b := by unfold Aq; rw [Int.natAbs_neg]
  rwa [e] at h


def Adb (b m x : Nat) : List Int := Ar b x ++ List.replicate (m - (Ar b x).length) 0
def hdg (b m x : Nat) : List Int := (Adb b m x).reverse

theorem H8 {x k : Nat} (hk : 0 < k) : x / 2 ^ k = x / 2 ^ (k - 1) / 2 := by
  obtain ⟨j, rfl⟩ : ∃ j, k = j + 1 := ⟨k - 1, by omega⟩
  rw [Nat.add_sub_cancel, Nat.pow_succ, Nat.div_div_eq_div_mul]
theorem Ls {x k : Nat} (hk : 0 < k) (h : ((x / 2 ^ (k - 1) % 2 : Nat) : Int) = 1) : 2 * (x / 2 ^ k) + 1 = x / 2 ^ (k - 1) := by
  rw [H8 hk]; omega
theorem Lt {x k : Nat} (hk : 0 < k) (h : ¬ ((x / 2 ^ (k - 1) % 2 : Nat) : Int) = 1) : 2 * (x / 2 ^ k) = x / 2 ^ (k - 1) := by
  rw [H8 hk]; omega

theorem Pb : ∀ n, pB n = ((2 ^ (64 * n) : Nat) : Int)
  | 0 => rfl
  | n + 1 => by
    rw [pB, Pb n, show 64 * (n + 1) = 64 * n + 64 by omega, Nat.pow_add, Int.natCast_mul, Int.mul_comm]
    rfl
def Ad5 (B : List Int) (i : Nat) : List Int := List.replicate (B.length - i) 0 ++ (B.take i).reverse

def pwV (b k : Nat) : V := .n true .u64 (lm ((b ^ 2 ^ k : Nat) : Int))
def pwR (b K : Nat) : List (List V) := (List.range K).map fun k => [pwV b k]

def Zn : ByteArray := ⟨#[48, 49, 50, 51, 52, 53, 54, 55, 56, 57, 97, 98, 99, 100, 101, 102, 103, 104, 105, 106, 107, 108, 109, 110, 111, 112, 113, 114, 115, 116, 117, 118, 119, 120, 121, 122]⟩
def ltr (x : Int) : Int := Iq Zn x.toNat
def Adh (x : Int) : UInt8 := UInt8.ofNat (ltr x).toNat
def txt (l : List Int) : ByteArray := ⟨(l.map Adh).toArray⟩

def hv (b : Nat) (l : List Int) : Int := vb b l.reverse
def dgv (c : Int) : Int := if 48 ≤ c ∧ c ≤ 57 then c - 48 else if 97 ≤ c ∧ c ≤ 122 then c - 97 + 10 else 36
def dgs (s : ByteArray) : List Int := (Aaa s).map dgv

def Ad9 (s t : ByteArray) : Int := if s.size < t.size ∨ (s.size = t.size ∧ Op.bytesLess s.toList t.toList = true) then -1 else if s = t then 0 else 1

theorem Aad {n : Nat} (h1 : n < 9223372036854775808) : Fc .and .i64 (n : Int) 1 = ((n % 2 : Nat) : Int) := by
  unfold Fc
  simp only [IntKind.bits]
  have e1 : (BitVec.ofInt 64 (n : Int)).toNat = n := by
    rw [BitVec.toNat_ofInt]; simp; omega
  have e2 : (BitVec.ofInt 64 1).toNat = 1 := by decide
  have e3 : (BitVec.ofInt 64 (n : Int) &&& BitVec.ofInt 64 1).toNat = n % 2 := by
    rw [BitVec.toNat_and, e1, e2]
    simp
  show IntKind.i64.wrap (((BitVec.ofInt 64 (n : Int) &&& BitVec.ofInt 64 1).toNat : Nat) : Int) = _
  rw [e3, Ag (by omega) (by omega)]
def PW (v n : Nat) : Int := ((v ^ n : Nat) : Int)
theorem Un {v : Nat} : PW v 0 = 1 := rfl
theorem Ab4 {v : Nat} : PW v 1 = v := by unfold PW; rw [Nat.pow_one]
theorem Aak {v n : Nat} : 0 ≤ PW v n := Int.natCast_nonneg _
theorem Um {v n : Nat} (hv : 2 ≤ v) : PW v n ≠ 0 := by
  have := Nat.pow_pos (n := n) (show 0 < v by omega)
  unfold PW; omega
theorem Rd {v m n : Nat} : PW v m * PW v n = PW v (m + n) := by
  unfold PW; rw [← Int.natCast_mul, Nat.pow_add]
theorem Aaj {v m : Nat} : vl (lm (PW v m)) * vl (lm (PW v m)) = PW v (2 * m) := by
  rw [Jg Aak, Rd]; congr 1; omega
theorem Aco {v m : Nat} : vl (lm (PW v m)) * vl (lm (v : Int)) = PW v (m + 1) := by
  rw [Jg Aak, Jg (Int.natCast_nonneg _), ← Ab4 (v := v), Rd]
theorem It {v m n : Nat} (hv : 2 ≤ v) (h : m ≤ n) : Aq (PW v m) ≤ Aq (PW v n) := by
  refine D9 ?_
  unfold PW
  rw [Int.natAbs_natCast, Int.natAbs_natCast]
  exact Nat.pow_le_pow_right (by omega) h
theorem Pv {x : Int} {k : Nat} (h : 2 ^ k ≤ x.natAbs) : k + 1 ≤ Aq x := by
  unfold Aq
  rcases Nat.lt_or_ge (Cg x.natAbs) (k + 1) with h1 | h1
  · have := B4.1 (show Cg x.natAbs ≤ k by omega)
    omega
  · exact h1
theorem Wt {x : Int} (h : x ≠ 0) : 2 ^ (Aq x - 1) ≤ x.natAbs := by
  rcases Nat.lt_or_ge x.natAbs (2 ^ (Aq x - 1)) with h1 | h1
  · have h2 := B4.2 h1
    have h3 : Cg x.natAbs = Aq x := rfl
    have h4 : 0 < Aq x := Dx (by omega)
    omega
  · exact h1
theorem If {v : Nat} (hv : 2 ≤ v) : 2 ≤ Aq (v : Int) := Pv (k := 1) (by rw [Int.natAbs_natCast]; exact hv)
theorem La {v n : Nat} (hv : 2 ≤ v) : (Aq (v : Int) - 1) * n + 1 ≤ Aq (PW v n) := by
  refine Pv ?_
  have h := Wt (x := (v : Int)) (by omega)
  rw [Int.natAbs_natCast] at h
  unfold PW
  rw [Int.natAbs_natCast, Nat.pow_mul]
  exact Nat.pow_le_pow_left h n
theorem Acp {v n : Nat} (hv : 2 ≤ v) : n + 1 ≤ Aq (PW v n) := by
  have h1 := La (n := n) hv
  have h2 := If hv
  have h3 : 1 * n ≤ (Aq (v : Int) - 1) * n := Nat.mul_le_mul_right n (by omega)
  omega
def cF (b n : Nat) : V := .n false .u64 (lm (PW b n))

theorem Abh {l : List Int} (hu : Az l) : trm (dig l) = Ar B32 (vl l).toNat := by
  rw [Gs (s := false) hu rfl]
  show Ar 4294967296 (vl l).natAbs = Ar 4294967296 (vl l).toNat
  have := Bk hu
  rw [show (vl l).natAbs = (vl l).toNat by omega]
theorem Mn {v : Nat} (h : v < 18446744073709551616) : trm (dig [(v : Int)]) = Ar B32 v := by
  rw [Abh (fun x hx => by simp at hx; subst hx; omega), show (vl [(v : Int)]).toNat = v by simp [vl]]
theorem Nt {b x n : Nat} (hb : 2 ≤ b) (h : x < 2 ^ n) : (Ar b x).length ≤ n := Gp hb n x (Nat.lt_of_lt_of_le h (Nat.pow_le_pow_left hb n))

def Ad8 (l : List Int) (j : Nat) : List Int := List.replicate j 0 ++ l
def Acw (m i : Nat) : List Int := List.replicate i 48 ++ List.replicate (m - i) 0
def ptx (s : ByteArray) (k : Nat) : ByteArray := s.extract 0 (s.size - k) ++ ⟨#[46]⟩ ++ s.extract (s.size - k) s.size

theorem Qo {x : Int} (h0 : 0 ≤ x) : (Ar B32 x.toNat).length ≤ Aq x := by
  have h := B4.1 (Nat.le_refl (Aq x))
  exact Nt (by decide) (Nat.lt_of_le_of_lt (by omega) h)

def Ad1 (v : Int) : ByteArray := if v < 0 then (⟨#[45]⟩ : ByteArray) ++ txt (hdg 10 1 v.natAbs) else txt (hdg 10 1 v.natAbs)

def nwt (a x n : Nat) : Nat := (n * x + a / x ^ n) / (n + 1)
structure RootIs (a k r : Nat) : Prop where
  le : r ^ k ≤ a
  lt : a < (r + 1) ^ k
theorem RootIs.is {a k r x : Nat} (h : RootIs a k r) (h1 : r ≤ x) (h2 : x ^ k ≤ a) : x = r := by
  rcases Nat.lt_or_ge r x with h3 | h3
  · have h4 := Nat.pow_le_pow_left h3 k
    have h5 := h.lt
    have h6 : (r + 1) ^ k ≤ a := Nat.le_trans h4 h2
    omega
  · omega
theorem Adc {v : Int} (h0 : 0 ≤ v) (h1 : v < 18446744073709551616) : Fc .or .u64 0 v = v := by
  have h := (Sf (c := 0) (x := v) (s := 0) (by decide) (by decide) (by decide) h0).1
  have e : loS v 0 = v := by unfold loS; rw [Int.pow_zero, Int.mul_one]; omega
  rw [e] at h
  omega
def Ac2 (n : Nat) : List Int := List.replicate (n / 64) 0 ++ [((2 ^ (n % 64) : Nat) : Int), 0]
def Ad2 (n i : Nat) : List Int := if i = 0 then List.replicate (n / 64 + 2) 0 else Ac2 n

def Aca (K : Nat) (rows : List (List Int)) : Bool := rows.all fun l => decide (Aq (vl l) ≤ K)
theorem CoE.gcd {v w g x : Int} (h : CoE v w g x) : g = ((Nat.gcd v.natAbs w.natAbs : Nat) : Int) := by
  have h1 := (h.gc g).1 (Int.dvd_refl g)
  have h2 : g.natAbs ∣ Nat.gcd v.natAbs w.natAbs := Nat.dvd_gcd (Int.natAbs_dvd_natAbs.2 h1.1) (Int.natAbs_dvd_natAbs.2 h1.2)
  have h3 : ((Nat.gcd v.natAbs w.natAbs : Nat) : Int) ∣ g := (h.gc _).2 ⟨Int.ofNat_dvd_left.2 (Nat.gcd_dvd_left _ _), Int.ofNat_dvd_left.2 (Nat.gcd_dvd_right _ _)⟩
  have h4 := Nat.dvd_antisymm h2 (Int.ofNat_dvd_left.1 h3)
  have := h.g0
  omega

def tz (x : Nat) : Nat := if h : x = 0 ∨ x % 2 = 1 then 0 else tz (x / 2) + 1
termination_by x
decreasing_by omega
theorem Ac1 : tz 0 = 0 := by rw [tz]; simp
theorem Tk {x : Nat} (h : x % 2 = 1) : tz x = 0 := by rw [tz, dif_pos (.inr h)]
theorem N9 {x : Nat} (h0 : x ≠ 0) (h : x % 2 = 0) : tz x = tz (x / 2) + 1 := by rw [tz, dif_neg (by omega)]
theorem Hz {x : Nat} (h0 : 0 < x) : ∃ j, x = 2 ^ tz x * (2 * j + 1) := by
  induction x using Nat.strongRecOn with
  | _ x ih =>
    rcases Nat.mod_two_eq_zero_or_one x with h | h
    · obtain ⟨j, hj⟩ := ih (x / 2) (by omega) (by omega)
      refine ⟨j, ?_⟩
      rw [N9 (by omega) h, Nat.pow_succ, Nat.mul_comm _ 2, Nat.mul_assoc, ← hj]
      omega
    · exact ⟨x / 2, by rw [Tk h]; omega⟩
theorem Yd {k j : Nat} : tz (2 ^ k * (2 * j + 1)) = k := by
  induction k with
  | zero => exact Tk (by omega)
  | succ k ih =>
    have hp : 0 < 2 ^ k * (2 * j + 1) := Nat.mul_pos (Nat.pow_pos (by decide)) (by omega)
    have e : 2 ^ (k + 1) * (2 * j + 1) = 2 * (2 ^ k * (2 * j + 1)) := by rw [Nat.pow_succ, Nat.mul_comm _ 2, Nat.mul_assoc]
    rw [e, N9 (by omega) (by omega), show 2 * (2 ^ k * (2 * j + 1)) / 2 = 2 ^ k * (2 * j + 1) by omega, ih]
theorem Aba {x : Nat} (h0 : 0 < x) : 2 ^ tz x ≤ x := by
  obtain ⟨j, hj⟩ := Hz h0
  have h1 : 2 ^ tz x * 1 ≤ 2 ^ tz x * (2 * j + 1) := Nat.mul_le_mul_left _ (by omega)
  rw [← hj] at h1
  omega
theorem Yb {x n : Nat} (h0 : 0 < x) (h : x < 2 ^ n) : tz x < n := by
  have h1 := Aba h0
  rcases Nat.lt_or_ge (tz x) n with h2 | h2
  · exact h2
  · have := Nat.pow_le_pow_right (n := 2) (by decide) h2
    omega
def od (x : Nat) : Nat := x / 2 ^ tz x
def fl8 (m : Nat) (s : Int) : Int := if m % 8 = 3 ∨ m % 8 = 5 then -s else s
def fl4 (x m : Nat) (s : Int) : Int := if x % 4 = 3 ∧ m % 4 = 3 then -s else s
def flt (x m : Nat) (s : Int) : Int := if tz x % 2 = 1 then fl8 m s else s
theorem Wn {x : Nat} (h0 : 0 < x) (h : x < 2 ^ 64) : x &&& (2 ^ 64 - x) = 2 ^ tz x := by
  obtain ⟨j, hj⟩ := Hz h0
  apply Nat.eq_of_testBit_eq
  intro i
  have e : 2 ^ 64 - x = 2 ^ 64 - (x - 1 + 1) := by omega
  rw [Nat.testBit_and, e, Nat.testBit_two_pow_sub_succ (by omega), Nat.testBit_two_pow]
  generalize tz x = k at *
  have hp : 0 < 2 ^ k := Nat.pow_pos (by decide)
  rcases Nat.lt_trichotomy i k with h1 | h1 | h1
  · rw [hj, Nat.testBit_two_pow_mul]
    simp [show ¬ k ≤ i by omega, show ¬ k = i by omega]
  · subst h1
    have e1 : x - 1 = 2 ^ i * (2 * j) + (2 ^ i - 1) := by rw [hj, Nat.mul_add, Nat.mul_one]; omega
    rw [e1, Nat.testBit_two_pow_mul_add _ (by omega), if_neg (by omega), Nat.sub_self, hj, Nat.testBit_two_pow_mul]
    have hi : i < 64 := by
      rcases Nat.lt_or_ge i 64 with h2 | h2
      · exact h2
      · have h3 := Nat.pow_le_pow_right (n := 2) (by decide) h2
        have h4 : 2 ^ i * 1 ≤ 2 ^ i * (2 * j + 1) := Nat.mul_le_mul_left _ (by omega)
        omega
    simp [hi]
  · have e1 : x - 1 = 2 ^ k * (2 * j) + (2 ^ k - 1) := by rw [hj, Nat.mul_add, Nat.mul_one]; omega
    rw [e1, Nat.testBit_two_pow_mul_add _ (by omega), if_neg (by omega), hj, Nat.testBit_two_pow_mul]
    have e2 : (2 * j + 1).testBit (i - k) = (2 * j).testBit (i - k) := by
      obtain ⟨m, hm⟩ : ∃ m, i - k = m + 1 := ⟨i - k - 1, by omega⟩
      rw [hm, Nat.testBit_succ, Nat.testBit_succ]
      congr 1
      omega
    simp [show k ≤ i by omega, show ¬ k = i by omega, e2]
    intro h8 _; exact h8
def tzTab : List Int := [0, 1, 56, 2, 57, 49, 28, 3, 61, 58, 42, 50, 38, 29, 17, 4, 62, 47, 59, 36, 45, 43, 51, 22, 53, 39, 33, 30, 24, 18, 12, 5, 63, 55, 48, 27, 60, 41, 37, 16, 46, 35, 44, 21, 52, 32, 23, 11, 54, 26, 40, 15, 34, 20, 31, 10, 25, 14, 19, 9, 13, 8, 7, 6]
theorem Va : ((List.range 64).all fun k => Nat.blt (2 ^ k * 285870213051353865 % 18446744073709551616 / 288230376151711744) 64 && decide (tzTab.getD (2 ^ k * 285870213051353865 % 18446744073709551616 / 288230376151711744) 0 = Int.ofNat k)) = true := by decide +kernel
theorem N8 (k : Nat) (h : k < 64) : 2 ^ k * 285870213051353865 % 18446744073709551616 / 288230376151711744 < 64 ∧ tzTab.getD (2 ^ k * 285870213051353865 % 18446744073709551616 / 288230376151711744) 0 = (k : Int) := by
  have h1 := List.all_eq_true.1 Va k (List.mem_range.2 h)
  rw [Bool.and_eq_true] at h1
  exact ⟨Nat.le_of_ble_eq_true h1.1, of_decide_eq_true h1.2⟩
abbrev tzCells : List V := ints .u8 tzTab
theorem Sl {x : Nat} (h0 : 0 < x) (h : x < 18446744073709551616) : x &&& (18446744073709551616 - x) = 2 ^ tz x := Wn h0 h
theorem getD_drop' {l : List Int} {k i : Nat} : (l.drop k).getD i 0 = l.getD (k + i) 0 := by
  rw [List.getD_eq_getElem?_getD, List.getD_eq_getElem?_getD, List.getElem?_drop]
theorem Ya {x : Nat} (h0 : 0 < x) (h : x < 18446744073709551616) : tz x < 64 ∧ 2 ^ tz x < 18446744073709551616 := by
  have h1 : tz x < 64 := Yb h0 h
  have h2 := Nat.pow_lt_pow_right (a := 2) (by decide) h1
  exact ⟨h1, h2⟩
theorem P5 {l : List Int} {j : Nat} {v : Int} (h1 : j < l.length) (h2 : l.getD j 0 = v) : ((ints .u8 l).drop (j * 1))[0]? = some (V.i .u8 v) := by
  rw [List.getElem?_drop, Nat.mul_one, Nat.add_zero, F3, List.getElem?_eq_getElem h1]
  rw [List.getD_eq_getElem?_getD, List.getElem?_eq_getElem h1] at h2
  rw [← h2]; rfl
theorem Yc : tzTab.length = 64 := by decide
theorem Vb {k : Nat} (h : k < 64) : (tzCells.drop (2 ^ k * 285870213051353865 % 18446744073709551616 / 288230376151711744 * 1))[0]? = some (.i .u8 (k : Int)) :=
  P5 (by rw [Yc]; exact (N8 k h).1) (N8 k h).2
theorem Xe {a b : Nat} (ha : a < 18446744073709551616) (hb : b < 18446744073709551616) : Fc .and .u64 (a : Int) (b : Int) = ((a &&& b : Nat) : Int) := by
  unfold Fc
  simp only [IntKind.bits]
  have e1 : (BitVec.ofInt 64 (a : Int)).toNat = a := by rw [BitVec.toNat_ofInt]; simp; omega
  have e2 : (BitVec.ofInt 64 (b : Int)).toNat = b := by rw [BitVec.toNat_ofInt]; simp; omega
  have e3 : (BitVec.ofInt 64 (a : Int) &&& BitVec.ofInt 64 (b : Int)).toNat = a &&& b := by rw [BitVec.toNat_and, e1, e2]
  show IntKind.u64.wrap (((BitVec.ofInt 64 (a : Int) &&& BitVec.ofInt 64 (b : Int)).toNat : Nat) : Int) = _
  rw [e3]
  have h := Nat.and_le_left (n := a) (m := b)
  exact A5 (by omega) (by omega)
theorem U9 {x r : Nat} (h0 : 0 < x) (h : x < 2 ^ 64) : tz (x + 2 ^ 64 * r) = tz x := by
  obtain ⟨j, hj⟩ := Hz h0
  have hk := Yb h0 h
  generalize tz x = k at *
  have e : x + 2 ^ 64 * r = 2 ^ k * (2 * (j + 2 ^ (63 - k) * r) + 1) := by
    have e1 : (2 : Nat) ^ 64 = 2 ^ k * (2 * 2 ^ (63 - k)) := by rw [← Nat.pow_succ', ← Nat.pow_add]; congr 1; omega
    rw [hj, e1, Nat.mul_assoc, ← Nat.mul_add]
    congr 1
    rw [Nat.mul_add, Nat.mul_assoc]
    omega
  rw [e, Yd]
theorem U8 {y : Nat} (h0 : 0 < y) : tz (2 ^ 64 * y) = 64 + tz y := by
  obtain ⟨j, hj⟩ := Hz h0
  have e : 2 ^ 64 * y = 2 ^ (64 + tz y) * (2 * j + 1) := by rw [Nat.pow_add, Nat.mul_assoc, ← hj]
  rw [e, Yd]
theorem Mc : ∀ {l : List Int} {i : Nat}, Az l → i < l.length → (∀ j < i, l.getD j 0 = 0) → l.getD i 0 ≠ 0 → tz (vl l).toNat = 64 * i + tz (l.getD i 0).toNat
  | [], i, _, hi, _, _ => by simp at hi
  | y :: l, 0, hu, _, _, hx => by
    have hy := hu y (List.mem_cons_self ..)
    have hl := Bk fun z hz => hu z (List.mem_cons_of_mem _ hz)
    have hx' : y ≠ 0 := hx
    have e : (vl (y :: l)).toNat = y.toNat + 2 ^ 64 * (vl l).toNat := by
      simp only [vl]
      have hB : Bs = 18446744073709551616 := rfl
      rw [hB]
      omega
    rw [e, U9 (by omega) (by omega)]
    show _ = 64 * 0 + tz y.toNat
    omega
  | y :: l, i + 1, hu, hi, hz, hx => by
    have hy : y = 0 := hz 0 (by omega)
    have hu' : Az l := fun z hzm => hu z (List.mem_cons_of_mem _ hzm)
    have hl := Bk hu'
    have hi' : i < l.length := by simpa using hi
    have hxi : l.getD i 0 ≠ 0 := hx
    have ih := Mc (l := l) (i := i) hu' hi' (fun j hj => hz (j + 1) (by omega)) hxi
    have hp : 0 < (vl l).toNat := by
      rcases Nat.eq_zero_or_pos (vl l).toNat with h0 | h0
      · have h1 := Ys hu' i
        rw [h0] at h1
        simp at h1
        exact absurd h1 hxi
      · exact h0
    have e : (vl (y :: l)).toNat = 2 ^ 64 * (vl l).toNat := by
      simp only [vl]
      have hB : Bs = 18446744073709551616 := rfl
      rw [hB, hy]
      omega
    rw [e, U8 hp, ih]
    show _ = 64 * (i + 1) + tz (l.getD i 0).toNat
    omega
theorem Og {l : List Int} (hu : Az l) (hz : ∀ j < l.length, l.getD j 0 = 0) : vl l = 0 := by
  induction l with
  | nil => rfl
  | cons y l ih =>
    have hy : y = 0 := hz 0 (by simp)
    have h := ih (fun z hzm => hu z (List.mem_cons_of_mem _ hzm)) fun j hj => hz (j + 1) (by simpa using hj)
    simp only [vl]
    rw [hy, h]
    rfl
theorem S0 {a : List Int} {s : Nat} (hs : s ≤ 64) (hu : Az a) : vl (dnN a s a.length) = vl a / 2 ^ s := by
  have h1 := Lz (a := a) hs a.length
  rw [vk_all (Nat.le_refl _), C5 (Nat.le_refl _), Int.zero_emod, Int.mul_zero] at h1
  have hp := Em s
  have h2 : 0 ≤ a.getD 0 0 % 2 ^ s := Int.emod_nonneg _ (Int.ne_of_gt hp)
  have h3 : a.getD 0 0 % 2 ^ s < 2 ^ s := Int.emod_lt_of_pos _ hp
  have e : vl a = a.getD 0 0 % 2 ^ s + 2 ^ s * vl (dnN a s a.length) := by omega
  rw [e, Int.add_mul_ediv_left _ _ (Int.ne_of_gt hp), Int.ediv_eq_zero_of_lt h2 h3, Int.zero_add]
theorem Sz {l : List Int} {k : Nat} (hu : Az l) (hk : k ≤ l.length) : vl (l.drop k) = vl l / pB k := by
  have ht : Az (l.take k) := fun z hz => hu z (List.mem_of_mem_take hz)
  have e : vl l = vl (l.take k) + pB k * vl (l.drop k) := by
    have h := Dm (l.take k) (l.drop k)
    rw [List.take_append_drop, List.length_take, Nat.min_eq_left hk] at h
    exact h
  have h2 := Bk ht
  have h3 := E4 ht
  rw [List.length_take, Nat.min_eq_left hk] at h3
  have hp := Dg k
  rw [e, Int.add_mul_ediv_left _ _ (Int.ne_of_gt hp), Int.ediv_eq_zero_of_lt h2 h3, Int.zero_add]
theorem I3 {l : List Int} {k : Nat} (hu : Az l) : Az (l.drop k) := fun z hz => hu z (List.mem_of_mem_drop hz)
theorem O1 {x n : Nat} (h : n / 64 ≤ (lm (x : Int)).length) : vl (dnN ((lm (x : Int)).drop (n / 64)) (n % 64) ((lm (x : Int)).drop (n / 64)).length) = ((x / 2 ^ n : Nat) : Int) := by
  rw [S0 (by omega) (I3 (Gz _)), Sz (Gz _) h, Jg (Int.natCast_nonneg _), Pb, ← Pc]
  rw [Int.ediv_ediv_of_nonneg (Int.natCast_nonneg _), ← Int.natCast_mul, ← Nat.pow_add, Nat.div_add_mod]
  rfl

def dgl (z j : Nat) : Int := ((z / 2 ^ (64 * j) % 2 ^ 64 : Nat) : Int)
def dll (z m : Nat) : List Int := (List.range m).map (dgl z)
theorem Abn (x : Nat) : x < 2 ^ (64 * (lm (x : Int)).length) := by
  have h := E4 (Gz (x : Int))
  rw [Jg (Int.natCast_nonneg _), Pb] at h
  exact Int.ofNat_lt.1 h
def tw (v : Int) : Nat := if v < 0 then (-v - 1).toNat else v.toNat
def Aee (v w : Int) : Int :=
  if v < 0 then (if w < 0 then -((tw v ||| tw w : Nat) : Int) - 1 else ((tw w ^^^ (tw w &&& tw v) : Nat) : Int))
  else (if w < 0 then ((tw v ^^^ (tw v &&& tw w) : Nat) : Int) else ((tw v &&& tw w : Nat) : Int))
def orI (v w : Int) : Int :=
  if v < 0 then (if w < 0 then -((tw v &&& tw w : Nat) : Int) - 1 else -((tw v ^^^ (tw v &&& tw w) : Nat) : Int) - 1)
  else (if w < 0 then -((tw w ^^^ (tw w &&& tw v) : Nat) : Int) - 1 else ((tw v ||| tw w : Nat) : Int))
def xoI (v w : Int) : Int := if (decide (v < 0) != decide (w < 0)) = true then -((tw v ^^^ tw w : Nat) : Int) - 1 else ((tw v ^^^ tw w : Nat) : Int)
theorem Ye {x n : Nat} (h : 0 < x) : n ≤ tz x ↔ 2 ^ n ∣ x := by
  obtain ⟨j, hj⟩ := Hz h
  constructor
  · intro h1
    refine Nat.dvd_trans (Nat.pow_dvd_pow 2 h1) ⟨2 * j + 1, hj⟩
  · intro h1
    rcases Nat.lt_or_ge (tz x) n with h2 | h2
    · exfalso
      have h3 : 2 ^ (tz x + 1) ∣ x := Nat.dvd_trans (Nat.pow_dvd_pow 2 h2) h1
      obtain ⟨m, hm⟩ := h3
      have hp : 0 < 2 ^ tz x := Nat.pow_pos (by decide)
      have e : 2 ^ tz x * (2 * m) = 2 ^ tz x * (2 * j + 1) := by rw [← Nat.mul_assoc, ← Nat.pow_succ, ← hm, ← hj]
      have := Nat.eq_of_mul_eq_mul_left hp e
      omega
    · exact h2
theorem Oo {v : Int} {n : Nat} (h : 0 ≤ v) : v / ((2 ^ n : Nat) : Int) = ((v.natAbs / 2 ^ n : Nat) : Int) := by
  obtain ⟨m, rfl⟩ := Int.eq_ofNat_of_zero_le h
  rw [Int.natAbs_natCast]
  rfl
theorem H3 {v : Int} {p : Nat} (h : v < 0) (hp : 0 < p) : v / (p : Int) = if v.natAbs % p = 0 then -((v.natAbs / p : Nat) : Int) else -((v.natAbs / p + 1 : Nat) : Int) := by
  obtain ⟨m, hm⟩ : ∃ m : Nat, v = -(m : Int) := ⟨v.natAbs, by omega⟩
  subst hm
  rw [Int.natAbs_neg, Int.natAbs_natCast]
  have h1 := Nat.div_add_mod m p
  have h2 := Nat.mod_lt m hp
  split
  · rename_i h3
    have e : -(m : Int) = 0 + (p : Int) * -((m / p : Nat) : Int) := by rw [Int.mul_neg, ← Int.natCast_mul]; omega
    rw [e, Int.add_mul_ediv_left _ _ (by omega), Int.zero_ediv]
    omega
  · rename_i h3
    have e : -(m : Int) = ((p - m % p : Nat) : Int) + (p : Int) * -((m / p + 1 : Nat) : Int) := by
      rw [Int.mul_neg, ← Int.natCast_mul, Nat.mul_add, Nat.mul_one]; omega
    rw [e, Int.add_mul_ediv_left _ _ (by omega), Int.ediv_eq_zero_of_lt (by omega) (by omega)]
    omega
theorem Rx {v : Int} {n : Nat} (h : v < 0) (h1 : tz v.natAbs < n) : v / ((2 ^ n : Nat) : Int) = -((v.natAbs / 2 ^ n + 1 : Nat) : Int) := by
  rw [H3 h (Nat.pow_pos (by decide)), if_neg fun h2 => ?_]
  have h3 := (Ye (n := n) (x := v.natAbs) (by omega)).2 (Nat.dvd_of_mod_eq_zero h2)
  omega
theorem Ry {v : Int} {n : Nat} (h : v < 0) (h1 : ¬ tz v.natAbs < n) : v / ((2 ^ n : Nat) : Int) = -((v.natAbs / 2 ^ n : Nat) : Int) := by
  rw [H3 h (Nat.pow_pos (by decide)), if_pos (Nat.mod_eq_zero_of_dvd ((Ye (n := n) (by omega)).1 (by omega)))]
theorem Vm {v : Int} {n : Nat} : (v / ((2 ^ n : Nat) : Int)).natAbs ≤ v.natAbs := by
  rcases (show v < 0 ∨ 0 ≤ v by omega) with h | h
  · have hp : 0 < 2 ^ n := Nat.pow_pos (by decide)
    have hd := Nat.div_le_self v.natAbs (2 ^ n)
    have key : v.natAbs % 2 ^ n ≠ 0 → v.natAbs / 2 ^ n < v.natAbs := fun h3 => by
      refine Nat.div_lt_self (by omega) ?_
      rcases Nat.lt_or_ge 1 (2 ^ n) with h8 | h8
      · exact h8
      · exact absurd (by rw [show 2 ^ n = 1 by omega, Nat.mod_one]) h3
    rw [H3 h hp]
    generalize v.natAbs / 2 ^ n = q at *
    split
    · omega
    · rename_i h3
      have := key h3
      omega
  · rw [Oo h, Int.natAbs_natCast]
    exact Nat.div_le_self _ _
def Aed (v : Int) (i : Nat) : Int := if v < 0 then 1 - ((tw v / 2 ^ i % 2 : Nat) : Int) else ((tw v / 2 ^ i % 2 : Nat) : Int)

def Rw (l : List Int) (x : Nat) : Prop := Az l ∧ vl l = (x : Int) ∧ l.length ≤ 1048576
theorem Rw.u {l : List Int} {x : Nat} (h : Rw l x) : Az l := h.1
theorem Rw.v {l : List Int} {x : Nat} (h : Rw l x) : vl l = (x : Int) := h.2.1
theorem Rw.l {l : List Int} {x : Nat} (h : Rw l x) : l.length ≤ 1048576 := h.2.2
theorem Rw.t {l : List Int} {x : Nat} (h : Rw l x) : trm l = lm (x : Int) := El h.1 h.2.1
theorem Rw.b {l : List Int} {x : Nat} (h : Rw l x) : Aq (x : Int) ≤ 67108864 := by
  have h1 := F2 (s := false) h.1
  rw [show sv false l = (x : Int) from h.2.1] at h1
  have := h.2.2
  omega
theorem Rw.n {l : List Int} {x : Nat} (h : Rw l x) : Fi l = Aq (x : Int) := Gi h.1 h.2.1
theorem Rw.of {x : Nat} (h : Aq (x : Int) ≤ 67108864) : Rw (lm (x : Int)) x := ⟨Gz _, by rw [T8, Int.natAbs_natCast], Cd h⟩
theorem Rw.nil : Rw [] 0 := ⟨fun x hx => (by cases hx), rfl, Nat.zero_le _⟩
theorem Mw {x y : Nat} (h : x ≤ y) : Aq (x : Int) ≤ Aq (y : Int) := D9 (by omega)
def rn0 (x y : Nat) : Nat := x / Nat.gcd x y
def rd0 (x y : Nat) : Nat := y / Nat.gcd x y
def sgq (s : Bool) (x : Nat) : Bool := s && decide (x ≠ 0)
theorem Gm {x y : Nat} (hy : y ≠ 0) : 0 < Nat.gcd x y := Nat.gcd_pos_of_pos_right _ (by omega)
theorem Yt {x y : Nat} : rn0 x y ≤ x := Nat.div_le_self _ _
theorem Yy {x y : Nat} : rd0 x y ≤ y := Nat.div_le_self _ _
theorem Ll {x y : Nat} (hy : y ≠ 0) : 0 < rd0 x y := Nat.div_pos (Nat.le_of_dvd (by omega) (Nat.gcd_dvd_right _ _)) (Gm hy)
theorem Jk {x y : Nat} : rn0 x y * Nat.gcd x y = x := Nat.div_mul_cancel (Nat.gcd_dvd_left _ _)
theorem Jo {x y : Nat} : rd0 x y * Nat.gcd x y = y := Nat.div_mul_cancel (Nat.gcd_dvd_right _ _)
theorem Oz {x y : Nat} (hy : y ≠ 0) : Nat.gcd (rn0 x y) (rd0 x y) = 1 := by
  have h := Nat.gcd_mul_right (rn0 x y) (Nat.gcd x y) (rd0 x y)
  rw [Jk, Jo] at h
  have h1 := Gm (x := x) hy
  have h2 : Nat.gcd (rn0 x y) (rd0 x y) * Nat.gcd x y = 1 * Nat.gcd x y := by omega
  exact Nat.eq_of_mul_eq_mul_right h1 h2

def rtV (r : Bool × List Int × List Int) : List V := [.b r.1, .n false .u64 r.2.1, .n false .u64 r.2.2]
def Ad4 (rs : List (Bool × List Int × List Int)) : List (List V) := rs.map rtV
def Ad7 (rs : List (Bool × List Int × List Int)) (i : Nat) : Bool × List Int × List Int := rs.getD i (false, [], [])
def lkO (tg : TypeId) (rs : List (Bool × List Int × List Int)) : Out := if rs.all (fun r => decide (vl r.2.2 ≠ 0)) then .ret (.t []) else .pan (Adn tg 70 false)
def ntx (x : Nat) : ByteArray := txt (hdg 10 1 x)
def Acb (s : Bool) (x : Nat) : ByteArray := if s then (⟨#[45]⟩ : ByteArray) ++ ntx x else ntx x
def rtx (s : Bool) (x y : Nat) : ByteArray := if y = 1 then Acb s x else Acb s x ++ ((⟨#[47]⟩ : ByteArray) ++ ntx y)

theorem Sk {a b c d : Nat} (h1 : Nat.gcd a b = 1) (h2 : Nat.gcd c d = 1) (hb : b ≠ 0) (hd : d ≠ 0) (h : a * d = c * b) : a = c ∧ b = d := by
  have e1 : b ∣ d := by
    have hc : Nat.Coprime b a := by rw [Nat.coprime_comm]; exact h1
    exact hc.dvd_of_dvd_mul_left (h ▸ Nat.dvd_mul_left b c)
  have e2 : d ∣ b := by
    have hc : Nat.Coprime d c := by rw [Nat.coprime_comm]; exact h2
    exact hc.dvd_of_dvd_mul_left (h ▸ Nat.dvd_mul_left d a)
  have e := Nat.dvd_antisymm e1 e2
  subst e
  exact ⟨Nat.eq_of_mul_eq_mul_right (Nat.pos_of_ne_zero hb) h, rfl⟩
def nn (z : Int) (Y : Nat) : Nat := rn0 z.natAbs Y
def dd (z : Int) (Y : Nat) : Nat := rd0 z.natAbs Y
theorem Zo {a b : Nat} {z : Int} {Y : Nat} (h1 : Nat.gcd a b = 1) (hb : b ≠ 0) (hY : Y ≠ 0) (h : a * Y = z.natAbs * b) : a = nn z Y ∧ b = dd z Y := by
  refine Sk h1 (Oz hY) hb (Nat.pos_iff_ne_zero.1 (Ll hY)) ?_
  have e1 : nn z Y * Nat.gcd z.natAbs Y = z.natAbs := @Jk z.natAbs Y
  have e2 : dd z Y * Nat.gcd z.natAbs Y = Y := @Jo z.natAbs Y
  have hg := Gm (x := z.natAbs) hY
  refine Nat.eq_of_mul_eq_mul_right hg ?_
  show a * dd z Y * _ = nn z Y * b * _
  rw [Nat.mul_assoc, e2, h, Nat.mul_right_comm, e1]
theorem Ab7 {s : Bool} : zs s 0 = 0 := by cases s <;> rfl
theorem Xu {s : Bool} {x k : Nat} : zs s (x * k) = zs s x * (k : Int) := by
  unfold zs
  cases s <;> simp [Int.neg_mul]
theorem Xv (z : Int) : zs (decide (z < 0)) z.natAbs = z := by
  unfold zs
  by_cases h : z < 0
  · rw [if_pos (decide_eq_true h)]; omega
  · rw [if_neg (by rw [decide_eq_false h]; decide)]; omega
def Qe (s : Bool) (x y : Nat) (z : Int) (Y : Nat) : Prop := y ≠ 0 ∧ Y ≠ 0 ∧ zs s x * (Y : Int) = z * (y : Int)
theorem Qe.abs {s : Bool} {x y : Nat} {z : Int} {Y : Nat} (h : Qe s x y z Y) : x * Y = z.natAbs * y := by
  have := congrArg Int.natAbs h.2.2
  rwa [Int.natAbs_mul, Int.natAbs_mul, Int.natAbs_natCast, Int.natAbs_natCast, J5] at this
theorem Qe.low {s : Bool} {x y : Nat} {z : Int} {Y : Nat} (h : Qe s x y z Y) : rn0 x y = nn z Y ∧ rd0 x y = dd z Y := by
  refine Zo (Oz h.1) (Nat.pos_iff_ne_zero.1 (Ll h.1)) h.2.1 ?_
  have hg := Gm (x := x) h.1
  refine Nat.eq_of_mul_eq_mul_right hg ?_
  rw [Nat.mul_right_comm, Jk, Nat.mul_assoc, Jo, h.abs]
theorem Qe.can (z : Int) {Y : Nat} (hY : Y ≠ 0) : Qe (decide (z < 0)) (nn z Y) (dd z Y) z Y := by
  refine ⟨Nat.pos_iff_ne_zero.1 (Ll hY), hY, ?_⟩
  have e1 := @Jk z.natAbs Y
  have e2 := @Jo z.natAbs Y
  have hg := Gm (x := z.natAbs) hY
  have e3 : (nn z Y : Nat) * Nat.gcd z.natAbs Y = z.natAbs := e1
  have e4 : (dd z Y : Nat) * Nat.gcd z.natAbs Y = Y := e2
  have h1 : zs (decide (z < 0)) (nn z Y) * ((Nat.gcd z.natAbs Y : Nat) : Int) = z := by rw [← Xu, e3, Xv]
  have h2 : (Y : Int) = (dd z Y : Int) * ((Nat.gcd z.natAbs Y : Nat) : Int) := by exact_mod_cast e4.symm
  rw [h2]
  generalize (Nat.gcd z.natAbs Y : Nat) = G at *
  generalize zs (decide (z < 0)) (nn z Y) = A at *
  generalize (dd z Y : Int) = D at *
  rw [← h1]
  simp only [Int.mul_assoc, Int.mul_comm, Int.mul_left_comm]
theorem Qe.add {s t : Bool} {x y x2 y2 : Nat} {z w : Int} {Y X : Nat} (h1 : Qe s x y z Y) (h2 : Qe t x2 y2 w X) : (zs s x * (y2 : Int) + zs t x2 * (y : Int)) * ((Y * X : Nat) : Int) = (z * (X : Int) + w * (Y : Int)) * ((y * y2 : Nat) : Int) := by
  have e1 := h1.2.2
  have e2 := h2.2.2
  rw [Int.natCast_mul, Int.natCast_mul]
  generalize zs s x = A at *
  generalize zs t x2 = B at *
  have : (A * (y2 : Int) + B * (y : Int)) * ((Y : Int) * (X : Int)) = (A * (Y : Int)) * ((y2 : Int) * (X : Int)) + (B * (X : Int)) * ((y : Int) * (Y : Int)) := by
    rw [Int.add_mul]; congr 1 <;> simp only [Int.mul_assoc, Int.mul_comm, Int.mul_left_comm]
  rw [this, e1, e2, Int.add_mul]
  congr 1 <;> simp only [Int.mul_assoc, Int.mul_comm, Int.mul_left_comm]

theorem T9 (v : Int) : lm ((v.natAbs : Nat) : Int) = lm v := by unfold lm; rw [Int.natAbs_natCast]
theorem Pt {s : Bool} {n : Nat} : Aq (zs s n) = Aq (n : Int) := by unfold Aq; rw [J5, Int.natAbs_natCast]
theorem Jt (v : Int) : Aq ((v.natAbs : Nat) : Int) = Aq v := by unfold Aq; rw [Int.natAbs_natCast]
theorem sv_zs {s : Bool} {n : Nat} : sv s (lm (n : Int)) = zs s n := by unfold sv zs; rw [T8, Int.natAbs_natCast]
theorem Rw.sv {s : Bool} {l : List Int} {x : Nat} (h : Rw l x) : sv s l = zs s x := by unfold Vc.sv zs; rw [h.v]
theorem Aa1 {s : Bool} {x : Nat} : zs s x = 0 ↔ x = 0 := by unfold zs; split <;> omega
def cN (a b c d : Nat) : Int := Gq ((a * d : Nat) : Int) ((c * b : Nat) : Int)

theorem Acg {z : Int} {Y : Nat} : Aq ((nn z Y : Nat) : Int) ≤ Aq z := by rw [← Jt z]; exact Mw Yt
theorem Acm {z : Int} {Y : Nat} : Aq ((dd z Y : Nat) : Int) ≤ Aq (Y : Int) := Mw Yy
structure Qr (s : Bool) (l d : List Int) (x y : Nat) (z : Int) (Y b : Nat) : Prop where
  hx : Rw l x
  hy : Rw d y
  q : Qe s x y z Y
  bx : Aq (x : Int) ≤ b
  bd : Aq (y : Int) ≤ b
  bz : Aq z ≤ b
  bY : Aq (Y : Int) ≤ b
theorem Qr.can {z : Int} {Y b : Nat} (h0 : Y ≠ 0) (h1 : Aq z ≤ b) (h2 : Aq (Y : Int) ≤ b) (hb : b ≤ 67108864) : Qr (decide (z < 0)) (lm ((nn z Y : Nat) : Int)) (lm ((dd z Y : Nat) : Int)) (nn z Y) (dd z Y) z Y b :=
  ⟨Rw.of (Nat.le_trans Acg (Nat.le_trans h1 hb)), Rw.of (Nat.le_trans Acm (Nat.le_trans h2 hb)), Qe.can z h0, Nat.le_trans Acg h1, Nat.le_trans Acm h2, h1, h2⟩
variable {s t : Bool} {l d l2 d2 : List Int} {x y x2 y2 : Nat} {z w : Int} {Y X b c : Nat}
theorem Qr.add (h1 : Qr s l d x y z Y b) (h2 : Qr t l2 d2 x2 y2 w X c) (hb : b + c + 1 ≤ 67108864) {Z : Int} {W : Nat} (eZ : Z = z * (X : Int) + w * (Y : Int)) (eW : W = Y * X) :
    Qr (decide (Z < 0)) (lm ((nn Z W : Nat) : Int)) (lm ((dd Z W : Nat) : Int)) (nn Z W) (dd Z W) Z W (b + c + 1) := by
  subst eZ eW
  have b1 := h1.bz
  have b2 := h1.bY
  have b3 := h2.bz
  have b4 := h2.bY
  refine Qr.can (Nat.mul_ne_zero h1.q.2.1 h2.q.2.1) ?_ ?_ hb
  · have h8 := Hq z (X : Int)
    have h9 := Hq w (Y : Int)
    have h7 := Mx (z * (X : Int)) (w * (Y : Int))
    omega
  · rw [Int.natCast_mul]
    have h8 := Hq (Y : Int) (X : Int)
    omega
theorem Qr.low (h : Qr s l d x y z Y b) (hb : b ≤ 67108864) : Qr (decide (z < 0)) (lm ((nn z Y : Nat) : Int)) (lm ((dd z Y : Nat) : Int)) (nn z Y) (dd z Y) z Y b := Qr.can h.q.2.1 h.bz h.bY hb
def okR (r : Bool × List Int × List Int) : Prop := vl r.2.2 ≠ 0 ∧ Aq (vl r.2.2) ≤ 1048576 ∧ Aq (vl r.2.1) ≤ 1048576
instance (r : Bool × List Int × List Int) : Decidable (okR r) := by unfold okR; exact inferInstance
def Ab9 (rs : List (Bool × List Int × List Int)) : Bool := rs.all fun r => decide (okR r)
end Go.Proofs.YteopohdkceelkaaDoor.Vc
