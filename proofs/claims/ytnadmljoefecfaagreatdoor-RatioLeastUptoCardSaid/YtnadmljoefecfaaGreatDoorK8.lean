/- The law RatioLeast of every input of bulk at most 1048576: it returns true, and the input reads as it did. Texts joined: Xg, Xh, Xi, Xj, Xja, Ra, Xm, Rb, Jr, Re, Jo, Rh, Cb, Cf, Cfa. -/
import Derived.Test.YtnadmljoefecfaaGreatDoorK7
set_option linter.unusedVariables false
set_option linter.unusedSimpArgs false
set_option maxHeartbeats 4000000
namespace Go.Proofs.YtnadmljoefecfaaGreatDoor.Vc
open Go Go.RowKit
set_option maxRecDepth 100000 in
theorem Ab8 (s : Bool) (l d : List Int) (x y : Nat) (hx : Rw l x) (hy : Rw d y) (z : Int) (Y : Nat) (q1 : Qe s x y z Y) (s2 : Bool) (l2 d2 : List Int) (x2 y2 : Nat) (hx2 : Rw l2 x2) (hy2 : Rw d2 y2) (w : Int) (X : Nat) (q2 : Qe s2 x2 y2 w X) (hB : Al (x : Int) + Al (y : Int) + Al (x2 : Int) + Al (y2 : Int) + 1 ≤ 67108864) : Spec Tryz.prog 115 [(.a [.b s, .n false .u64 l, .n false .u64 d]), (.a [.b s2, .n false .u64 l2, .n false .u64 d2])] (fun o => o = .ret (.t [(.a [.b (decide ((z * (X : Int) + w * (Y : Int)) < 0)), .n false .u64 (lm ((nn (z * (X : Int) + w * (Y : Int)) (Y * X) : Nat) : Int)), .n false .u64 (lm ((dd (z * (X : Int) + w * (Y : Int)) (Y * X) : Nat) : Int))]), .i .i64 0])) := by
  refine D6 [(0, (.a [.b s, .n false .u64 l, .n false .u64 d])), (1, (.a [.b s2, .n false .u64 l2, .n false .u64 d2]))] rfl Tryz.func115 rfl (Zb rfl) fun Γ 𝓡 hN hds hL hR hE => ?_
  have hd := B2 99 hN
  have h0 := q1.1
  have h02 := q2.1
  have bN1 : Al ((rn0 x y : Nat) : Int) ≤ Al (x : Int) := Py (Nat.le_refl _)
  have bD1 : Al ((rd0 x y : Nat) : Int) ≤ Al (y : Int) := Kv (Nat.le_refl _)
  have bN2 : Al ((rn0 x2 y2 : Nat) : Int) ≤ Al (x2 : Int) := Py (Nat.le_refl _)
  have bD2 : Al ((rd0 x2 y2 : Nat) : Int) ≤ Al (y2 : Int) := Kv (Nat.le_refl _)
  obtain ⟨g9, eg⟩ : ∃ g9 : Nat, g9 = Nat.gcd (rd0 x y) (rd0 x2 y2) := ⟨_, rfl⟩
  have hG1 : Spec Tryz.prog 70 [.n false .u64 (lm (((rd0 x y) : Nat) : Int)), .n false .u64 (lm (((rd0 x2 y2) : Nat) : Int))] (fun o => o = .ret (.n false .u64 (lm (g9 : Int)))) := by
    rw [eg]
    have h := Xf (lm (((rd0 x y) : Nat) : Int)) (lm (((rd0 x2 y2) : Nat) : Int)) (rd0 x y) (rd0 x2 y2) (Rw.of (by omega)).l (Rw.of (by omega)).l (Cu _) (Cu _) (Rw.of (by omega)).v (Rw.of (by omega)).v
    exact h
  have hg0 : 0 < g9 := by rw [eg]; exact Dk q2.d0
  have bg : Al (g9 : Int) ≤ 67108864 := by rw [eg]; exact Ta q2.d0 (by omega)
  obtain ⟨p9, ep⟩ : ∃ p9 : Nat, p9 = (rd0 x y) / g9 := ⟨_, rfl⟩
  have hQ1 : Spec Tryz.prog 71 [.n false .u64 (lm (((rd0 x y) : Nat) : Int)), .n false .u64 (lm (g9 : Int))] (fun o => o = .ret (.t [.n false .u64 (lm (p9 : Int)), .i .i64 0])) := by
    rw [ep]
    have h := Lk (((rd0 x y) : Nat) : Int) (g9 : Int) (by omega) bg (by omega)
    rw [Kx] at h
    exact h
  obtain ⟨q9, eq9⟩ : ∃ q9 : Nat, q9 = (rd0 x2 y2) / g9 := ⟨_, rfl⟩
  have hQ2 : Spec Tryz.prog 71 [.n false .u64 (lm (((rd0 x2 y2) : Nat) : Int)), .n false .u64 (lm (g9 : Int))] (fun o => o = .ret (.t [.n false .u64 (lm (q9 : Int)), .i .i64 0])) := by
    rw [eq9]
    have h := Lk (((rd0 x2 y2) : Nat) : Int) (g9 : Int) (by omega) bg (by omega)
    rw [Kx] at h
    exact h
  have bp : Al (p9 : Int) ≤ Al (y : Int) := by rw [ep]; exact Nat.le_trans (Cn (Nat.div_le_self _ _)) bD1
  have bq : Al (q9 : Int) ≤ Al (y2 : Int) := by rw [eq9]; exact Nat.le_trans (Cn (Nat.div_le_self _ _)) bD2
  obtain ⟨L9, eL⟩ : ∃ L9 : Int, L9 = zs (sgq s x) (rn0 x y) * (q9 : Int) := ⟨_, rfl⟩
  have beL : Al L9 ≤ Al (x : Int) + Al (y2 : Int) := by rw [eL]; have h9 := Ej (zs (sgq s x) (rn0 x y)) (q9 : Int); rw [E8] at h9; omega
  have hM1 : Spec Tryz.prog 138 [.a [.b (sgq s x), .n false .u64 (lm (((rn0 x y) : Nat) : Int))], .a [.b false, .n false .u64 (lm (q9 : Int))]] (fun o => o = .ret (.t [.a [.b (decide (L9 < 0)), .n true .u64 (lm L9)], .i .i64 0])) := by
    have h := W6 (sgq s x) false (lm (((rn0 x y) : Nat) : Int)) (lm (q9 : Int)) (zs (sgq s x) (rn0 x y)) (q9 : Int) (by have := (Rw.of (x := (rn0 x y)) (by omega)).l; omega) (by have := (Rw.of (x := q9) (by omega)).l; omega) (Cu _) (Cu _) Lj (Gb (Int.natCast_nonneg _)) (by rw [← eL]; omega)
    rwa [← eL] at h
  obtain ⟨R9, eR⟩ : ∃ R9 : Int, R9 = zs (sgq s2 x2) (rn0 x2 y2) * (p9 : Int) := ⟨_, rfl⟩
  have beR : Al R9 ≤ Al (x2 : Int) + Al (y : Int) := by rw [eR]; have h9 := Ej (zs (sgq s2 x2) (rn0 x2 y2)) (p9 : Int); rw [E8] at h9; omega
  have hM2 : Spec Tryz.prog 138 [.a [.b (sgq s2 x2), .n false .u64 (lm (((rn0 x2 y2) : Nat) : Int))], .a [.b false, .n false .u64 (lm (p9 : Int))]] (fun o => o = .ret (.t [.a [.b (decide (R9 < 0)), .n true .u64 (lm R9)], .i .i64 0])) := by
    have h := W6 (sgq s2 x2) false (lm (((rn0 x2 y2) : Nat) : Int)) (lm (p9 : Int)) (zs (sgq s2 x2) (rn0 x2 y2)) (p9 : Int) (by have := (Rw.of (x := (rn0 x2 y2)) (by omega)).l; omega) (by have := (Rw.of (x := p9) (by omega)).l; omega) (Cu _) (Cu _) Lj (Gb (Int.natCast_nonneg _)) (by rw [← eR]; omega)
    rwa [← eR] at h
  obtain ⟨S9, eS⟩ : ∃ S9 : Int, S9 = L9 + R9 := ⟨_, rfl⟩
  have bS : Al S9 ≤ 67108864 := by rw [eS]; have h9 := Iq L9 R9; omega
  have hA1 : Spec Tryz.prog 139 [.a [.b (decide (L9 < 0)), .n false .u64 (lm L9)], .a [.b (decide (R9 < 0)), .n false .u64 (lm R9)]] (fun o => o = .ret (.t [.a [.b (decide (S9 < 0)), .n true .u64 (lm S9)], .i .i64 0])) := by
    have h := Afa (decide (L9 < 0)) (decide (R9 < 0)) (lm L9) (lm R9) L9 R9 (by have := Bv (v := L9) (by omega); omega) (by have := Bv (v := R9) (by omega); omega) (Cu _) (Cu _) (Agf L9) (Agf R9) (by rw [← eS]; exact bS)
    rwa [← eS] at h
  have bSa : Al ((S9.natAbs : Nat) : Int) ≤ 67108864 := by rw [Et]; exact bS
  have hlS := Bv bS
  obtain ⟨k9, ek⟩ : ∃ k9 : Nat, k9 = Nat.gcd S9.natAbs g9 := ⟨_, rfl⟩
  have hG2 : Spec Tryz.prog 70 [.n false .u64 (lm S9), .n false .u64 (lm ((g9 : Nat) : Int))] (fun o => o = .ret (.n false .u64 (lm (k9 : Int)))) := by
    rw [ek]
    have h := Xf (lm ((S9.natAbs : Nat) : Int)) (lm ((g9 : Nat) : Int)) S9.natAbs g9 (Rw.of bSa).l (Rw.of bg).l (Cu _) (Cu _) (Rw.of bSa).v (Rw.of bg).v
    rwa [L3] at h
  have hk0 : 0 < k9 := by rw [ek]; exact Nat.gcd_pos_of_pos_right _ hg0
  have bk : Al (k9 : Int) ≤ 67108864 := by rw [ek]; exact Ta (by omega) bg
  obtain ⟨m9, em⟩ : ∃ m9 : Nat, m9 = S9.natAbs / k9 := ⟨_, rfl⟩
  have hQ3 : Spec Tryz.prog 71 [.n false .u64 (lm S9), .n false .u64 (lm (k9 : Int))] (fun o => o = .ret (.t [.n false .u64 (lm (m9 : Int)), .i .i64 0])) := by
    rw [em]
    have h := Lk ((S9.natAbs : Nat) : Int) (k9 : Int) bSa bk (by omega)
    rw [Kx, L3] at h
    exact h
  obtain ⟨r9, er⟩ : ∃ r9 : Nat, r9 = (rd0 x2 y2) / k9 := ⟨_, rfl⟩
  have hQ4 : Spec Tryz.prog 71 [.n false .u64 (lm (((rd0 x2 y2) : Nat) : Int)), .n false .u64 (lm (k9 : Int))] (fun o => o = .ret (.t [.n false .u64 (lm (r9 : Int)), .i .i64 0])) := by
    rw [er]
    have h := Lk (((rd0 x2 y2) : Nat) : Int) (k9 : Int) (by omega) bk (by omega)
    rw [Kx] at h
    exact h
  have br : Al (r9 : Int) ≤ Al (y2 : Int) := by rw [er]; exact Nat.le_trans (Cn (Nat.div_le_self _ _)) bD2
  obtain ⟨t9, et⟩ : ∃ t9 : Nat, t9 = p9 * r9 := ⟨_, rfl⟩
  have hM3 : Spec Tryz.prog 113 [.n false .u64 (lm (p9 : Int)), .n false .u64 (lm (r9 : Int))] (fun o => o = .ret (.t [.n true .u64 (lm (t9 : Int)), .i .i64 0])) := by
    have hb9 : Al ((t9 : Nat) : Int) ≤ 67108864 := by rw [et, Int.natCast_mul]; have h9 := Ej (p9 : Int) (r9 : Int); omega
    refine (Aaj (lm (p9 : Int)) (lm (r9 : Int)) (by have := (Rw.of (x := p9) (by omega)).l; omega) (by have := (Rw.of (x := r9) (by omega)).l; omega) (Cu _) (Cu _)).mono fun o ⟨r, e, ho, hr⟩ => ?_
    rw [Gb (Int.natCast_nonneg _), Gb (Int.natCast_nonneg _), ← Int.natCast_mul, ← et] at hr
    obtain ⟨rfl, rfl⟩ := Nf hr hb9
    exact ho
  have hz := Ae9 q1 q2 (S := S9) (by rw [eS, eL, eR, ep, eq9, eg])
  rw [← eg, ← ek, ← em, ← er, ← ep, ← et] at hz
  obtain ⟨hz1, hz2, hz3, hz4⟩ := hz
  have hW0 : Y * X ≠ 0 := Nat.mul_ne_zero q1.2.1 q2.2.1
  refine Dr <| Af <| A1 (Bn (id := 0) (n := 3) rfl rfl rfl (by decide) rfl) (hd 2 rfl) <| A1 (Bn (id := 1) (n := 3) rfl rfl rfl (by decide) rfl) (hd 3 rfl) <| A1 (Aq (id := 2) B4 (by decide) rfl (by decide) rfl) (hd 4 rfl) <| A1 (Aq (id := 3) Ep (by decide) rfl (by decide) rfl) (hd 5 rfl) <| Ab <| Dj (g := 137) (caps := [.p 2 0 0, .p 3 0 0]) 4 [_] (ops := [_, _]) rfl Tryz.func137 rfl rfl rfl hds hR hL hE <| Ac (F5 (Aa rfl (Aa rfl Ad))) (hd 15 rfl) <| Ab ?_
  refine ⟨rfl, rfl, rfl, ?_⟩
  intro Γ1 hN1 hL hR1
  replace hd : ∀ d, Nat.blt d 99 = true → d < Γ1.N := fun d h => by rw [hN1]; exact hd d h
  refine Ab <| Zs <| Ac (Au Ap rfl rfl rfl rfl) (hd 16 rfl) <| Ac (Au Ap rfl rfl rfl rfl) (hd 17 rfl) <| A1 (Do (id := 4) (xs := [.tmp 16, .tmp 17]) E0 rfl (Aa rfl (Aa rfl Ad)) rfl (Cz rfl) (by decide) rfl) (hd 18 rfl) <| Dy 18 (sz := 3) [[V.b s, V.n false .u64 l, V.n false .u64 d], [V.b s2, V.n false .u64 l2, V.n false .u64 d2]] rfl rfl rfl rfl (by simp) (by simp [Ef]) (by decide) hL ?_
  refine Ag Tryz.f25 (Es s l d y s2 l2 d2 y2 hy h0 hy2 h02) rfl Tryz.func25 rfl rfl (Aa rfl Ad) (.cons .l .nil) (hd 19 rfl) ?_ (fun _ h => by simp at h)
  rintro _ ⟨⟩; refine Ab <| Ae <| C7 <| Bo (n := 6) _ rfl B9 <| Z2 0 [1, 3, 4, 5] (Am (Au Ap rfl rfl rfl rfl) (hd 20 rfl)) rfl <| Z2 2 [3, 4, 5] (Am (Au Ap rfl rfl rfl rfl) (hd 22 rfl)) rfl ?_
  refine Be 1 ?_ rfl (by kernel_rfl)
  refine Ax Tryz.f54 (Em s l d x y hx hy h0) rfl Tryz.func54 rfl rfl (Aa rfl Ad) (.cons (.a1 .b (.a1 .n (.a1 .n .a0))) .nil) (hd 21 rfl) ?_ (fun _ h => by simp at h)
  rintro y hy; injection hy with hy; subst hy
  refine Be 3 ?_ rfl (by kernel_rfl)
  refine Ax Tryz.f54 (Em s2 l2 d2 x2 y2 hx2 hy2 h02) rfl Tryz.func54 rfl rfl (Aa rfl Ad) (.cons (.a1 .b (.a1 .n (.a1 .n .a0))) .nil) (hd 23 rfl) ?_ (fun _ h => by simp at h)
  rintro y hy; injection hy with hy; subst hy
  refine Be 4 ?_ rfl (by kernel_rfl)
  refine Cl (Ah rfl rfl rfl Bq rfl rfl (Zb rfl)) rfl ?_
  refine Be 5 ?_ rfl (by kernel_rfl)
  refine Cl (Ah rfl rfl rfl Bq rfl rfl (Zb rfl)) rfl <| Bx (by kernel_rfl) <| Ae <| Nv (H' := [⟨27, 3, 0, true, [.b (sgq s x), .n false .u64 (lm ((rn0 x y : Nat) : Int)), .n false .u64 (lm ((rd0 x y : Nat) : Int))]⟩, ⟨27, 3, 0, true, [.b (sgq s2 x2), .n false .u64 (lm ((rn0 x2 y2 : Nat) : Int)), .n false .u64 (lm ((rd0 x2 y2 : Nat) : Int))]⟩, ⟨27, 3, 0, true, [.b false, .c (.slice none 0 0), .c (.slice none 0 0)]⟩, ⟨28, 1, 0, true, [.i .i64 0]⟩, ⟨27, 3, 0, false, []⟩]) rfl <| Af <| Ac (A5 Cs rfl rfl rfl) (hd 24 rfl) <| Ac (A9 B5 rfl rfl rfl) (hd 25 rfl) <| Ac (A5 Cs rfl rfl rfl) (hd 26 rfl) <| Ac (A9 B5 rfl rfl rfl) (hd 27 rfl) ?_
  refine Ag Tryz.f70 (hG1) rfl Tryz.func70 rfl rfl (Aa rfl (Aa rfl Ad)) (.cons .n (.cons .n .nil)) (hd 28 rfl) ?_ (fun _ h => by simp at h)
  rintro _ ⟨⟩; refine Za rfl (hd 6 rfl) <| Ab <| Ae <| C7 <| Bo (n := 16) _ rfl B9 <| Z2 0 [1, 3, 4, 5, 6, 10, 11, 12, 13, 14, 15] (Am (A5 Cs rfl rfl rfl) (hd 29 rfl)) rfl <| Z2 1 [3, 4, 5, 6, 10, 11, 12, 13, 14, 15] (Am (A9 B5 rfl rfl rfl) (hd 30 rfl)) rfl <| Z2 2 [3, 4, 5, 6, 10, 11, 12, 13, 14, 15] (Am (Ay rfl) (hd 31 rfl)) rfl <| Z2 7 [8, 10, 11, 12, 13, 14, 15] (Am (A5 Cs rfl rfl rfl) (hd 36 rfl)) rfl <| Z2 8 [10, 11, 12, 13, 14, 15] (Am (A9 B5 rfl rfl rfl) (hd 37 rfl)) rfl <| Z2 9 [10, 11, 12, 13, 14, 15] (Am (Ay rfl) (hd 38 rfl)) rfl ?_
  refine Be 3 ?_ rfl (by kernel_rfl)
  refine Ax Tryz.f71 (hQ1) rfl Tryz.func71 rfl rfl (Aa rfl (Aa rfl Ad)) (.cons .n (.cons .n .nil)) (hd 32 rfl) ?_ (fun _ h => by simp at h)
  rintro _ ⟨⟩; refine Z2 4 [6, 10, 11, 12, 13, 14, 15] (Am (Ai rfl rfl) (hd 33 rfl)) rfl <| Z2 5 [6, 10, 11, 12, 13, 14, 15] (Am (Ai rfl rfl) (hd 34 rfl)) rfl ?_
  refine Be 6 ?_ rfl (by kernel_rfl)
  refine Ax Tryz.f32 (Gr _) rfl Tryz.func32 rfl rfl (Aa rfl (Aa rfl Ad)) (.cons .n (.cons .i .nil)) (hd 35 rfl) ?_ (fun _ h => by simp at h)
  rintro y hy; injection hy with hy; subst hy
  refine Be 10 ?_ rfl (by kernel_rfl)
  refine Ax Tryz.f71 (hQ2) rfl Tryz.func71 rfl rfl (Aa rfl (Aa rfl Ad)) (.cons .n (.cons .n .nil)) (hd 39 rfl) ?_ (fun _ h => by simp at h)
  rintro _ ⟨⟩; refine Z2 11 [13, 14, 15] (Am (Ai rfl rfl) (hd 40 rfl)) rfl <| Z2 12 [13, 14, 15] (Am (Ai rfl rfl) (hd 41 rfl)) rfl ?_
  refine Be 13 ?_ rfl (by kernel_rfl)
  refine Ax Tryz.f32 (Gr _) rfl Tryz.func32 rfl rfl (Aa rfl (Aa rfl Ad)) (.cons .n (.cons .i .nil)) (hd 42 rfl) ?_ (fun _ h => by simp at h)
  rintro _ ⟨⟩; refine Z1 14 (Am (Cm rfl) (hd 7 rfl)) rfl <| Z1 15 (Am (Cm rfl) (hd 8 rfl)) rfl <| Bx (by kernel_rfl) <| Zs <| Ac (A5 Cg rfl rfl rfl) (hd 43 rfl) <| Ac (Au Bw rfl rfl rfl rfl) (hd 44 rfl) <| Zm rfl (hd 45 rfl) <| Ac (Bp (is := [1]) (xs := [.tmp 45]) Az G8 rfl (Aa rfl Ad) rfl (by first | (simp [Ci, cellsV]; done) | (simp [Ci, cellsV, old]; done)) (Cd rfl) rfl) (hd 46 rfl) ?_
  refine Ag Tryz.f138 (hM1) rfl Tryz.func138 rfl rfl (Aa rfl (Aa rfl Ad)) (.cons (.a1 .b (.a1 .n .a0)) (.cons (.a1 .b (.a1 .n .a0)) .nil)) (hd 47 rfl) ?_ (fun _ h => by simp at h)
  rintro _ ⟨⟩; refine Ac (Ai rfl rfl) (hd 48 rfl) <| Ac (Ai rfl rfl) (hd 49 rfl) ?_
  refine Ag Tryz.f94 (K1 _ _) rfl Tryz.func94 rfl rfl (Aa rfl (Aa rfl Ad)) (.cons (.a1 .b (.a1 .n .a0)) (.cons .i .nil)) (hd 50 rfl) ?_ (fun _ h => by simp at h)
  rintro _ ⟨⟩; refine A1 (Aq (id := 5) Az (by decide) rfl (by decide) rfl) (hd 9 rfl) <| A3 (Ah rfl rfl rfl B6 rfl rfl (Zb rfl)) <| Ab <| Ae <| Nv (H' := [⟨27, 3, 0, true, [.b (sgq s x), .n false .u64 (lm ((rn0 x y : Nat) : Int)), .n false .u64 (lm ((rd0 x y : Nat) : Int))]⟩, ⟨27, 3, 0, true, [.b (sgq s2 x2), .n false .u64 (lm ((rn0 x2 y2 : Nat) : Int)), .n false .u64 (lm ((rd0 x2 y2 : Nat) : Int))]⟩, ⟨27, 3, 0, true, [.b false, .c (.slice none 0 0), .c (.slice none 0 0)]⟩, ⟨28, 1, 0, true, [.i .i64 0]⟩, ⟨27, 3, 0, false, []⟩, ⟨25, 2, 0, true, [.b (decide (L9 < 0)), .n false .u64 (lm L9)]⟩]) rfl <| Af <| Ac (A5 Cg rfl rfl rfl) (hd 51 rfl) <| Ac (Au Bw rfl rfl rfl rfl) (hd 52 rfl) <| Zm rfl (hd 53 rfl) <| Ac (Bp (is := [1]) (xs := [.tmp 53]) Az G8 rfl (Aa rfl Ad) rfl (by first | (simp [Ci, cellsV]; done) | (simp [Ci, cellsV, old]; done)) (Cd rfl) rfl) (hd 54 rfl) ?_
  refine Ag Tryz.f138 (hM2) rfl Tryz.func138 rfl rfl (Aa rfl (Aa rfl Ad)) (.cons (.a1 .b (.a1 .n .a0)) (.cons (.a1 .b (.a1 .n .a0)) .nil)) (hd 55 rfl) ?_ (fun _ h => by simp at h)
  rintro _ ⟨⟩; refine Ac (Ai rfl rfl) (hd 56 rfl) <| Ac (Ai rfl rfl) (hd 57 rfl) ?_
  refine Ag Tryz.f94 (K1 _ _) rfl Tryz.func94 rfl rfl (Aa rfl (Aa rfl Ad)) (.cons (.a1 .b (.a1 .n .a0)) (.cons .i .nil)) (hd 58 rfl) ?_ (fun _ h => by simp at h)
  rintro _ ⟨⟩; refine A1 (Aq (id := 6) Az (by decide) rfl (by decide) rfl) (hd 10 rfl) <| A3 (Ah rfl rfl rfl B6 rfl rfl (Zb rfl)) <| Ab <| Zs <| Ac (Au Bw rfl rfl rfl rfl) (hd 59 rfl) <| Ac (Au Bw rfl rfl rfl rfl) (hd 60 rfl) ?_
  refine Ag Tryz.f139 (hA1) rfl Tryz.func139 rfl rfl (Aa rfl (Aa rfl Ad)) (.cons (.a1 .b (.a1 .n .a0)) (.cons (.a1 .b (.a1 .n .a0)) .nil)) (hd 61 rfl) ?_ (fun _ h => by simp at h)
  rintro _ ⟨⟩; refine Ac (Ai rfl rfl) (hd 62 rfl) <| Ac (Ai rfl rfl) (hd 63 rfl) ?_
  refine Ag Tryz.f94 (K1 _ _) rfl Tryz.func94 rfl rfl (Aa rfl (Aa rfl Ad)) (.cons (.a1 .b (.a1 .n .a0)) (.cons .i .nil)) (hd 64 rfl) ?_ (fun _ h => by simp at h)
  rintro _ ⟨⟩; refine A1 (Aq (id := 7) Az (by decide) rfl (by decide) rfl) (hd 11 rfl) <| A3 (Ah rfl rfl rfl B6 rfl rfl (Zb rfl)) <| Ab <| Ae <| Nv (H' := [⟨27, 3, 0, true, [.b (sgq s x), .n false .u64 (lm ((rn0 x y : Nat) : Int)), .n false .u64 (lm ((rd0 x y : Nat) : Int))]⟩, ⟨27, 3, 0, true, [.b (sgq s2 x2), .n false .u64 (lm ((rn0 x2 y2 : Nat) : Int)), .n false .u64 (lm ((rd0 x2 y2 : Nat) : Int))]⟩, ⟨27, 3, 0, true, [.b false, .c (.slice none 0 0), .c (.slice none 0 0)]⟩, ⟨28, 1, 0, true, [.i .i64 0]⟩, ⟨27, 3, 0, false, []⟩, ⟨25, 2, 0, true, [.b (decide (L9 < 0)), .n false .u64 (lm L9)]⟩, ⟨25, 2, 0, true, [.b (decide (R9 < 0)), .n false .u64 (lm R9)]⟩, ⟨25, 2, 0, true, [.b (decide (S9 < 0)), .n false .u64 (lm S9)]⟩]) rfl <| Af <| Ac (A5 By rfl rfl rfl) (hd 65 rfl) <| Ac (A9 B5 rfl rfl rfl) (hd 66 rfl) <| Zm rfl (hd 67 rfl) ?_
  refine Ag Tryz.f70 (hG2) rfl Tryz.func70 rfl rfl (Aa rfl (Aa rfl Ad)) (.cons .n (.cons .n .nil)) (hd 68 rfl) ?_ (fun _ h => by simp at h)
  rintro _ ⟨⟩; refine Za rfl (hd 12 rfl) <| Ab <| Ae <| Zs <| Ac (A5 By rfl rfl rfl) (hd 69 rfl) <| Ac (A9 B5 rfl rfl rfl) (hd 70 rfl) ?_
  refine Ag Tryz.f30 (Dd S9 (by omega)) rfl Tryz.func30 rfl rfl (Aa rfl Ad) (.cons .n .nil) (hd 71 rfl) ?_ (fun _ h => by simp at h)
  rintro _ ⟨⟩; refine Ac (Cq rfl rfl) (hd 72 rfl) <| Ab ?_
  refine Bh rfl (fun h1 => ?_) (fun h1 => ?_)
  · have hS0 : S9 = 0 := by have h9 : ((Al S9 : Nat) : Int) = 0 := h1; have h7 := K6 (x := S9.natAbs); rw [Et] at h7; have := h7.1 (by omega); omega
    refine Ae <| Af ?_
    refine Ag Tryz.f46 (Jp 0 (by unfold inI; omega)) rfl Tryz.func46 rfl rfl (Aa rfl Ad) (.cons .i .nil) (hd 73 rfl) ?_ (fun _ h => by simp at h)
    rintro _ ⟨⟩; refine A3 (Ah rfl rfl rfl Bq rfl rfl (Zb rfl)) <| A3 (Ah rfl rfl rfl E5 rfl rfl (Zb rfl)) <| Ab <| An <| Clo.fin Sk (m := 4) (i := 2) (j := 3) (Zb rfl) rfl rfl rfl rfl ?_
    refine ⟨_, _, (.cons (ResV.cell Ap rfl rfl rfl rfl) (.cons (ResV.cell1 Cr rfl rfl rfl) .nil)), (.t1 (.a1 .b (.a1 .nn (.a1 .nn .a0))) (.t1 .i .t0)), ?_⟩
    rw [hz4.1 hS0, Aj6, Akj hW0]
    rfl
  · refine Aj <| Ae <| Nv (H' := [⟨27, 3, 0, true, [.b (sgq s x), .n false .u64 (lm ((rn0 x y : Nat) : Int)), .n false .u64 (lm ((rd0 x y : Nat) : Int))]⟩, ⟨27, 3, 0, true, [.b (sgq s2 x2), .n false .u64 (lm ((rn0 x2 y2 : Nat) : Int)), .n false .u64 (lm ((rd0 x2 y2 : Nat) : Int))]⟩, ⟨27, 3, 0, true, [.b false, .c (.slice none 0 0), .c (.slice none 0 0)]⟩, ⟨28, 1, 0, true, [.i .i64 0]⟩, ⟨27, 3, 0, false, []⟩, ⟨25, 2, 0, true, [.b (decide (L9 < 0)), .n false .u64 (lm L9)]⟩, ⟨25, 2, 0, true, [.b (decide (R9 < 0)), .n false .u64 (lm R9)]⟩, ⟨25, 2, 0, true, [.b (decide (S9 < 0)), .n false .u64 (lm S9)]⟩]) rfl <| Af <| Ac (A5 By rfl rfl rfl) (hd 74 rfl) <| Ac (A9 B5 rfl rfl rfl) (hd 75 rfl) <| Zm rfl (hd 76 rfl) ?_
    refine Ag Tryz.f71 (hQ3) rfl Tryz.func71 rfl rfl (Aa rfl (Aa rfl Ad)) (.cons .n (.cons .n .nil)) (hd 77 rfl) ?_ (fun _ h => by simp at h)
    rintro _ ⟨⟩; refine Ac (Ai rfl rfl) (hd 78 rfl) <| Ac (Ai rfl rfl) (hd 79 rfl) ?_
    refine Ag Tryz.f32 (Gr _) rfl Tryz.func32 rfl rfl (Aa rfl (Aa rfl Ad)) (.cons .n (.cons .i .nil)) (hd 80 rfl) ?_ (fun _ h => by simp at h)
    rintro _ ⟨⟩; refine Za rfl (hd 13 rfl) <| Ab <| Zs <| Zm rfl (hd 81 rfl) <| Ac (A5 Cs rfl rfl rfl) (hd 82 rfl) <| Ac (A9 B5 rfl rfl rfl) (hd 83 rfl) <| Zm rfl (hd 84 rfl) ?_
    refine Ag Tryz.f71 (hQ4) rfl Tryz.func71 rfl rfl (Aa rfl (Aa rfl Ad)) (.cons .n (.cons .n .nil)) (hd 85 rfl) ?_ (fun _ h => by simp at h)
    rintro _ ⟨⟩; refine Ac (Ai rfl rfl) (hd 86 rfl) <| Ac (Ai rfl rfl) (hd 87 rfl) ?_
    refine Ag Tryz.f32 (Gr _) rfl Tryz.func32 rfl rfl (Aa rfl (Aa rfl Ad)) (.cons .n (.cons .i .nil)) (hd 88 rfl) ?_ (fun _ h => by simp at h)
    rintro y hy; injection hy with hy; subst hy
    refine Ag Tryz.f113 (hM3) rfl Tryz.func113 rfl rfl (Aa rfl (Aa rfl Ad)) (.cons .n (.cons .n .nil)) (hd 89 rfl) ?_ (fun _ h => by simp at h)
    rintro _ ⟨⟩; refine Ac (Ai rfl rfl) (hd 90 rfl) <| Ac (Ai rfl rfl) (hd 91 rfl) ?_
    refine Ag Tryz.f32 (Gr _) rfl Tryz.func32 rfl rfl (Aa rfl (Aa rfl Ad)) (.cons .n (.cons .i .nil)) (hd 92 rfl) ?_ (fun _ h => by simp at h)
    rintro _ ⟨⟩; refine Za rfl (hd 14 rfl) <| Ab <| Zs <| Ac (A5 Cx rfl rfl rfl) (hd 93 rfl) <| Ac (A9 Il rfl rfl rfl) (hd 94 rfl) <| Zm rfl (hd 95 rfl) <| Ac (Bp (is := [0, 1]) (xs := [.tmp 94, .tmp 95]) Az C0 rfl (Aa rfl (Aa rfl Ad)) rfl (by first | (simp [Ci, cellsV]; done) | (simp [Ci, cellsV, old]; done)) (Cd rfl) rfl) (hd 96 rfl) <| Zm rfl (hd 97 rfl) <| Ac (Bp (is := [0, 1]) (xs := [.tmp 96, .tmp 97]) B4 Dm rfl (Aa rfl (Aa rfl Ad)) rfl ⟨rfl, (by decide), rfl, (by decide), trivial⟩ (Cd rfl) rfl) (hd 98 rfl) <| A3 (Ah rfl rfl rfl Bq rfl rfl (Zb rfl)) <| A3 (Ah rfl rfl rfl E5 rfl rfl (Zb rfl)) <| Ab ?_; refine An <| Clo.fin Sk (m := 4) (i := 2) (j := 3) (Zb rfl) rfl rfl rfl rfl ?_
    refine ⟨_, _, (.cons (ResV.cell Ap rfl rfl rfl rfl) (.cons (ResV.cell1 Cr rfl rfl rfl) .nil)), (.t1 (.a1 .b (.a1 .nn (.a1 .nn .a0))) (.t1 .i .t0)), ?_⟩
    rw [← hz1, ← hz2, ← hz3]

theorem Afe (s : Bool) (l d : List Int) (x y : Nat) (hx : Rw l x) (hy : Rw d y) (z : Int) (Y : Nat) (q1 : Qe s x y z Y) (s2 : Bool) (l2 d2 : List Int) (x2 y2 : Nat) (hx2 : Rw l2 x2) (hy2 : Rw d2 y2) (w : Int) (X : Nat) (q2 : Qe s2 x2 y2 w X) (hB : Al (x : Int) + Al (y : Int) + Al (x2 : Int) + Al (y2 : Int) ≤ 67108864) (hx0 : x = 0) : Spec Tryz.prog 91 [(.a [.b s, .n false .u64 l, .n false .u64 d]), (.a [.b s2, .n false .u64 l2, .n false .u64 d2])] (fun o => o = .ret (.t [(.a [.b (decide ((z * w) < 0)), .n false .u64 (lm ((nn (z * w) (Y * X) : Nat) : Int)), .n false .u64 (lm ((dd (z * w) (Y * X) : Nat) : Int))]), .i .i64 0])) := by
  refine D6 [(0, (.a [.b s, .n false .u64 l, .n false .u64 d])), (1, (.a [.b s2, .n false .u64 l2, .n false .u64 d2]))] rfl Tryz.func91 rfl (Zb rfl) fun Γ 𝓡 hN hds hL hR hE => ?_
  have hd := B2 93 hN
  have h0 := q1.1
  have h02 := q2.1
  have hlx : (lm ((rn0 x y : Nat) : Int)).length = 0 ↔ x = 0 := lm_len0.trans G6
  have hlx2 : (lm ((rn0 x2 y2 : Nat) : Int)).length = 0 ↔ x2 = 0 := lm_len0.trans G6
  have hW0 : Y * X ≠ 0 := Nat.mul_ne_zero q1.2.1 q2.2.1
  have hz0 : z * w = 0 := by rw [q1.z0.1 hx0, Int.zero_mul]
  refine Dr <| Af <| A1 (Bn (id := 0) (n := 3) rfl rfl rfl (by decide) rfl) (hd 2 rfl) <| A1 (Bn (id := 1) (n := 3) rfl rfl rfl (by decide) rfl) (hd 3 rfl) <| A1 (Aq (id := 2) B4 (by decide) rfl (by decide) rfl) (hd 4 rfl) <| A1 (Aq (id := 3) Ep (by decide) rfl (by decide) rfl) (hd 5 rfl) <| Ab <| Dj (g := 112) (caps := [.p 2 0 0, .p 3 0 0]) 4 [_] (ops := [_, _]) rfl Tryz.func112 rfl rfl rfl hds hR hL hE <| Ac (F5 (Aa rfl (Aa rfl Ad))) (hd 10 rfl) <| Ab ?_
  refine ⟨rfl, rfl, rfl, ?_⟩
  intro Γ1 hN1 hL hR1
  replace hd : ∀ d, Nat.blt d 93 = true → d < Γ1.N := fun d h => by rw [hN1]; exact hd d h
  refine Ab <| Zs <| Ac (Au Ap rfl rfl rfl rfl) (hd 11 rfl) <| Ac (Au Ap rfl rfl rfl rfl) (hd 12 rfl) <| A1 (Do (id := 4) (xs := [.tmp 11, .tmp 12]) E0 rfl (Aa rfl (Aa rfl Ad)) rfl (Cz rfl) (by decide) rfl) (hd 13 rfl) <| Dy 13 (sz := 3) [[V.b s, V.n false .u64 l, V.n false .u64 d], [V.b s2, V.n false .u64 l2, V.n false .u64 d2]] rfl rfl rfl rfl (by simp) (by simp [Ef]) (by decide) hL ?_
  refine Ag Tryz.f25 (Es s l d y s2 l2 d2 y2 hy h0 hy2 h02) rfl Tryz.func25 rfl rfl (Aa rfl Ad) (.cons .l .nil) (hd 14 rfl) ?_ (fun _ h => by simp at h)
  rintro _ ⟨⟩; refine Ab <| Ae <| C7 <| Bo (n := 6) _ rfl B9 <| Z2 0 [1, 3, 4, 5] (Am (Au Ap rfl rfl rfl rfl) (hd 15 rfl)) rfl <| Z2 2 [3, 4, 5] (Am (Au Ap rfl rfl rfl rfl) (hd 17 rfl)) rfl ?_
  refine Be 1 ?_ rfl (by kernel_rfl)
  refine Ax Tryz.f54 (Em s l d x y hx hy h0) rfl Tryz.func54 rfl rfl (Aa rfl Ad) (.cons (.a1 .b (.a1 .n (.a1 .n .a0))) .nil) (hd 16 rfl) ?_ (fun _ h => by simp at h)
  rintro y hy; injection hy with hy; subst hy
  refine Be 3 ?_ rfl (by kernel_rfl)
  refine Ax Tryz.f54 (Em s2 l2 d2 x2 y2 hx2 hy2 h02) rfl Tryz.func54 rfl rfl (Aa rfl Ad) (.cons (.a1 .b (.a1 .n (.a1 .n .a0))) .nil) (hd 18 rfl) ?_ (fun _ h => by simp at h)
  rintro y hy; injection hy with hy; subst hy
  refine Be 4 ?_ rfl (by kernel_rfl)
  refine Cl (Ah rfl rfl rfl Bq rfl rfl (Zb rfl)) rfl ?_
  refine Be 5 ?_ rfl (by kernel_rfl)
  refine Cl (Ah rfl rfl rfl Bq rfl rfl (Zb rfl)) rfl <| Bx (by kernel_rfl) <| Ae <| Zs <| Ac (A5 Cg rfl rfl rfl) (hd 19 rfl) <| Ac (A5 By rfl rfl rfl) (hd 20 rfl) <| Ac (A9 B5 rfl rfl rfl) (hd 21 rfl) <| Ac (Ar A7 rfl) (hd 22 rfl) <| Ac (E6 (Cq rfl rfl) (by omega)) (hd 23 rfl) <| Zm rfl (hd 24 rfl) <| Bz 24 rfl rfl rfl (hd 25 rfl) <| Bz 24 rfl rfl rfl (hd 26 rfl) ?_; refine Bz 24 rfl rfl rfl (hd 27 rfl) <| Bz 24 rfl rfl rfl (hd 28 rfl) <| Bz 24 rfl rfl rfl (hd 29 rfl) <| Ac (Bt rfl rfl) (hd 30 rfl) <| Ab <| Cw rfl <| Ae <| Af ?_
  refine Ag Tryz.f46 (Jp 0 (by unfold inI; omega)) rfl Tryz.func46 rfl rfl (Aa rfl Ad) (.cons .i .nil) (hd 31 rfl) ?_ (fun _ h => by simp at h)
  rintro _ ⟨⟩; refine A3 (Ah rfl rfl rfl Bq rfl rfl (Zb rfl)) <| A3 (Ah rfl rfl rfl E5 rfl rfl (Zb rfl)) <| Ab <| An <| Clo.fin Nm (m := 4) (i := 2) (j := 3) (Zb rfl) rfl rfl rfl rfl ?_
  refine ⟨_, _, (.cons (ResV.cell Ap rfl rfl rfl rfl) (.cons (ResV.cell1 Cr rfl rfl rfl) .nil)), (.t1 (.a1 .b (.a1 .nn (.a1 .nn .a0))) (.t1 .i .t0)), ?_⟩
  rw [hz0, Aj6, Akj hW0]
  rfl

theorem Afd (s : Bool) (l d : List Int) (x y : Nat) (hx : Rw l x) (hy : Rw d y) (z : Int) (Y : Nat) (q1 : Qe s x y z Y) (s2 : Bool) (l2 d2 : List Int) (x2 y2 : Nat) (hx2 : Rw l2 x2) (hy2 : Rw d2 y2) (w : Int) (X : Nat) (q2 : Qe s2 x2 y2 w X) (hB : Al (x : Int) + Al (y : Int) + Al (x2 : Int) + Al (y2 : Int) ≤ 67108864) (hx0 : x ≠ 0) (hx20 : x2 = 0) : Spec Tryz.prog 91 [(.a [.b s, .n false .u64 l, .n false .u64 d]), (.a [.b s2, .n false .u64 l2, .n false .u64 d2])] (fun o => o = .ret (.t [(.a [.b (decide ((z * w) < 0)), .n false .u64 (lm ((nn (z * w) (Y * X) : Nat) : Int)), .n false .u64 (lm ((dd (z * w) (Y * X) : Nat) : Int))]), .i .i64 0])) := by
  refine D6 [(0, (.a [.b s, .n false .u64 l, .n false .u64 d])), (1, (.a [.b s2, .n false .u64 l2, .n false .u64 d2]))] rfl Tryz.func91 rfl (Zb rfl) fun Γ 𝓡 hN hds hL hR hE => ?_
  have hd := B2 93 hN
  have h0 := q1.1
  have h02 := q2.1
  have hlx : (lm ((rn0 x y : Nat) : Int)).length = 0 ↔ x = 0 := lm_len0.trans G6
  have hlx2 : (lm ((rn0 x2 y2 : Nat) : Int)).length = 0 ↔ x2 = 0 := lm_len0.trans G6
  have hW0 : Y * X ≠ 0 := Nat.mul_ne_zero q1.2.1 q2.2.1
  have hz0 : z * w = 0 := by rw [q2.z0.1 hx20, Int.mul_zero]
  refine Dr <| Af <| A1 (Bn (id := 0) (n := 3) rfl rfl rfl (by decide) rfl) (hd 2 rfl) <| A1 (Bn (id := 1) (n := 3) rfl rfl rfl (by decide) rfl) (hd 3 rfl) <| A1 (Aq (id := 2) B4 (by decide) rfl (by decide) rfl) (hd 4 rfl) <| A1 (Aq (id := 3) Ep (by decide) rfl (by decide) rfl) (hd 5 rfl) <| Ab <| Dj (g := 112) (caps := [.p 2 0 0, .p 3 0 0]) 4 [_] (ops := [_, _]) rfl Tryz.func112 rfl rfl rfl hds hR hL hE <| Ac (F5 (Aa rfl (Aa rfl Ad))) (hd 10 rfl) <| Ab ?_
  refine ⟨rfl, rfl, rfl, ?_⟩
  intro Γ1 hN1 hL hR1
  replace hd : ∀ d, Nat.blt d 93 = true → d < Γ1.N := fun d h => by rw [hN1]; exact hd d h
  refine Ab <| Zs <| Ac (Au Ap rfl rfl rfl rfl) (hd 11 rfl) <| Ac (Au Ap rfl rfl rfl rfl) (hd 12 rfl) <| A1 (Do (id := 4) (xs := [.tmp 11, .tmp 12]) E0 rfl (Aa rfl (Aa rfl Ad)) rfl (Cz rfl) (by decide) rfl) (hd 13 rfl) <| Dy 13 (sz := 3) [[V.b s, V.n false .u64 l, V.n false .u64 d], [V.b s2, V.n false .u64 l2, V.n false .u64 d2]] rfl rfl rfl rfl (by simp) (by simp [Ef]) (by decide) hL ?_
  refine Ag Tryz.f25 (Es s l d y s2 l2 d2 y2 hy h0 hy2 h02) rfl Tryz.func25 rfl rfl (Aa rfl Ad) (.cons .l .nil) (hd 14 rfl) ?_ (fun _ h => by simp at h)
  rintro _ ⟨⟩; refine Ab <| Ae <| C7 <| Bo (n := 6) _ rfl B9 <| Z2 0 [1, 3, 4, 5] (Am (Au Ap rfl rfl rfl rfl) (hd 15 rfl)) rfl <| Z2 2 [3, 4, 5] (Am (Au Ap rfl rfl rfl rfl) (hd 17 rfl)) rfl ?_
  refine Be 1 ?_ rfl (by kernel_rfl)
  refine Ax Tryz.f54 (Em s l d x y hx hy h0) rfl Tryz.func54 rfl rfl (Aa rfl Ad) (.cons (.a1 .b (.a1 .n (.a1 .n .a0))) .nil) (hd 16 rfl) ?_ (fun _ h => by simp at h)
  rintro y hy; injection hy with hy; subst hy
  refine Be 3 ?_ rfl (by kernel_rfl)
  refine Ax Tryz.f54 (Em s2 l2 d2 x2 y2 hx2 hy2 h02) rfl Tryz.func54 rfl rfl (Aa rfl Ad) (.cons (.a1 .b (.a1 .n (.a1 .n .a0))) .nil) (hd 18 rfl) ?_ (fun _ h => by simp at h)
  rintro y hy; injection hy with hy; subst hy
  refine Be 4 ?_ rfl (by kernel_rfl)
  refine Cl (Ah rfl rfl rfl Bq rfl rfl (Zb rfl)) rfl ?_
  refine Be 5 ?_ rfl (by kernel_rfl)
  refine Cl (Ah rfl rfl rfl Bq rfl rfl (Zb rfl)) rfl <| Bx (by kernel_rfl) <| Ae <| Zs <| Ac (A5 Cg rfl rfl rfl) (hd 19 rfl) <| Ac (A5 By rfl rfl rfl) (hd 20 rfl) <| Ac (A9 B5 rfl rfl rfl) (hd 21 rfl) <| Ac (Ar A7 rfl) (hd 22 rfl) <| Ac (B0 (Cq rfl rfl) (by omega)) (hd 23 rfl) <| Zm rfl (hd 24 rfl) <| Bi 24 rfl rfl (A5 Cg rfl rfl rfl) (hd 25 rfl) <| Bi 24 rfl rfl (A5 By rfl rfl rfl) (hd 26 rfl) ?_; refine Bi 24 rfl rfl (A9 B5 rfl rfl rfl) (hd 27 rfl) <| Bi 24 rfl rfl (Ar A7 rfl) (hd 28 rfl) <| Bi 24 rfl rfl (E6 (Cq rfl rfl) (by omega)) (hd 29 rfl) <| Ac (Bg rfl rfl) (hd 30 rfl) <| Ab <| Cw rfl <| Ae <| Af ?_
  refine Ag Tryz.f46 (Jp 0 (by unfold inI; omega)) rfl Tryz.func46 rfl rfl (Aa rfl Ad) (.cons .i .nil) (hd 31 rfl) ?_ (fun _ h => by simp at h)
  rintro _ ⟨⟩; refine A3 (Ah rfl rfl rfl Bq rfl rfl (Zb rfl)) <| A3 (Ah rfl rfl rfl E5 rfl rfl (Zb rfl)) <| Ab <| An <| Clo.fin Nm (m := 4) (i := 2) (j := 3) (Zb rfl) rfl rfl rfl rfl ?_
  refine ⟨_, _, (.cons (ResV.cell Ap rfl rfl rfl rfl) (.cons (ResV.cell1 Cr rfl rfl rfl) .nil)), (.t1 (.a1 .b (.a1 .nn (.a1 .nn .a0))) (.t1 .i .t0)), ?_⟩
  rw [hz0, Aj6, Akj hW0]
  rfl

set_option maxRecDepth 100000 in
theorem Ais (s : Bool) (l d : List Int) (x y : Nat) (hx : Rw l x) (hy : Rw d y) (z : Int) (Y : Nat) (q1 : Qe s x y z Y) (s2 : Bool) (l2 d2 : List Int) (x2 y2 : Nat) (hx2 : Rw l2 x2) (hy2 : Rw d2 y2) (w : Int) (X : Nat) (q2 : Qe s2 x2 y2 w X) (hB : Al (x : Int) + Al (y : Int) + Al (x2 : Int) + Al (y2 : Int) ≤ 67108864) (hx0 : x ≠ 0) (hx20 : x2 ≠ 0) : Spec Tryz.prog 91 [(.a [.b s, .n false .u64 l, .n false .u64 d]), (.a [.b s2, .n false .u64 l2, .n false .u64 d2])] (fun o => o = .ret (.t [(.a [.b (decide ((z * w) < 0)), .n false .u64 (lm ((nn (z * w) (Y * X) : Nat) : Int)), .n false .u64 (lm ((dd (z * w) (Y * X) : Nat) : Int))]), .i .i64 0])) := by
  refine D6 [(0, (.a [.b s, .n false .u64 l, .n false .u64 d])), (1, (.a [.b s2, .n false .u64 l2, .n false .u64 d2]))] rfl Tryz.func91 rfl (Zb rfl) fun Γ 𝓡 hN hds hL hR hE => ?_
  have hd := B2 93 hN
  have h0 := q1.1
  have h02 := q2.1
  have bN1 : Al ((rn0 x y : Nat) : Int) ≤ Al (x : Int) := Py (Nat.le_refl _)
  have bD1 : Al ((rd0 x y : Nat) : Int) ≤ Al (y : Int) := Kv (Nat.le_refl _)
  have bN2 : Al ((rn0 x2 y2 : Nat) : Int) ≤ Al (x2 : Int) := Py (Nat.le_refl _)
  have bD2 : Al ((rd0 x2 y2 : Nat) : Int) ≤ Al (y2 : Int) := Kv (Nat.le_refl _)
  have hlx : (lm ((rn0 x y : Nat) : Int)).length = 0 ↔ x = 0 := lm_len0.trans G6
  have hlx2 : (lm ((rn0 x2 y2 : Nat) : Int)).length = 0 ↔ x2 = 0 := lm_len0.trans G6
  have hW0 : Y * X ≠ 0 := Nat.mul_ne_zero q1.2.1 q2.2.1
  obtain ⟨g9, eg⟩ : ∃ g9 : Nat, g9 = Nat.gcd (rn0 x y) (rd0 x2 y2) := ⟨_, rfl⟩
  have hG1 : Spec Tryz.prog 70 [.n false .u64 (lm (((rn0 x y) : Nat) : Int)), .n false .u64 (lm (((rd0 x2 y2) : Nat) : Int))] (fun o => o = .ret (.n false .u64 (lm (g9 : Int)))) := by
    rw [eg]
    have h := Xf (lm (((rn0 x y) : Nat) : Int)) (lm (((rd0 x2 y2) : Nat) : Int)) (rn0 x y) (rd0 x2 y2) (Rw.of (by omega)).l (Rw.of (by omega)).l (Cu _) (Cu _) (Rw.of (by omega)).v (Rw.of (by omega)).v
    exact h
  have hg0 : 0 < g9 := by rw [eg]; exact Dk q2.d0
  have bg : Al (g9 : Int) ≤ 67108864 := by rw [eg]; exact Ta q2.d0 (by omega)
  obtain ⟨k9, ek⟩ : ∃ k9 : Nat, k9 = Nat.gcd (rn0 x2 y2) (rd0 x y) := ⟨_, rfl⟩
  have hG2 : Spec Tryz.prog 70 [.n false .u64 (lm (((rn0 x2 y2) : Nat) : Int)), .n false .u64 (lm (((rd0 x y) : Nat) : Int))] (fun o => o = .ret (.n false .u64 (lm (k9 : Int)))) := by
    rw [ek]
    have h := Xf (lm (((rn0 x2 y2) : Nat) : Int)) (lm (((rd0 x y) : Nat) : Int)) (rn0 x2 y2) (rd0 x y) (Rw.of (by omega)).l (Rw.of (by omega)).l (Cu _) (Cu _) (Rw.of (by omega)).v (Rw.of (by omega)).v
    exact h
  have hk0 : 0 < k9 := by rw [ek]; exact Dk q1.d0
  have bk : Al (k9 : Int) ≤ 67108864 := by rw [ek]; exact Ta q1.d0 (by omega)
  obtain ⟨a9, ea⟩ : ∃ a9 : Nat, a9 = (rn0 x y) / g9 := ⟨_, rfl⟩
  have hQ1 : Spec Tryz.prog 71 [.n false .u64 (lm (((rn0 x y) : Nat) : Int)), .n false .u64 (lm (g9 : Int))] (fun o => o = .ret (.t [.n false .u64 (lm (a9 : Int)), .i .i64 0])) := by
    rw [ea]
    have h := Lk (((rn0 x y) : Nat) : Int) (g9 : Int) (by omega) bg (by omega)
    rw [Kx] at h
    exact h
  have ba9 : Al (a9 : Int) ≤ Al (x : Int) := by rw [ea]; exact Nat.le_trans (Cn (Nat.div_le_self _ _)) bN1
  obtain ⟨c9, ec⟩ : ∃ c9 : Nat, c9 = (rn0 x2 y2) / k9 := ⟨_, rfl⟩
  have hQ2 : Spec Tryz.prog 71 [.n false .u64 (lm (((rn0 x2 y2) : Nat) : Int)), .n false .u64 (lm (k9 : Int))] (fun o => o = .ret (.t [.n false .u64 (lm (c9 : Int)), .i .i64 0])) := by
    rw [ec]
    have h := Lk (((rn0 x2 y2) : Nat) : Int) (k9 : Int) (by omega) bk (by omega)
    rw [Kx] at h
    exact h
  have bc9 : Al (c9 : Int) ≤ Al (x2 : Int) := by rw [ec]; exact Nat.le_trans (Cn (Nat.div_le_self _ _)) bN2
  obtain ⟨t9, et⟩ : ∃ t9 : Nat, t9 = a9 * c9 := ⟨_, rfl⟩
  have hM1 : Spec Tryz.prog 113 [.n false .u64 (lm (a9 : Int)), .n false .u64 (lm (c9 : Int))] (fun o => o = .ret (.t [.n true .u64 (lm (t9 : Int)), .i .i64 0])) := by
    have hb9 : Al ((t9 : Nat) : Int) ≤ 67108864 := by rw [et, Int.natCast_mul]; have h9 := Ej (a9 : Int) (c9 : Int); omega
    refine (Aaj (lm (a9 : Int)) (lm (c9 : Int)) (by have := (Rw.of (x := a9) (by omega)).l; omega) (by have := (Rw.of (x := c9) (by omega)).l; omega) (Cu _) (Cu _)).mono fun o ⟨r, e, ho, hr⟩ => ?_
    rw [Gb (Int.natCast_nonneg _), Gb (Int.natCast_nonneg _), ← Int.natCast_mul, ← et] at hr
    obtain ⟨rfl, rfl⟩ := Nf hr hb9
    exact ho
  obtain ⟨e9, ee⟩ : ∃ e9 : Nat, e9 = (rd0 x y) / k9 := ⟨_, rfl⟩
  have hQ3 : Spec Tryz.prog 71 [.n false .u64 (lm (((rd0 x y) : Nat) : Int)), .n false .u64 (lm (k9 : Int))] (fun o => o = .ret (.t [.n false .u64 (lm (e9 : Int)), .i .i64 0])) := by
    rw [ee]
    have h := Lk (((rd0 x y) : Nat) : Int) (k9 : Int) (by omega) bk (by omega)
    rw [Kx] at h
    exact h
  have be9 : Al (e9 : Int) ≤ Al (y : Int) := by rw [ee]; exact Nat.le_trans (Cn (Nat.div_le_self _ _)) bD1
  obtain ⟨f9, ef⟩ : ∃ f9 : Nat, f9 = (rd0 x2 y2) / g9 := ⟨_, rfl⟩
  have hQ4 : Spec Tryz.prog 71 [.n false .u64 (lm (((rd0 x2 y2) : Nat) : Int)), .n false .u64 (lm (g9 : Int))] (fun o => o = .ret (.t [.n false .u64 (lm (f9 : Int)), .i .i64 0])) := by
    rw [ef]
    have h := Lk (((rd0 x2 y2) : Nat) : Int) (g9 : Int) (by omega) bg (by omega)
    rw [Kx] at h
    exact h
  have bf9 : Al (f9 : Int) ≤ Al (y2 : Int) := by rw [ef]; exact Nat.le_trans (Cn (Nat.div_le_self _ _)) bD2
  obtain ⟨u9, eu⟩ : ∃ u9 : Nat, u9 = e9 * f9 := ⟨_, rfl⟩
  have hM2 : Spec Tryz.prog 113 [.n false .u64 (lm (e9 : Int)), .n false .u64 (lm (f9 : Int))] (fun o => o = .ret (.t [.n true .u64 (lm (u9 : Int)), .i .i64 0])) := by
    have hb9 : Al ((u9 : Nat) : Int) ≤ 67108864 := by rw [eu, Int.natCast_mul]; have h9 := Ej (e9 : Int) (f9 : Int); omega
    refine (Aaj (lm (e9 : Int)) (lm (f9 : Int)) (by have := (Rw.of (x := e9) (by omega)).l; omega) (by have := (Rw.of (x := f9) (by omega)).l; omega) (Cu _) (Cu _)).mono fun o ⟨r, e, ho, hr⟩ => ?_
    rw [Gb (Int.natCast_nonneg _), Gb (Int.natCast_nonneg _), ← Int.natCast_mul, ← eu] at hr
    obtain ⟨rfl, rfl⟩ := Nf hr hb9
    exact ho
  have hz := Ady q1 q2
  rw [← eg, ← ek, ← ea, ← ec, ← et, ← ee, ← ef, ← eu] at hz
  obtain ⟨hz1, hz2⟩ := hz
  have hz3 := Adw q1 q2 hx0 hx20
  refine Dr <| Af <| A1 (Bn (id := 0) (n := 3) rfl rfl rfl (by decide) rfl) (hd 2 rfl) <| A1 (Bn (id := 1) (n := 3) rfl rfl rfl (by decide) rfl) (hd 3 rfl) <| A1 (Aq (id := 2) B4 (by decide) rfl (by decide) rfl) (hd 4 rfl) <| A1 (Aq (id := 3) Ep (by decide) rfl (by decide) rfl) (hd 5 rfl) <| Ab <| Dj (g := 112) (caps := [.p 2 0 0, .p 3 0 0]) 4 [_] (ops := [_, _]) rfl Tryz.func112 rfl rfl rfl hds hR hL hE <| Ac (F5 (Aa rfl (Aa rfl Ad))) (hd 10 rfl) <| Ab ?_
  refine ⟨rfl, rfl, rfl, ?_⟩
  intro Γ1 hN1 hL hR1
  replace hd : ∀ d, Nat.blt d 93 = true → d < Γ1.N := fun d h => by rw [hN1]; exact hd d h
  refine Ab <| Zs <| Ac (Au Ap rfl rfl rfl rfl) (hd 11 rfl) <| Ac (Au Ap rfl rfl rfl rfl) (hd 12 rfl) <| A1 (Do (id := 4) (xs := [.tmp 11, .tmp 12]) E0 rfl (Aa rfl (Aa rfl Ad)) rfl (Cz rfl) (by decide) rfl) (hd 13 rfl) <| Dy 13 (sz := 3) [[V.b s, V.n false .u64 l, V.n false .u64 d], [V.b s2, V.n false .u64 l2, V.n false .u64 d2]] rfl rfl rfl rfl (by simp) (by simp [Ef]) (by decide) hL ?_
  refine Ag Tryz.f25 (Es s l d y s2 l2 d2 y2 hy h0 hy2 h02) rfl Tryz.func25 rfl rfl (Aa rfl Ad) (.cons .l .nil) (hd 14 rfl) ?_ (fun _ h => by simp at h)
  rintro _ ⟨⟩; refine Ab <| Ae <| C7 <| Bo (n := 6) _ rfl B9 <| Z2 0 [1, 3, 4, 5] (Am (Au Ap rfl rfl rfl rfl) (hd 15 rfl)) rfl <| Z2 2 [3, 4, 5] (Am (Au Ap rfl rfl rfl rfl) (hd 17 rfl)) rfl ?_
  refine Be 1 ?_ rfl (by kernel_rfl)
  refine Ax Tryz.f54 (Em s l d x y hx hy h0) rfl Tryz.func54 rfl rfl (Aa rfl Ad) (.cons (.a1 .b (.a1 .n (.a1 .n .a0))) .nil) (hd 16 rfl) ?_ (fun _ h => by simp at h)
  rintro y hy; injection hy with hy; subst hy
  refine Be 3 ?_ rfl (by kernel_rfl)
  refine Ax Tryz.f54 (Em s2 l2 d2 x2 y2 hx2 hy2 h02) rfl Tryz.func54 rfl rfl (Aa rfl Ad) (.cons (.a1 .b (.a1 .n (.a1 .n .a0))) .nil) (hd 18 rfl) ?_ (fun _ h => by simp at h)
  rintro y hy; injection hy with hy; subst hy
  refine Be 4 ?_ rfl (by kernel_rfl)
  refine Cl (Ah rfl rfl rfl Bq rfl rfl (Zb rfl)) rfl ?_
  refine Be 5 ?_ rfl (by kernel_rfl)
  refine Cl (Ah rfl rfl rfl Bq rfl rfl (Zb rfl)) rfl <| Bx (by kernel_rfl) <| Ae <| Zs <| Ac (A5 Cg rfl rfl rfl) (hd 19 rfl) <| Ac (A5 By rfl rfl rfl) (hd 20 rfl) <| Ac (A9 B5 rfl rfl rfl) (hd 21 rfl) <| Ac (Ar A7 rfl) (hd 22 rfl) <| Ac (B0 (Cq rfl rfl) (by omega)) (hd 23 rfl) <| Zm rfl (hd 24 rfl) <| Bi 24 rfl rfl (A5 Cg rfl rfl rfl) (hd 25 rfl) <| Bi 24 rfl rfl (A5 By rfl rfl rfl) (hd 26 rfl) ?_; refine Bi 24 rfl rfl (A9 B5 rfl rfl rfl) (hd 27 rfl) <| Bi 24 rfl rfl (Ar A7 rfl) (hd 28 rfl) <| Bi 24 rfl rfl (B0 (Cq rfl rfl) (by omega)) (hd 29 rfl) <| Ac (Bg rfl rfl) (hd 30 rfl) <| Ab <| A6 rfl <| Aj <| Ae <| C7 <| Bo (n := 14) _ rfl B9 <| Z2 0 [1, 2, 5, 11, 12, 13] (Am (A5 Cg rfl rfl rfl) (hd 32 rfl)) rfl <| Z2 1 [2, 5, 11, 12, 13] (Am (A5 By rfl rfl rfl) (hd 33 rfl)) rfl <| Z2 2 [5, 11, 12, 13] (Am (A9 B5 rfl rfl rfl) (hd 34 rfl)) rfl ?_; refine Z2 3 [4, 5, 11, 12, 13] (Am (A5 Cs rfl rfl rfl) (hd 35 rfl)) rfl <| Z2 4 [5, 11, 12, 13] (Am (A9 B5 rfl rfl rfl) (hd 36 rfl)) rfl <| Z2 6 [7, 8, 11, 12, 13] (Am (A5 Cg rfl rfl rfl) (hd 38 rfl)) rfl <| Z2 7 [8, 11, 12, 13] (Am (A5 By rfl rfl rfl) (hd 39 rfl)) rfl <| Z2 8 [11, 12, 13] (Am (A9 B5 rfl rfl rfl) (hd 40 rfl)) rfl <| Z2 9 [10, 11, 12, 13] (Am (A5 Cs rfl rfl rfl) (hd 41 rfl)) rfl <| Z2 10 [11, 12, 13] (Am (A9 B5 rfl rfl rfl) (hd 42 rfl)) rfl ?_
  refine Be 5 ?_ rfl (by kernel_rfl)
  refine Ax Tryz.f70 (hG1) rfl Tryz.func70 rfl rfl (Aa rfl (Aa rfl Ad)) (.cons .n (.cons .n .nil)) (hd 37 rfl) ?_ (fun _ h => by simp at h)
  rintro y hy; injection hy with hy; subst hy
  refine Be 11 ?_ rfl (by kernel_rfl)
  refine Ax Tryz.f70 (hG2) rfl Tryz.func70 rfl rfl (Aa rfl (Aa rfl Ad)) (.cons .n (.cons .n .nil)) (hd 43 rfl) ?_ (fun _ h => by simp at h)
  rintro _ ⟨⟩; refine Z1 12 (Am (Cm rfl) (hd 6 rfl)) rfl <| Z1 13 (Am (Cm rfl) (hd 7 rfl)) rfl <| Bx (by kernel_rfl) <| Ae <| C7 <| Bo (n := 21) _ rfl B9 <| Z2 0 [1, 2, 4, 5, 6, 7, 12, 13, 14, 15, 16, 17, 18, 19, 20] (Am (A5 Cg rfl rfl rfl) (hd 44 rfl)) rfl <| Z2 1 [2, 4, 5, 6, 7, 12, 13, 14, 15, 16, 17, 18, 19, 20] (Am (A5 By rfl rfl rfl) (hd 45 rfl)) rfl <| Z2 2 [4, 5, 6, 7, 12, 13, 14, 15, 16, 17, 18, 19, 20] (Am (A9 B5 rfl rfl rfl) (hd 46 rfl)) rfl <| Z2 3 [4, 5, 6, 7, 12, 13, 14, 15, 16, 17, 18, 19, 20] (Am (Ay rfl) (hd 47 rfl)) rfl <| Z2 8 [9, 10, 12, 13, 14, 15, 16, 17, 18, 19, 20] (Am (A5 Cg rfl rfl rfl) (hd 52 rfl)) rfl <| Z2 9 [10, 12, 13, 14, 15, 16, 17, 18, 19, 20] (Am (A5 By rfl rfl rfl) (hd 53 rfl)) rfl <| Z2 10 [12, 13, 14, 15, 16, 17, 18, 19, 20] (Am (A9 B5 rfl rfl rfl) (hd 54 rfl)) rfl ?_; refine Z2 11 [12, 13, 14, 15, 16, 17, 18, 19, 20] (Am (Ay rfl) (hd 55 rfl)) rfl ?_
  refine Be 4 ?_ rfl (by kernel_rfl)
  refine Ax Tryz.f71 (hQ1) rfl Tryz.func71 rfl rfl (Aa rfl (Aa rfl Ad)) (.cons .n (.cons .n .nil)) (hd 48 rfl) ?_ (fun _ h => by simp at h)
  rintro _ ⟨⟩; refine Z2 5 [7, 12, 13, 14, 15, 16, 17, 18, 19, 20] (Am (Ai rfl rfl) (hd 49 rfl)) rfl <| Z2 6 [7, 12, 13, 14, 15, 16, 17, 18, 19, 20] (Am (Ai rfl rfl) (hd 50 rfl)) rfl ?_
  refine Be 7 ?_ rfl (by kernel_rfl)
  refine Ax Tryz.f32 (Gr _) rfl Tryz.func32 rfl rfl (Aa rfl (Aa rfl Ad)) (.cons .n (.cons .i .nil)) (hd 51 rfl) ?_ (fun _ h => by simp at h)
  rintro y hy; injection hy with hy; subst hy
  refine Be 12 ?_ rfl (by kernel_rfl)
  refine Ax Tryz.f71 (hQ2) rfl Tryz.func71 rfl rfl (Aa rfl (Aa rfl Ad)) (.cons .n (.cons .n .nil)) (hd 56 rfl) ?_ (fun _ h => by simp at h)
  rintro _ ⟨⟩; refine Z2 13 [15, 16, 17, 18, 19, 20] (Am (Ai rfl rfl) (hd 57 rfl)) rfl <| Z2 14 [15, 16, 17, 18, 19, 20] (Am (Ai rfl rfl) (hd 58 rfl)) rfl ?_
  refine Be 15 ?_ rfl (by kernel_rfl)
  refine Ax Tryz.f32 (Gr _) rfl Tryz.func32 rfl rfl (Aa rfl (Aa rfl Ad)) (.cons .n (.cons .i .nil)) (hd 59 rfl) ?_ (fun _ h => by simp at h)
  rintro y hy; injection hy with hy; subst hy
  refine Be 16 ?_ rfl (by kernel_rfl)
  refine Ax Tryz.f113 (hM1) rfl Tryz.func113 rfl rfl (Aa rfl (Aa rfl Ad)) (.cons .n (.cons .n .nil)) (hd 60 rfl) ?_ (fun _ h => by simp at h)
  rintro _ ⟨⟩; refine Z1 17 (Am (Ai rfl rfl) (hd 61 rfl)) rfl <| Z1 18 (Am (Ai rfl rfl) (hd 62 rfl)) rfl ?_
  refine Be 19 ?_ rfl (by kernel_rfl)
  refine Ax Tryz.f32 (Gr _) rfl Tryz.func32 rfl rfl (Aa rfl (Aa rfl Ad)) (.cons .n (.cons .i .nil)) (hd 63 rfl) ?_ (fun _ h => by simp at h)
  rintro _ ⟨⟩; refine Z1 20 (Am (Cm rfl) (hd 8 rfl)) rfl <| Bx (by kernel_rfl) <| Ae <| C7 <| Bo (n := 19) _ rfl B9 <| Z2 0 [1, 3, 4, 5, 6, 10, 11, 12, 13, 14, 15, 16, 17, 18] (Am (A5 Cs rfl rfl rfl) (hd 64 rfl)) rfl <| Z2 1 [3, 4, 5, 6, 10, 11, 12, 13, 14, 15, 16, 17, 18] (Am (A9 B5 rfl rfl rfl) (hd 65 rfl)) rfl <| Z2 2 [3, 4, 5, 6, 10, 11, 12, 13, 14, 15, 16, 17, 18] (Am (Ay rfl) (hd 66 rfl)) rfl <| Z2 7 [8, 10, 11, 12, 13, 14, 15, 16, 17, 18] (Am (A5 Cs rfl rfl rfl) (hd 71 rfl)) rfl <| Z2 8 [10, 11, 12, 13, 14, 15, 16, 17, 18] (Am (A9 B5 rfl rfl rfl) (hd 72 rfl)) rfl <| Z2 9 [10, 11, 12, 13, 14, 15, 16, 17, 18] (Am (Ay rfl) (hd 73 rfl)) rfl ?_
  refine Be 3 ?_ rfl (by kernel_rfl)
  refine Ax Tryz.f71 (hQ3) rfl Tryz.func71 rfl rfl (Aa rfl (Aa rfl Ad)) (.cons .n (.cons .n .nil)) (hd 67 rfl) ?_ (fun _ h => by simp at h)
  rintro _ ⟨⟩; refine Z2 4 [6, 10, 11, 12, 13, 14, 15, 16, 17, 18] (Am (Ai rfl rfl) (hd 68 rfl)) rfl <| Z2 5 [6, 10, 11, 12, 13, 14, 15, 16, 17, 18] (Am (Ai rfl rfl) (hd 69 rfl)) rfl ?_
  refine Be 6 ?_ rfl (by kernel_rfl)
  refine Ax Tryz.f32 (Gr _) rfl Tryz.func32 rfl rfl (Aa rfl (Aa rfl Ad)) (.cons .n (.cons .i .nil)) (hd 70 rfl) ?_ (fun _ h => by simp at h)
  rintro y hy; injection hy with hy; subst hy
  refine Be 10 ?_ rfl (by kernel_rfl)
  refine Ax Tryz.f71 (hQ4) rfl Tryz.func71 rfl rfl (Aa rfl (Aa rfl Ad)) (.cons .n (.cons .n .nil)) (hd 74 rfl) ?_ (fun _ h => by simp at h)
  rintro _ ⟨⟩; refine Z2 11 [13, 14, 15, 16, 17, 18] (Am (Ai rfl rfl) (hd 75 rfl)) rfl <| Z2 12 [13, 14, 15, 16, 17, 18] (Am (Ai rfl rfl) (hd 76 rfl)) rfl ?_
  refine Be 13 ?_ rfl (by kernel_rfl)
  refine Ax Tryz.f32 (Gr _) rfl Tryz.func32 rfl rfl (Aa rfl (Aa rfl Ad)) (.cons .n (.cons .i .nil)) (hd 77 rfl) ?_ (fun _ h => by simp at h)
  rintro y hy; injection hy with hy; subst hy
  refine Be 14 ?_ rfl (by kernel_rfl)
  refine Ax Tryz.f113 (hM2) rfl Tryz.func113 rfl rfl (Aa rfl (Aa rfl Ad)) (.cons .n (.cons .n .nil)) (hd 78 rfl) ?_ (fun _ h => by simp at h)
  rintro _ ⟨⟩; refine Z1 15 (Am (Ai rfl rfl) (hd 79 rfl)) rfl <| Z1 16 (Am (Ai rfl rfl) (hd 80 rfl)) rfl ?_
  refine Be 17 ?_ rfl (by kernel_rfl)
  refine Ax Tryz.f32 (Gr _) rfl Tryz.func32 rfl rfl (Aa rfl (Aa rfl Ad)) (.cons .n (.cons .i .nil)) (hd 81 rfl) ?_ (fun _ h => by simp at h)
  rintro _ ⟨⟩; refine Z1 18 (Am (Cm rfl) (hd 9 rfl)) rfl <| Bx (by kernel_rfl) <| Zs <| Ac (A5 Cg rfl rfl rfl) (hd 82 rfl) <| Ac (A5 Cx rfl rfl rfl) (hd 83 rfl) <| Ac (A9 Il rfl rfl rfl) (hd 84 rfl) <| Ac (A5 Cg rfl rfl rfl) (hd 85 rfl) <| Ac (A5 Cx rfl rfl rfl) (hd 86 rfl) <| Ac (A9 Il rfl rfl rfl) (hd 87 rfl) <| Ac (Ot Afk rfl rfl) (hd 88 rfl) <| Zm rfl (hd 89 rfl) <| Ac (Bp (is := [0, 1]) (xs := [.tmp 88, .tmp 89]) Az C0 rfl (Aa rfl (Aa rfl Ad)) rfl (by first | (simp [Ci, cellsV]; done) | (simp [Ci, cellsV, old]; done)) (Cd rfl) rfl) (hd 90 rfl) ?_; refine Zm rfl (hd 91 rfl) <| Ac (Bp (is := [0, 1]) (xs := [.tmp 90, .tmp 91]) B4 Dm rfl (Aa rfl (Aa rfl Ad)) rfl ⟨rfl, (by decide), rfl, (by decide), trivial⟩ (Cd rfl) rfl) (hd 92 rfl) <| A3 (Ah rfl rfl rfl Bq rfl rfl (Zb rfl)) <| A3 (Ah rfl rfl rfl E5 rfl rfl (Zb rfl)) <| Ab <| An <| Clo.fin Nm (m := 4) (i := 2) (j := 3) (Zb rfl) rfl rfl rfl rfl ?_
  refine ⟨_, _, (.cons (ResV.cell Ap rfl rfl rfl rfl) (.cons (ResV.cell1 Cr rfl rfl rfl) .nil)), (.t1 (.a1 .b (.a1 .n (.a1 .n .a0))) (.t1 .i .t0)), ?_⟩
  rw [← hz1, ← hz2, ← hz3]

theorem Air (s : Bool) (l d : List Int) (x y : Nat) (hx : Rw l x) (hy : Rw d y) (z : Int) (Y : Nat) (q1 : Qe s x y z Y) (s2 : Bool) (l2 d2 : List Int) (x2 y2 : Nat) (hx2 : Rw l2 x2) (hy2 : Rw d2 y2) (w : Int) (X : Nat) (q2 : Qe s2 x2 y2 w X) (hB : Al (x : Int) + Al (y : Int) + Al (x2 : Int) + Al (y2 : Int) ≤ 67108864) : Spec Tryz.prog 91 [(.a [.b s, .n false .u64 l, .n false .u64 d]), (.a [.b s2, .n false .u64 l2, .n false .u64 d2])] (fun o => o = .ret (.t [(.a [.b (decide ((z * w) < 0)), .n false .u64 (lm ((nn (z * w) (Y * X) : Nat) : Int)), .n false .u64 (lm ((dd (z * w) (Y * X) : Nat) : Int))]), .i .i64 0])) := by
  by_cases hx0 : x = 0
  · exact Afe s l d x y hx hy z Y q1 s2 l2 d2 x2 y2 hx2 hy2 w X q2 hB hx0
  · by_cases hx20 : x2 = 0
    · exact Afd s l d x y hx hy z Y q1 s2 l2 d2 x2 y2 hx2 hy2 w X q2 hB hx0 hx20
    · exact Ais s l d x y hx hy z Y q1 s2 l2 d2 x2 y2 hx2 hy2 w X q2 hB hx0 hx20

theorem R3 (a b : Nat) (hb : b ≠ 0) (la : Al (a : Int) ≤ 67108864) (lb : Al (b : Int) ≤ 67108864) : Spec Tryz.prog 100 [.n false .u64 (lm (a : Int)), .n false .u64 (lm (b : Int))] (fun o => o = .ret (.t [.n false .u64 (lm ((a / b : Nat) : Int)), .n false .u64 (lm ((a % b : Nat) : Int))])) := by
  refine Aw [(0, .n false .u64 (lm (a : Int))), (1, .n false .u64 (lm (b : Int)))] rfl Tryz.func100 rfl (Zb rfl) fun Γ hN hds hL hR => ?_
  have hd := B2 23 hN
  have hBo : Spec Tryz.prog 102 [.n false .u64 (lm (a : Int)), .n false .u64 (lm (b : Int))] (fun o => o = .ret (.t [.n false .u64 (lm ((a / b : Nat) : Int)), .n false .u64 (lm ((a % b : Nat) : Int)), .i .i64 0])) := by have h := Ai2 (a : Int) (b : Int) la lb (by omega); rwa [Kx, Agu] at h
  refine Zs <| Za rfl (hd 4 rfl) <| Za rfl (hd 5 rfl) <| Ab <| Zs <| Zm rfl (hd 10 rfl) <| Zm rfl (hd 11 rfl) ?_
  refine Ag Tryz.f102 (hBo) rfl Tryz.func102 rfl rfl (Aa rfl (Aa rfl Ad)) (.cons .n (.cons .n .nil)) (hd 12 rfl) ?_ (fun _ h => by simp at h)
  rintro _ ⟨⟩; refine Zm rfl (hd 9 rfl) <| Ac (Ai rfl rfl) (hd 13 rfl) <| Ac (Ai rfl rfl) (hd 14 rfl) <| Ac (Ai rfl rfl) (hd 15 rfl) <| Za rfl (hd 6 rfl) <| Za rfl (hd 7 rfl) <| Za rfl (hd 8 rfl) <| Ab <| Ae <| Zs <| Zm rfl (hd 16 rfl) <| Ac (B0 (Ec rfl rfl) (by decide)) (hd 17 rfl) ?_; refine Ab <| A6 rfl <| Aj <| Zs <| Zm rfl (hd 21 rfl) <| Zm rfl (hd 22 rfl) <| Za rfl (hd 4 rfl) <| Za rfl (hd 5 rfl) <| Ab <| An ?_
  refine ⟨_, _, (.cons rfl (.cons rfl .nil)), (.t1 .n (.t1 .n .t0)), ?_⟩
  exact rfl

theorem Wj (a b c d : Nat) (hb : b ≠ 0) (hd0 : d ≠ 0) (la : Al (a : Int) ≤ 67108864) (lb : Al (b : Int) ≤ 67108864) (lc : Al (c : Int) ≤ 67108864) (ld : Al (d : Int) ≤ 67108864) : Spec Tryz.prog 65 [.n false .u64 (lm (a : Int)), .n false .u64 (lm (b : Int)), .n false .u64 (lm (c : Int)), .n false .u64 (lm (d : Int))] (fun o => o = .ret (.i .i64 (cN a b c d))) := by
  refine Aw [(0, .n false .u64 (lm (a : Int))), (1, .n false .u64 (lm (b : Int))), (2, .n false .u64 (lm (c : Int))), (3, .n false .u64 (lm (d : Int)))] rfl Tryz.func65 rfl (Zb rfl) fun Γ hN hds hL hR => ?_
  have hd := B2 61 hN
  refine Zs <| Za rfl (hd 8 rfl) <| Ab <| Zs <| Za rfl (hd 9 rfl) <| Ab <| At ?_
  refine Ch (G := Nat × Nat × Nat × Nat × Int) (fun g => g.2.1 ≠ 0 ∧ g.2.2.2.1 ≠ 0 ∧ Al (g.1 : Int) ≤ 67108864 ∧ Al (g.2.1 : Int) ≤ 67108864 ∧ Al (g.2.2.1 : Int) ≤ 67108864 ∧ Al (g.2.2.2.1 : Int) ≤ 67108864 ∧ (g.2.2.2.2 = 1 ∨ g.2.2.2.2 = -1) ∧ g.2.2.2.2 * cN g.1 g.2.1 g.2.2.1 g.2.2.2.1 = cN a b c d) (fun g => [(0, .n false .u64 (lm (g.1 : Int))), (1, .n false .u64 (lm (g.2.1 : Int))), (2, .n false .u64 (lm (g.2.2.1 : Int))), (3, .n false .u64 (lm (g.2.2.2.1 : Int))), (9, .i .i64 g.2.2.2.2), (8, .u), (10, .u), (11, .u), (12, .u), (13, .u), (14, .u), (15, .u), (16, .u), (17, .u), (18, .u), (19, .u), (20, .u), (21, .u), (22, .u), (23, .u), (24, .u), (25, .u), (26, .u), (27, .u), (28, .u), (29, .u), (30, .u), (31, .u), (32, .u), (33, .u), (34, .u), (35, .u), (36, .u), (37, .u), (38, .u), (39, .u), (40, .u), (41, .u), (42, .u), (43, .u), (44, .u), (45, .u), (46, .u), (47, .u), (48, .u), (49, .u), (50, .u), (51, .u), (52, .u), (53, .u), (54, .u), (55, .u), (56, .u), (57, .u), (58, .u), (59, .u), (60, .u)]) (fun _ => _) (fun g => g.2.1) (a, b, c, d, 1) ?_ ?_ rfl ?_
  · exact ⟨hb, hd0, la, lb, lc, ld, .inl rfl, Int.one_mul _⟩
  · exact (.cons rfl (.cons rfl (.cons rfl (.cons rfl (.cons rfl (.v9 (.v9 (.v9 (.v9 (.v9 (.u (.u .nil))))))))))))
  · rintro ⟨a1, b1, c1, d1, sg⟩ ⟨hb1, hd1, ba, bb, bc, bd, hsg, hc9⟩
    dsimp only at hb1 hd1 ba bb bc bd hsg hc9 ⊢
    have hlx := @lm_len0 (a1 % b1)
    have hly := @lm_len0 (c1 % d1)
    have bp := Nat.le_trans (Cn (Nat.div_le_self a1 b1)) ba
    have bq := Nat.le_trans (Cn (Nat.div_le_self c1 d1)) bc
    have bx := Nat.le_trans (Cn (Nat.mod_le a1 b1)) ba
    have by9 := Nat.le_trans (Cn (Nat.mod_le c1 d1)) bc
    have llp := Bv bp
    have llq := Bv bq
    have hCp : Spec Tryz.prog 89 [.n false .u64 (lm ((a1 / b1 : Nat) : Int)), .n false .u64 (lm ((c1 / d1 : Nat) : Int))] (fun o => o = .ret (.i .i64 (C1 ((a1 / b1 : Nat) : Int) ((c1 / d1 : Nat) : Int)))) := by have h := Pf ((a1 / b1 : Nat) : Int) ((c1 / d1 : Nat) : Int) (by omega) (by omega); rwa [Int.natAbs_natCast, Int.natAbs_natCast] at h
    refine Ae <| At <| Zs <| Zm rfl (hd 18 rfl) <| Zm rfl (hd 19 rfl) ?_
    refine Ag Tryz.f100 (R3 a1 b1 hb1 ba bb) rfl Tryz.func100 rfl rfl (Aa rfl (Aa rfl Ad)) (.cons .n (.cons .n .nil)) (hd 20 rfl) ?_ (fun _ h => by simp at h)
    rintro _ ⟨⟩; refine Zm rfl (hd 17 rfl) <| Ac (Ai rfl rfl) (hd 21 rfl) <| Ac (Ai rfl rfl) (hd 22 rfl) <| Za rfl (hd 10 rfl) <| Za rfl (hd 11 rfl) <| Ab <| Zs <| Zm rfl (hd 24 rfl) <| Zm rfl (hd 25 rfl) ?_
    refine Ag Tryz.f100 (R3 c1 d1 hd1 bc bd) rfl Tryz.func100 rfl rfl (Aa rfl (Aa rfl Ad)) (.cons .n (.cons .n .nil)) (hd 26 rfl) ?_ (fun _ h => by simp at h)
    rintro _ ⟨⟩; refine Zm rfl (hd 23 rfl) <| Ac (Ai rfl rfl) (hd 27 rfl) <| Ac (Ai rfl rfl) (hd 28 rfl) <| Za rfl (hd 12 rfl) <| Za rfl (hd 13 rfl) <| Ab <| Ae <| Zs <| Zm rfl (hd 29 rfl) <| Zm rfl (hd 30 rfl) ?_
    refine Ag Tryz.f89 (hCp) rfl Tryz.func89 rfl rfl (Aa rfl (Aa rfl Ad)) (.cons .n (.cons .n .nil)) (hd 31 rfl) ?_ (fun _ h => by simp at h)
    rintro _ ⟨⟩; refine Za rfl (hd 14 rfl) <| Ab <| Zs <| Zm rfl (hd 32 rfl) <| Ac (Ec rfl rfl) (hd 33 rfl) <| Ab ?_
    refine Bh rfl (fun h1 => ?_) (fun h1 => ?_)
    · have hne : a1 / b1 ≠ c1 / d1 := fun e => h1 (by rw [e]; exact Ht.2 rfl)
      have hcq := Amb hb1 hd1 hne
      have hcr := @Ab3 a b c d
      refine Zs <| Zm rfl (hd 34 rfl) <| Zm rfl (hd 35 rfl) <| Ac (Dw rfl rfl (r := cN a b c d) (by rw [hcq, hc9]; exact Ak (by omega) (by omega))) (hd 36 rfl) <| Za rfl (hd 8 rfl) <| Ab <| An ?_
      refine ⟨_, _, (.cons rfl .nil), .i, ?_⟩
      exact rfl
    · have hqe : a1 / b1 = c1 / d1 := by have h9 := Ht.1 (Decidable.not_not.1 h1); omega
      have hz := Ama hb1 hd1 hqe
      refine Aj <| Ae <| At <| Zs <| Zm rfl (hd 38 rfl) <| Ac (Ar A7 rfl) (hd 39 rfl) <| Ac (Cq rfl rfl) (hd 40 rfl) <| Zm rfl (hd 41 rfl) ?_
      refine Ez 41 rfl (fun h2 => ?_) (fun h2 => ?_)
      · have hxz : a1 % b1 = 0 := hlx.1 (by omega)
        refine Bi 41 rfl rfl (Ay rfl) (hd 42 rfl) <| Bi 41 rfl rfl (Ar A7 rfl) (hd 43 rfl) <| Bi 41 rfl rfl (Cq rfl rfl) (hd 44 rfl) <| Ac (Bt rfl rfl) (hd 45 rfl) <| Za rfl (hd 37 rfl) <| Ab ?_
        refine Bh rfl (fun h3 => ?_) (fun h3 => ?_)
        · have hyz : c1 % d1 = 0 := hly.1 (by omega)
          refine Zs <| Za rfl (hd 8 rfl) <| Ab <| An ?_
          refine ⟨_, _, (.cons rfl .nil), .i, ?_⟩
          first | (exfalso; omega) | (rw [← hc9, hz.1 hxz hyz, Int.mul_zero]) | (rw [← hc9, hz.2.1 hxz hyn]; show Out.ret (V.i .i64 _) = Out.ret (V.i .i64 _); congr 2; omega) | (rw [← hc9, hz.2.2 hxn hyz2]; show Out.ret (V.i .i64 _) = Out.ret (V.i .i64 _); congr 2; omega)
        · have hyn : c1 % d1 ≠ 0 := fun e => h3 (by have := hly.2 e; omega)
          refine Zs <| Zm rfl (hd 47 rfl) <| Ac (Ar A7 rfl) (hd 48 rfl) <| Ac (Cq rfl rfl) (hd 49 rfl) <| Za rfl (hd 46 rfl) <| Ab ?_
          refine Bh rfl (fun h4 => ?_) (fun h4 => ?_)
          · have hxz2 : a1 % b1 = 0 := hlx.1 (by omega)
            refine Zs <| Zm rfl (hd 50 rfl) <| Ac (Jj rfl (r := -sg) (by rw [Ak (by omega) (by omega)]; omega)) (hd 51 rfl) <| Za rfl (hd 8 rfl) <| Ab <| An ?_
            refine ⟨_, _, (.cons rfl .nil), .i, ?_⟩
            first | (exfalso; omega) | (rw [← hc9, hz.1 hxz hyz, Int.mul_zero]) | (rw [← hc9, hz.2.1 hxz hyn]; show Out.ret (V.i .i64 _) = Out.ret (V.i .i64 _); congr 2; omega) | (rw [← hc9, hz.2.2 hxn hyz2]; show Out.ret (V.i .i64 _) = Out.ret (V.i .i64 _); congr 2; omega)
          · have hxn2 : a1 % b1 ≠ 0 := fun e => h4 (by have := hlx.2 e; omega)
            refine Zs <| Zm rfl (hd 53 rfl) <| Ac (Ar A7 rfl) (hd 54 rfl) <| Ac (Cq rfl rfl) (hd 55 rfl) <| Za rfl (hd 52 rfl) <| Ab ?_
            refine Bh rfl (fun h5 => ?_) (fun h5 => ?_)
            · have hyz2 : c1 % d1 = 0 := hly.1 (by omega)
              refine Zs <| Zm rfl (hd 56 rfl) <| Za rfl (hd 8 rfl) <| Ab <| An ?_
              refine ⟨_, _, (.cons rfl .nil), .i, ?_⟩
              first | (exfalso; omega) | (rw [← hc9, hz.1 hxz hyz, Int.mul_zero]) | (rw [← hc9, hz.2.1 hxz hyn]; show Out.ret (V.i .i64 _) = Out.ret (V.i .i64 _); congr 2; omega) | (rw [← hc9, hz.2.2 hxn hyz2]; show Out.ret (V.i .i64 _) = Out.ret (V.i .i64 _); congr 2; omega)
            · have hyn2 : c1 % d1 ≠ 0 := fun e => h5 (by have := hly.2 e; omega)
              refine Aj <| Af <| Zm rfl (hd 57 rfl) <| Zm rfl (hd 58 rfl) <| Zm rfl (hd 59 rfl) <| Zm rfl (hd 60 rfl) <| Za rfl (hd 0 rfl) <| Za rfl (hd 1 rfl) <| Za rfl (hd 2 rfl) <| Za rfl (hd 3 rfl) <| Ab <| Af <| Zm rfl (hd 15 rfl) ?_; refine Ac (Jj rfl (r := -sg) (by rw [Ak (by omega) (by omega)]; omega)) (hd 16 rfl) <| Za rfl (hd 9 rfl) <| Ab ?_
              refine ⟨(b1, a1 % b1, d1, c1 % d1, -sg), ?_, ?_, rfl, Bj 108 (by kernel_rfl) (by kernel_rfl) ?_⟩
              · first | (exfalso; omega) | exact ⟨by dsimp only; omega, by dsimp only; omega, bb, bx, bd, by9, (by dsimp only; omega), (by show -sg * cN b1 (a1 % b1) d1 (c1 % d1) = _; rw [Alg hqe, Int.neg_mul_neg]; exact hc9)⟩
              · exact Nat.mod_lt _ (by omega)
              · exact (.cons rfl (.cons rfl (.cons rfl (.cons rfl (.cons rfl (.v9 (.v9 (.v9 (.v9 (.v9 (.u (.u .nil))))))))))))
      · have hxn : a1 % b1 ≠ 0 := fun e => h2 (by have := hlx.2 e; omega)
        refine Bz 41 rfl rfl rfl (hd 42 rfl) <| Bz 41 rfl rfl rfl (hd 43 rfl) <| Bz 41 rfl rfl rfl (hd 44 rfl) <| Ac (Bg rfl rfl) (hd 45 rfl) <| Za rfl (hd 37 rfl) <| Ab <| A6 rfl <| Zs <| Zm rfl (hd 47 rfl) <| Ac (Ar A7 rfl) (hd 48 rfl) <| Ac (Cq rfl rfl) (hd 49 rfl) <| Za rfl (hd 46 rfl) ?_; refine Ab ?_
        refine Bh rfl (fun h7 => ?_) (fun h7 => ?_)
        · have hxz2 : a1 % b1 = 0 := hlx.1 (by omega)
          refine Zs <| Zm rfl (hd 50 rfl) <| Ac (Jj rfl (r := -sg) (by rw [Ak (by omega) (by omega)]; omega)) (hd 51 rfl) <| Za rfl (hd 8 rfl) <| Ab <| An ?_
          refine ⟨_, _, (.cons rfl .nil), .i, ?_⟩
          first | (exfalso; omega) | (rw [← hc9, hz.1 hxz hyz, Int.mul_zero]) | (rw [← hc9, hz.2.1 hxz hyn]; show Out.ret (V.i .i64 _) = Out.ret (V.i .i64 _); congr 2; omega) | (rw [← hc9, hz.2.2 hxn hyz2]; show Out.ret (V.i .i64 _) = Out.ret (V.i .i64 _); congr 2; omega)
        · have hxn2 : a1 % b1 ≠ 0 := fun e => h7 (by have := hlx.2 e; omega)
          refine Zs <| Zm rfl (hd 53 rfl) <| Ac (Ar A7 rfl) (hd 54 rfl) <| Ac (Cq rfl rfl) (hd 55 rfl) <| Za rfl (hd 52 rfl) <| Ab ?_
          refine Bh rfl (fun h8 => ?_) (fun h8 => ?_)
          · have hyz2 : c1 % d1 = 0 := hly.1 (by omega)
            refine Zs <| Zm rfl (hd 56 rfl) <| Za rfl (hd 8 rfl) <| Ab <| An ?_
            refine ⟨_, _, (.cons rfl .nil), .i, ?_⟩
            first | (exfalso; omega) | (rw [← hc9, hz.1 hxz hyz, Int.mul_zero]) | (rw [← hc9, hz.2.1 hxz hyn]; show Out.ret (V.i .i64 _) = Out.ret (V.i .i64 _); congr 2; omega) | (rw [← hc9, hz.2.2 hxn hyz2]; show Out.ret (V.i .i64 _) = Out.ret (V.i .i64 _); congr 2; omega)
          · have hyn2 : c1 % d1 ≠ 0 := fun e => h8 (by have := hly.2 e; omega)
            refine Aj <| Af <| Zm rfl (hd 57 rfl) <| Zm rfl (hd 58 rfl) <| Zm rfl (hd 59 rfl) <| Zm rfl (hd 60 rfl) <| Za rfl (hd 0 rfl) <| Za rfl (hd 1 rfl) <| Za rfl (hd 2 rfl) <| Za rfl (hd 3 rfl) <| Ab <| Af <| Zm rfl (hd 15 rfl) ?_; refine Ac (Jj rfl (r := -sg) (by rw [Ak (by omega) (by omega)]; omega)) (hd 16 rfl) <| Za rfl (hd 9 rfl) <| Ab ?_
            refine ⟨(b1, a1 % b1, d1, c1 % d1, -sg), ?_, ?_, rfl, Bj 108 (by kernel_rfl) (by kernel_rfl) ?_⟩
            · first | (exfalso; omega) | exact ⟨by dsimp only; omega, by dsimp only; omega, bb, bx, bd, by9, (by dsimp only; omega), (by show -sg * cN b1 (a1 % b1) d1 (c1 % d1) = _; rw [Alg hqe, Int.neg_mul_neg]; exact hc9)⟩
            · exact Nat.mod_lt _ (by omega)
            · exact (.cons rfl (.cons rfl (.cons rfl (.cons rfl (.cons rfl (.v9 (.v9 (.v9 (.v9 (.v9 (.u (.u .nil))))))))))))

theorem Ait (s : Bool) (l d : List Int) (x y : Nat) (hx : Rw l x) (hy : Rw d y) (z : Int) (Y : Nat) (q1 : Qe s x y z Y) (s2 : Bool) (l2 d2 : List Int) (x2 y2 : Nat) (hx2 : Rw l2 x2) (hy2 : Rw d2 y2) (w : Int) (X : Nat) (q2 : Qe s2 x2 y2 w X) : Spec Tryz.prog 19 [(.a [.b s, .n false .u64 l, .n false .u64 d]), (.a [.b s2, .n false .u64 l2, .n false .u64 d2])] (fun o => o = .ret (.t [.i .i64 (C1 (z * (X : Int)) (w * (Y : Int))), .i .i64 0])) := by
  refine D6 [(0, (.a [.b s, .n false .u64 l, .n false .u64 d])), (1, (.a [.b s2, .n false .u64 l2, .n false .u64 d2]))] rfl Tryz.func19 rfl (Zb rfl) fun Γ 𝓡 hN hds hL hR hE => ?_
  have hd := B2 40 hN
  have h0 := q1.1
  have h02 := q2.1
  have hS1 : Spec Tryz.prog 50 [(.a [.b s, .n false .u64 l, .n false .u64 d])] (fun o => o = .ret (.i .i64 (C8 (zs s x)))) := by have h := M3 s l d hx.l hx.u; rwa [hx.sv] at h
  have hS2 : Spec Tryz.prog 50 [(.a [.b s2, .n false .u64 l2, .n false .u64 d2])] (fun o => o = .ret (.i .i64 (C8 (zs s2 x2)))) := by have h := M3 s2 l2 d2 hx2.l hx2.u; rwa [hx2.sv] at h
  have hM1 : Spec Tryz.prog 66 [.n false .u64 l] (fun o => o = .ret (.n true .u64 (lm (x : Int)))) := by have h := D4 l (by have := hx.l; omega); rw [hx.t] at h; exact h
  have hM2 : Spec Tryz.prog 66 [.n false .u64 d] (fun o => o = .ret (.n true .u64 (lm (y : Int)))) := by have h := D4 d (by have := hy.l; omega); rw [hy.t] at h; exact h
  have hM3 : Spec Tryz.prog 66 [.n false .u64 l2] (fun o => o = .ret (.n true .u64 (lm (x2 : Int)))) := by have h := D4 l2 (by have := hx2.l; omega); rw [hx2.t] at h; exact h
  have hM4 : Spec Tryz.prog 66 [.n false .u64 d2] (fun o => o = .ret (.n true .u64 (lm (y2 : Int)))) := by have h := D4 d2 (by have := hy2.l; omega); rw [hy2.t] at h; exact h
  have hCc := Wj x y x2 y2 h0 h02 hx.b hy.b hx2.b hy2.b
  have hcv := Akl q1.1 q2.1 q1.2.1 q2.2.1 q1.2.2 q2.2.2
  have hcq := Akm (s := s) (t := s2) (x := x) (x2 := x2) h0 h02
  have hcr := @Ab3 x y x2 y2
  refine Dr <| Af <| A1 (Bn (id := 0) (n := 3) rfl rfl rfl (by decide) rfl) (hd 2 rfl) <| A1 (Bn (id := 1) (n := 3) rfl rfl rfl (by decide) rfl) (hd 3 rfl) <| A1 (Aq (id := 2) Ajk (by decide) rfl (by decide) rfl) (hd 4 rfl) <| A1 (Aq (id := 3) Ep (by decide) rfl (by decide) rfl) (hd 5 rfl) <| Ab <| Dj (g := 63) (caps := [.p 2 0 0, .p 3 0 0]) 4 [_] (ops := [_, _]) rfl Tryz.func63 rfl rfl rfl hds hR hL hE <| Ac (F5 (Aa rfl (Aa rfl Ad))) (hd 8 rfl) <| Ab ?_
  refine ⟨rfl, rfl, rfl, ?_⟩
  intro Γ1 hN1 hL hR1
  replace hd : ∀ d, Nat.blt d 40 = true → d < Γ1.N := fun d h => by rw [hN1]; exact hd d h
  refine Ab <| Zs <| Ac (Au Ap rfl rfl rfl rfl) (hd 9 rfl) <| Ac (Au Ap rfl rfl rfl rfl) (hd 10 rfl) <| A1 (Do (id := 4) (xs := [.tmp 9, .tmp 10]) E0 rfl (Aa rfl (Aa rfl Ad)) rfl (Cz rfl) (by decide) rfl) (hd 11 rfl) <| Dy 11 (sz := 3) [[V.b s, V.n false .u64 l, V.n false .u64 d], [V.b s2, V.n false .u64 l2, V.n false .u64 d2]] rfl rfl rfl rfl (by simp) (by simp [Ef]) (by decide) hL ?_
  refine Ag Tryz.f25 (Es s l d y s2 l2 d2 y2 hy h0 hy2 h02) rfl Tryz.func25 rfl rfl (Aa rfl Ad) (.cons .l .nil) (hd 12 rfl) ?_ (fun _ h => by simp at h)
  rintro _ ⟨⟩; refine Ab <| Ae <| C7 <| Bo (n := 6) _ rfl B9 <| Z2 0 [1, 3, 4, 5] (Am (Au Ap rfl rfl rfl rfl) (hd 13 rfl)) rfl <| Z2 2 [3, 4, 5] (Am (Au Ap rfl rfl rfl rfl) (hd 15 rfl)) rfl ?_
  refine Be 1 ?_ rfl (by kernel_rfl)
  refine Ax Tryz.f50 (hS1) rfl Tryz.func50 rfl rfl (Aa rfl Ad) (.cons (.a1 .b (.a1 .n (.a1 .n .a0))) .nil) (hd 14 rfl) ?_ (fun _ h => by simp at h)
  rintro y hy; injection hy with hy; subst hy
  refine Be 3 ?_ rfl (by kernel_rfl)
  refine Ax Tryz.f50 (hS2) rfl Tryz.func50 rfl rfl (Aa rfl Ad) (.cons (.a1 .b (.a1 .n (.a1 .n .a0))) .nil) (hd 16 rfl) ?_ (fun _ h => by simp at h)
  rintro _ ⟨⟩; refine Z1 4 (Am (Cm rfl) (hd 6 rfl)) rfl <| Z1 5 (Am (Cm rfl) (hd 7 rfl)) rfl <| Bx (by kernel_rfl) <| Ae <| Zs <| Zm rfl (hd 17 rfl) <| Zm rfl (hd 18 rfl) <| Ac (Ec rfl rfl) (hd 19 rfl) <| Ab ?_
  refine Bh rfl (fun h1 => ?_) (fun h1 => ?_)
  · have hc1 := h1
    refine Ae <| Zs <| Zm rfl (hd 20 rfl) <| Zm rfl (hd 21 rfl) <| Ac (Ca rfl rfl) (hd 22 rfl) <| Ab ?_
    refine Bh rfl (fun h2 => ?_) (fun h2 => ?_)
    · have hc2 := h2
      refine Zs <| A3 (Ah rfl rfl rfl Ajb rfl rfl (Zb rfl)) <| A3 (Ah rfl rfl rfl E5 rfl rfl (Zb rfl)) <| Ab <| An <| Clo.fin Nl (m := 4) (i := 2) (j := 3) (Zb rfl) rfl rfl rfl rfl ?_
      refine ⟨_, _, (.cons (ResV.cell1 S2 rfl rfl rfl) (.cons (ResV.cell1 Cr rfl rfl rfl) .nil)), (.t1 .i (.t1 .i .t0)), ?_⟩
      rw [← hcv, hcq, if_pos hc1, if_pos hc2]
    · have hc2 := h2
      refine Aj <| Zs <| A3 (Ah rfl rfl rfl Ajb rfl rfl (Zb rfl)) <| A3 (Ah rfl rfl rfl E5 rfl rfl (Zb rfl)) <| Ab <| An <| Clo.fin Nl (m := 4) (i := 2) (j := 3) (Zb rfl) rfl rfl rfl rfl ?_
      refine ⟨_, _, (.cons (ResV.cell1 S2 rfl rfl rfl) (.cons (ResV.cell1 Cr rfl rfl rfl) .nil)), (.t1 .i (.t1 .i .t0)), ?_⟩
      rw [← hcv, hcq, if_pos hc1, if_neg hc2]
  · have hc1 := h1
    refine Aj <| Ae <| C7 <| Bo (n := 19) _ rfl B9 <| Z1 0 (Am (Ay rfl) (hd 23 rfl)) rfl <| Z2 1 [2, 3, 4, 7, 11, 14, 15, 16, 17, 18] (Am (A5 Cg rfl rfl rfl) (hd 24 rfl)) rfl <| Z2 2 [3, 4, 7, 11, 14, 15, 16, 17, 18] (Am (A5 By rfl rfl rfl) (hd 25 rfl)) rfl <| Z2 3 [4, 7, 11, 14, 15, 16, 17, 18] (Am (A9 B5 rfl rfl rfl) (hd 26 rfl)) rfl <| Z2 5 [6, 7, 11, 14, 15, 16, 17, 18] (Am (A5 Cs rfl rfl rfl) (hd 28 rfl)) rfl <| Z2 6 [7, 11, 14, 15, 16, 17, 18] (Am (A9 B5 rfl rfl rfl) (hd 29 rfl)) rfl <| Z2 8 [9, 10, 11, 14, 15, 16, 17, 18] (Am (A5 Cg rfl rfl rfl) (hd 31 rfl)) rfl <| Z2 9 [10, 11, 14, 15, 16, 17, 18] (Am (A5 By rfl rfl rfl) (hd 32 rfl)) rfl <| Z2 10 [11, 14, 15, 16, 17, 18] (Am (A9 B5 rfl rfl rfl) (hd 33 rfl)) rfl ?_; refine Z2 12 [13, 14, 15, 16, 17, 18] (Am (A5 Cs rfl rfl rfl) (hd 35 rfl)) rfl <| Z2 13 [14, 15, 16, 17, 18] (Am (A9 B5 rfl rfl rfl) (hd 36 rfl)) rfl ?_
    refine Be 4 ?_ rfl (by kernel_rfl)
    refine Ax Tryz.f66 (hM1) rfl Tryz.func66 rfl rfl (Aa rfl Ad) (.cons .n .nil) (hd 27 rfl) ?_ (fun _ h => by simp at h)
    rintro y hy; injection hy with hy; subst hy
    refine Be 7 ?_ rfl (by kernel_rfl)
    refine Ax Tryz.f66 (hM2) rfl Tryz.func66 rfl rfl (Aa rfl Ad) (.cons .n .nil) (hd 30 rfl) ?_ (fun _ h => by simp at h)
    rintro y hy; injection hy with hy; subst hy
    refine Be 11 ?_ rfl (by kernel_rfl)
    refine Ax Tryz.f66 (hM3) rfl Tryz.func66 rfl rfl (Aa rfl Ad) (.cons .n .nil) (hd 34 rfl) ?_ (fun _ h => by simp at h)
    rintro y hy; injection hy with hy; subst hy
    refine Be 14 ?_ rfl (by kernel_rfl)
    refine Ax Tryz.f66 (hM4) rfl Tryz.func66 rfl rfl (Aa rfl Ad) (.cons .n .nil) (hd 37 rfl) ?_ (fun _ h => by simp at h)
    rintro y hy; injection hy with hy; subst hy
    refine Be 15 ?_ rfl (by kernel_rfl)
    refine Ax Tryz.f65 (hCc) rfl Tryz.func65 rfl rfl (Aa rfl (Aa rfl (Aa rfl (Aa rfl Ad)))) (.cons .n (.cons .n (.cons .n (.cons .n .nil)))) (hd 38 rfl) ?_ (fun _ h => by simp at h)
    rintro _ ⟨⟩; refine Z1 16 (Am (Dw rfl rfl (r := C8 (zs s x) * cN x y x2 y2) (by rcases Ug (zs s x) with e | e | e <;> rw [e] <;> exact Ak (by omega) (by omega))) (hd 39 rfl)) rfl ?_
    refine Be 17 ?_ rfl (by kernel_rfl)
    refine Cl (Ah rfl rfl rfl Ajb rfl rfl (Zb rfl)) rfl ?_
    refine Be 18 ?_ rfl (by kernel_rfl)
    refine Cl (Ah rfl rfl rfl E5 rfl rfl (Zb rfl)) rfl <| Bx (by kernel_rfl) <| An <| Clo.fin Nl (m := 4) (i := 2) (j := 3) (Zb rfl) rfl rfl rfl rfl ?_
    refine ⟨_, _, (.cons (ResV.cell1 S2 rfl rfl rfl) (.cons (ResV.cell1 Cr rfl rfl rfl) .nil)), (.t1 .i (.t1 .i .t0)), ?_⟩
    rw [← hcv, hcq, if_neg hc1]

theorem Aio (s : Bool) (l d : List Int) (x y : Nat) (hx : Rw l x) (hy : Rw d y) (z : Int) (Y : Nat) (q1 : Qe s x y z Y) (s2 : Bool) (l2 d2 : List Int) (x2 y2 : Nat) (hx2 : Rw l2 x2) (hy2 : Rw d2 y2) (w : Int) (X : Nat) (q2 : Qe s2 x2 y2 w X) (hB : Al (x : Int) + Al (y : Int) + Al (x2 : Int) + Al (y2 : Int) ≤ 67108864) (hx20 : x2 ≠ 0) : Spec Tryz.prog 45 [(.a [.b s, .n false .u64 l, .n false .u64 d]), (.a [.b s2, .n false .u64 l2, .n false .u64 d2])] (fun o => o = .ret (.t [(.a [.b (decide ((z * zs (decide (w < 0)) X) < 0)), .n false .u64 (lm ((nn (z * zs (decide (w < 0)) X) (Y * w.natAbs) : Nat) : Int)), .n false .u64 (lm ((dd (z * zs (decide (w < 0)) X) (Y * w.natAbs) : Nat) : Int))]), .i .i64 0])) := by
  refine D6 [(0, (.a [.b s, .n false .u64 l, .n false .u64 d])), (1, (.a [.b s2, .n false .u64 l2, .n false .u64 d2]))] rfl Tryz.func45 rfl (Zb rfl) fun Γ 𝓡 hN hds hL hR hE => ?_
  have hd := B2 31 hN
  have h0 := q1.1
  have h02 := q2.1
  have hLn : Spec Tryz.prog 30 [.n false .u64 l2] (fun o => o = .ret (.i .i64 (Al (x2 : Int)))) := by have h := Dl l2 (by have := hx2.l; omega) hx2.u; rwa [hx2.n] at h
  have hlz := mt K6.1 hx20
  refine Dr <| Af <| A1 (Bn (id := 0) (n := 3) rfl rfl rfl (by decide) rfl) (hd 2 rfl) <| A1 (Bn (id := 1) (n := 3) rfl rfl rfl (by decide) rfl) (hd 3 rfl) <| A1 (Aq (id := 2) B4 (by decide) rfl (by decide) rfl) (hd 4 rfl) <| A1 (Aq (id := 3) Ep (by decide) rfl (by decide) rfl) (hd 5 rfl) <| Ab <| Dj (g := 90) (caps := [.p 2 0 0, .p 3 0 0]) 4 [_] (ops := [_, _]) rfl Tryz.func90 rfl rfl rfl hds hR hL hE <| Ac (F5 (Aa rfl (Aa rfl Ad))) (hd 6 rfl) <| Ab ?_
  refine ⟨rfl, rfl, rfl, ?_⟩
  intro Γ1 hN1 hL hR1
  replace hd : ∀ d, Nat.blt d 31 = true → d < Γ1.N := fun d h => by rw [hN1]; exact hd d h
  refine Ab <| Zs <| Ac (Au Ap rfl rfl rfl rfl) (hd 7 rfl) <| Ac (Au Ap rfl rfl rfl rfl) (hd 8 rfl) <| A1 (Do (id := 4) (xs := [.tmp 7, .tmp 8]) E0 rfl (Aa rfl (Aa rfl Ad)) rfl (Cz rfl) (by decide) rfl) (hd 9 rfl) <| Dy 9 (sz := 3) [[V.b s, V.n false .u64 l, V.n false .u64 d], [V.b s2, V.n false .u64 l2, V.n false .u64 d2]] rfl rfl rfl rfl (by simp) (by simp [Ef]) (by decide) hL ?_
  refine Ag Tryz.f25 (Es s l d y s2 l2 d2 y2 hy h0 hy2 h02) rfl Tryz.func25 rfl rfl (Aa rfl Ad) (.cons .l .nil) (hd 10 rfl) ?_ (fun _ h => by simp at h)
  rintro _ ⟨⟩; refine Ab <| Ae <| Zs <| Ac (A5 Cg rfl rfl rfl) (hd 11 rfl) <| Ac (A5 By rfl rfl rfl) (hd 12 rfl) <| Ac (A9 B5 rfl rfl rfl) (hd 13 rfl) ?_
  refine Ag Tryz.f30 (hLn) rfl Tryz.func30 rfl rfl (Aa rfl Ad) (.cons .n .nil) (hd 14 rfl) ?_ (fun _ h => by simp at h)
  rintro _ ⟨⟩; refine Ac (B0 (Cq rfl rfl) (by omega)) (hd 15 rfl) <| Ab <| A6 rfl <| Aj <| Zs <| Ac (Au Ap rfl rfl rfl rfl) (hd 17 rfl) <| Ac (A5 Cg rfl rfl rfl) (hd 18 rfl) <| Ac (A5 Cx rfl rfl rfl) (hd 19 rfl) <| Ac (A9 Il rfl rfl rfl) (hd 20 rfl) <| Ac (A5 Cs rfl rfl rfl) (hd 21 rfl) <| Ac (A9 B5 rfl rfl rfl) (hd 22 rfl) <| Ac (Bp (is := [0, 1]) (xs := [.tmp 20, .tmp 22]) Az C0 rfl (Aa rfl (Aa rfl Ad)) rfl (by first | (simp [Ci, cellsV]; done) | (simp [Ci, cellsV, old]; done)) (Cd rfl) rfl) (hd 23 rfl) ?_; refine Ac (A5 Cg rfl rfl rfl) (hd 24 rfl) <| Ac (A5 By rfl rfl rfl) (hd 25 rfl) <| Ac (A9 B5 rfl rfl rfl) (hd 26 rfl) <| Ac (Bp (is := [0, 1]) (xs := [.tmp 23, .tmp 26]) B4 Dm rfl (Aa rfl (Aa rfl Ad)) rfl ⟨rfl, (by decide), rfl, (by decide), trivial⟩ (Cd rfl) rfl) (hd 27 rfl) ?_
  refine Ag Tryz.f91 (Air s l d x y hx hy z Y q1 s2 d2 l2 y2 x2 hy2 hx2 (zs (decide (w < 0)) X) w.natAbs (q2.inv hx20) (by omega)) rfl Tryz.func91 rfl rfl (Aa rfl (Aa rfl Ad)) (.cons (.a1 .b (.a1 .n (.a1 .n .a0))) (.cons (.a1 .b (.a1 .n (.a1 .n .a0))) .nil)) (hd 28 rfl) ?_ (fun _ h => by simp at h)
  rintro _ ⟨⟩; refine Ac (Ai rfl rfl) (hd 29 rfl) <| Ac (Ai rfl rfl) (hd 30 rfl) <| A3 (Ah rfl rfl rfl Bq rfl rfl (Zb rfl)) <| A3 (Ah rfl rfl rfl E5 rfl rfl (Zb rfl)) <| Ab <| An <| Clo.fin Sj (m := 4) (i := 2) (j := 3) (Zb rfl) rfl rfl rfl rfl ?_
  refine ⟨_, _, (.cons (ResV.cell Ap rfl rfl rfl rfl) (.cons (ResV.cell1 Cr rfl rfl rfl) .nil)), (.t1 (.a1 .b (.a1 .n (.a1 .n .a0))) (.t1 .i .t0)), ?_⟩
  exact rfl

theorem Q9 (rs : List (Bool × List Int × List Int)) (hr : ∀ r ∈ rs, r.2.1.length ≤ 1048576 ∧ Av r.2.1 ∧ r.2.2.length ≤ 1048576 ∧ Av r.2.2) (hrl : rs.length ≤ 1000) : Spec Tryz.prog 18 [.l false 3 (Tg rs)] (fun o => o = .ret (.b (Lq rs))) := by
  refine Aw [(0, .l false 3 (Tg rs))] rfl Tryz.func18 rfl (Zb rfl) fun Γ hN hds hL hR => ?_
  have hd := B2 32 hN
  refine Zs <| Za rfl (hd 2 rfl) <| Ab <| Ae <| Zs <| Zm rfl (hd 5 rfl) <| Ac (I8 Rb rfl) (hd 6 rfl) <| Zm rfl (hd 7 rfl) <| Ab <| At ?_
  refine Fy (G := Nat) 0 (fun i => i ≤ rs.length ∧ ∀ j < i, okR (Di rs j)) (fun i => [(7, .i .i64 (i : Int)), (2, .u), (4, .u), (8, .u), (9, .u), (10, .u), (11, .u), (12, .u), (13, .u), (14, .u), (15, .u), (16, .u), (17, .u), (18, .u), (19, .u), (20, .u), (21, .u), (22, .u), (23, .u), (24, .u), (25, .u), (26, .u), (27, .u), (28, .u), (29, .u), (30, .u), (31, .u)]) (fun i => []) (fun i => rs.length - i) 0 ?_ ?_ rfl hR rfl (fun _ _ => rfl) (fun g _ => .nil) ?_
  · exact ⟨Nat.zero_le _, fun j h => absurd h (Nat.not_lt_zero _)⟩
  · exact (.cons rfl (.v9 (.v9 (.v5 (.u .nil)))))
  · rintro i ⟨hi, hj⟩; refine Zs <| Ac (Ca rfl rfl) (hd 8 rfl) <| Ab <| Ae ?_
    refine Bh rfl (fun h1 => ?_) (fun h1 => ?_)
    · have hil : i < rs.length := by have h9 : (i : Int) < ((Tg rs).length : Int) := h1; rw [Jz] at h9; omega
      obtain ⟨hn1, hn2, hd1, hd2⟩ := Yh hil hr
      have hOfD := Adg (Di rs i).2.2 (by omega) hd2
      rw [Adf hd2, We (A4 hd2)] at hOfD
      have hdlD := Wi (s := false) hd2 rfl
      have hLeD := Aiz (vl (Di rs i).2.2) (by have h9 : sv false (Di rs i).2.2 = vl (Di rs i).2.2 := rfl; rw [← h9]; omega)
      have hOfN := Adg (Di rs i).2.1 (by omega) hn2
      rw [Adf hn2, We (A4 hn2)] at hOfN
      have hdlN := Wi (s := false) hn2 rfl
      have hLeN := Aiz (vl (Di rs i).2.1) (by have h9 : sv false (Di rs i).2.1 = vl (Di rs i).2.1 := rfl; rw [← h9]; omega)
      have hdz := @Aez (vl (Di rs i).2.2)
      refine Aj <| Ae <| At <| Zs <| Ac (Ov (i := i) (row := [V.b (Di rs i).1, V.n false .u64 (Di rs i).2.1, V.n false .u64 (Di rs i).2.2]) Rb rfl rfl (by omega) (Un hil)) (hd 9 rfl) <| Ac (M6 Ap rfl rfl rfl) (hd 10 rfl) <| A1 (Aq (id := 0) B4 (by decide) rfl (by decide) rfl) (hd 4 rfl) <| A3 (Ah rfl rfl rfl Bq rfl rfl (Zb rfl)) <| Ab <| Zs <| Ac (A5 Cs rfl rfl rfl) (hd 11 rfl) ?_; refine Ac (A9 B5 rfl rfl rfl) (hd 12 rfl) ?_
      refine Ag Tryz.f22 (hOfD) rfl Tryz.func22 rfl rfl (Aa rfl Ad) (.cons .n .nil) (hd 13 rfl) ?_ (fun _ h => by simp at h)
      rintro _ ⟨⟩; refine Ac (Ar Nu rfl) (hd 14 rfl) <| Ac (Cq rfl rfl) (hd 15 rfl) <| Zm rfl (hd 16 rfl) ?_
      refine Ez 16 rfl (fun h2 => ?_) (fun h2 => ?_)
      · have hk : ¬ okR (Di rs i) := fun h9 => h9.1 (hdz.1 h2)
        refine Bz 16 rfl rfl rfl (hd 17 rfl) <| Bz 16 rfl rfl rfl (hd 18 rfl) <| Bz 16 rfl rfl rfl (hd 19 rfl) <| Bz 16 rfl rfl rfl (hd 20 rfl) <| Bz 16 rfl rfl rfl (hd 21 rfl) <| Ac (Bt rfl rfl) (hd 22 rfl) <| Zm rfl (hd 23 rfl) <| Bz 23 rfl rfl rfl (hd 24 rfl) <| Bz 23 rfl rfl rfl (hd 25 rfl) <| Bz 23 rfl rfl rfl (hd 26 rfl) <| Bz 23 rfl rfl rfl (hd 27 rfl) <| Bz 23 rfl rfl rfl (hd 28 rfl) <| Bz 23 rfl rfl rfl (hd 29 rfl) ?_; refine Ac (Bt rfl rfl) (hd 30 rfl) <| Ab <| Cw rfl <| Zs <| Za rfl (hd 2 rfl) <| Ab <| An ?_
        refine ⟨_, _, (.cons rfl .nil), .b, ?_⟩
        first | rw [Jw hil hk] | rw [Jv hj]
      · have hk1 : vl (Di rs i).2.2 ≠ 0 := fun e => h2 (hdz.2 e)
        refine Bi 16 rfl rfl (A5 Cs rfl rfl rfl) (hd 17 rfl) <| Bi 16 rfl rfl (A9 B5 rfl rfl rfl) (hd 18 rfl) ?_
        refine Ek Tryz.f22 16 rfl rfl (hOfD) rfl Tryz.func22 rfl rfl (Aa rfl Ad) (.cons .n .nil) (hd 19 rfl) ?_ (fun _ h => by simp at h)
        rintro y hy; injection hy with hy; subst hy
        refine Ek Tryz.f39 16 rfl rfl (hLeD) rfl Tryz.func39 rfl rfl (Aa rfl Ad) (.cons .n .nil) (hd 20 rfl) ?_ (fun _ h => by simp at h)
        rintro _ ⟨⟩; refine Bi 16 rfl rfl (Ce rfl rfl) (hd 21 rfl) <| Ac (Bg rfl rfl) (hd 22 rfl) <| Zm rfl (hd 23 rfl) ?_
        refine Ez 23 rfl (fun h4 => ?_) (fun h4 => ?_)
        · have hk : ¬ okR (Di rs i) := fun h9 => by have := h9.2.1; omega
          refine Bz 23 rfl rfl rfl (hd 24 rfl) <| Bz 23 rfl rfl rfl (hd 25 rfl) <| Bz 23 rfl rfl rfl (hd 26 rfl) <| Bz 23 rfl rfl rfl (hd 27 rfl) <| Bz 23 rfl rfl rfl (hd 28 rfl) <| Bz 23 rfl rfl rfl (hd 29 rfl) <| Ac (Bt rfl rfl) (hd 30 rfl) <| Ab <| Cw rfl <| Zs <| Za rfl (hd 2 rfl) <| Ab ?_; refine An ?_
          refine ⟨_, _, (.cons rfl .nil), .b, ?_⟩
          first | rw [Jw hil hk] | rw [Jv hj]
        · refine Bi 23 rfl rfl (A5 Cg rfl rfl rfl) (hd 24 rfl) <| Bi 23 rfl rfl (A5 By rfl rfl rfl) (hd 25 rfl) <| Bi 23 rfl rfl (A9 B5 rfl rfl rfl) (hd 26 rfl) ?_
          refine Ek Tryz.f22 23 rfl rfl (hOfN) rfl Tryz.func22 rfl rfl (Aa rfl Ad) (.cons .n .nil) (hd 27 rfl) ?_ (fun _ h => by simp at h)
          rintro y hy; injection hy with hy; subst hy
          refine Ek Tryz.f39 23 rfl rfl (hLeN) rfl Tryz.func39 rfl rfl (Aa rfl Ad) (.cons .n .nil) (hd 28 rfl) ?_ (fun _ h => by simp at h)
          rintro _ ⟨⟩; refine Bi 23 rfl rfl (Ce rfl rfl) (hd 29 rfl) <| Ac (Bg rfl rfl) (hd 30 rfl) <| Ab ?_
          refine Bh rfl (fun h6 => ?_) (fun h6 => ?_)
          · have hk : ¬ okR (Di rs i) := fun h9 => by have := h9.2.2; omega
            refine Zs <| Za rfl (hd 2 rfl) <| Ab <| An ?_
            refine ⟨_, _, (.cons rfl .nil), .b, ?_⟩
            first | rw [Jw hil hk] | rw [Jv hj]
          · refine Aj <| Af <| Ac (Bd rfl rfl (r := ((i + 1 : Nat) : Int)) (by rw [Ak (by omega) (by omega)]; omega)) (hd 31 rfl) <| Zm rfl (hd 7 rfl) <| Ab ?_
            refine ⟨i + 1, ?_, ?_, rfl, Bj 55 rfl rfl ?_⟩
            · exact ⟨by omega, fun j hjj => by rcases Nat.lt_or_ge j i with h9 | h9; exact hj j h9; rw [show j = i by omega]; exact ⟨hk1, by omega, by omega⟩⟩
            · omega
            · exact (.cons rfl (.v9 (.v9 (.v5 (.u .nil)))))
    · obtain rfl : i = rs.length := by have h9 : ¬ (i : Int) < ((Tg rs).length : Int) := h1; rw [Jz] at h9; omega
      refine Br <| Zs <| Za rfl (hd 2 rfl) <| Ab <| An ?_
      refine ⟨_, _, (.cons rfl .nil), .b, ?_⟩
      first | rw [Jw hil hk] | rw [Jv hj]

theorem Aiu {s : Bool} {l d : List Int} {x y : Nat} {z : Int} {Y b : Nat} (h1 : Qr s l d x y z Y b) {s2 : Bool} {l2 d2 : List Int} {x2 y2 : Nat} {w : Int} {X c : Nat} (h2 : Qr s2 l2 d2 x2 y2 w X c) (hb : 2 * b + 2 * c + 1 ≤ 67108864) : Spec Tryz.prog 115 [(.a [.b s, .n false .u64 l, .n false .u64 d]), (.a [.b s2, .n false .u64 l2, .n false .u64 d2])] (fun o => o = .ret (.t [(.a [.b (decide ((z * (X : Int) + w * (Y : Int)) < 0)), .n false .u64 (lm ((nn (z * (X : Int) + w * (Y : Int)) (Y * X) : Nat) : Int)), .n false .u64 (lm ((dd (z * (X : Int) + w * (Y : Int)) (Y * X) : Nat) : Int))]), .i .i64 0])) :=
  Ab8 s l d x y h1.hx h1.hy z Y h1.q s2 l2 d2 x2 y2 h2.hx h2.hy w X h2.q (by have a1 := h1.bx; have a2 := h1.bd; have a3 := h2.bx; have a4 := h2.bd; omega)

theorem Aip {s : Bool} {l d : List Int} {x y : Nat} {z : Int} {Y b : Nat} (h1 : Qr s l d x y z Y b) {s2 : Bool} {l2 d2 : List Int} {x2 y2 : Nat} {w : Int} {X c : Nat} (h2 : Qr s2 l2 d2 x2 y2 w X c) (hb : 2 * b + 2 * c + 1 ≤ 67108864) (hx20 : x2 ≠ 0) : Spec Tryz.prog 45 [(.a [.b s, .n false .u64 l, .n false .u64 d]), (.a [.b s2, .n false .u64 l2, .n false .u64 d2])] (fun o => o = .ret (.t [(.a [.b (decide ((z * zs (decide (w < 0)) X) < 0)), .n false .u64 (lm ((nn (z * zs (decide (w < 0)) X) (Y * w.natAbs) : Nat) : Int)), .n false .u64 (lm ((dd (z * zs (decide (w < 0)) X) (Y * w.natAbs) : Nat) : Int))]), .i .i64 0])) :=
  Aio s l d x y h1.hx h1.hy z Y h1.q s2 l2 d2 x2 y2 h2.hx h2.hy w X h2.q (by have a1 := h1.bx; have a2 := h1.bd; have a3 := h2.bx; have a4 := h2.bd; omega) hx20

theorem He {s : Bool} {l d : List Int} {x y : Nat} {z : Int} {Y b : Nat} (h1 : Qr s l d x y z Y b) {s2 : Bool} {l2 d2 : List Int} {x2 y2 : Nat} {w : Int} {X c : Nat} (h2 : Qr s2 l2 d2 x2 y2 w X c) : Spec Tryz.prog 19 [(.a [.b s, .n false .u64 l, .n false .u64 d]), (.a [.b s2, .n false .u64 l2, .n false .u64 d2])] (fun o => o = .ret (.t [.i .i64 (C1 (z * (X : Int)) (w * (Y : Int))), .i .i64 0])) :=
  Ait s l d x y h1.hx h1.hy z Y h1.q s2 l2 d2 x2 y2 h2.hx h2.hy w X h2.q

theorem Zu {x : Nat} (h : Al (x : Int) ≤ 67108864) : (Cb B32 x).length ≤ 2097152 := by
  have h1 := Aef h
  rwa [show dg (x : Int) = Cb B32 x from by unfold dg; rw [Int.natAbs_natCast]] at h1


theorem Qe.make {b : Bool} {x y : Nat} {z : Int} {Y : Nat} (h : Qe b x y z Y) : sgq b x = decide (z < 0) ∧ rn0 x y = nn z Y ∧ rd0 x y = dd z Y := ⟨h.sgn, h.low.1, h.low.2⟩
theorem Qe.neg {s : Bool} {x y : Nat} {z : Int} {Y : Nat} (h : Qe s x y z Y) : Qe (sgq (!s) x) (rn0 x y) (rd0 x y) (-z) Y := by
  have h1 : Qe (!s) x y (-z) Y := ⟨h.1, h.2.1, by rw [show zs (!s) x = -zs s x by unfold zs; cases s <;> simp, Int.neg_mul, Int.neg_mul, h.2.2]⟩
  exact h1.low'
def ngb (b : Bool) (n : Nat) : Bool := if n = 0 then b else !b

theorem Ain (s : Bool) (l d : List Int) (x y : Nat) (hx : Rw l x) (hy : Rw d y) (z : Int) (Y : Nat) (q1 : Qe s x y z Y) (s2 : Bool) (l2 d2 : List Int) (x2 y2 : Nat) (hx2 : Rw l2 x2) (hy2 : Rw d2 y2) (w : Int) (X : Nat) (q2 : Qe s2 x2 y2 w X) (hB : Al (x : Int) + Al (y : Int) + Al (x2 : Int) + Al (y2 : Int) + 1 ≤ 67108864) : Spec Tryz.prog 97 [(.a [.b s, .n false .u64 l, .n false .u64 d]), (.a [.b s2, .n false .u64 l2, .n false .u64 d2])] (fun o => o = .ret (.t [(.a [.b (decide ((z * (X : Int) + -w * (Y : Int)) < 0)), .n false .u64 (lm ((nn (z * (X : Int) + -w * (Y : Int)) (Y * X) : Nat) : Int)), .n false .u64 (lm ((dd (z * (X : Int) + -w * (Y : Int)) (Y * X) : Nat) : Int))]), .i .i64 0])) := by
  refine D6 [(0, (.a [.b s, .n false .u64 l, .n false .u64 d])), (1, (.a [.b s2, .n false .u64 l2, .n false .u64 d2]))] rfl Tryz.func97 rfl (Zb rfl) fun Γ 𝓡 hN hds hL hR hE => ?_
  have hd := B2 20 hN
  have h0 := q1.1
  have h02 := q2.1
  have bN2 : Al ((rn0 x2 y2 : Nat) : Int) ≤ Al (x2 : Int) := Py (Nat.le_refl _)
  have bD2 : Al ((rd0 x2 y2 : Nat) : Int) ≤ Al (y2 : Int) := Kv (Nat.le_refl _)
  refine Dr <| Af <| A1 (Bn (id := 0) (n := 3) rfl rfl rfl (by decide) rfl) (hd 2 rfl) <| A1 (Bn (id := 1) (n := 3) rfl rfl rfl (by decide) rfl) (hd 3 rfl) <| A1 (Aq (id := 2) B4 (by decide) rfl (by decide) rfl) (hd 4 rfl) <| A1 (Aq (id := 3) Ep (by decide) rfl (by decide) rfl) (hd 5 rfl) <| Ab <| Dj (g := 116) (caps := [.p 2 0 0, .p 3 0 0]) 4 [_] (ops := [_, _]) rfl Tryz.func116 rfl rfl rfl hds hR hL hE <| Ac (F5 (Aa rfl (Aa rfl Ad))) (hd 6 rfl) <| Ab ?_
  refine ⟨rfl, rfl, rfl, ?_⟩
  intro Γ1 hN1 hL hR1
  replace hd : ∀ d, Nat.blt d 20 = true → d < Γ1.N := fun d h => by rw [hN1]; exact hd d h
  refine Ab <| Zs <| Ac (Au Ap rfl rfl rfl rfl) (hd 7 rfl) <| Ac (Au Ap rfl rfl rfl rfl) (hd 8 rfl) <| A1 (Do (id := 4) (xs := [.tmp 7, .tmp 8]) E0 rfl (Aa rfl (Aa rfl Ad)) rfl (Cz rfl) (by decide) rfl) (hd 9 rfl) <| Dy 9 (sz := 3) [[V.b s, V.n false .u64 l, V.n false .u64 d], [V.b s2, V.n false .u64 l2, V.n false .u64 d2]] rfl rfl rfl rfl (by simp) (by simp [Ef]) (by decide) hL ?_
  refine Ag Tryz.f25 (Es s l d y s2 l2 d2 y2 hy h0 hy2 h02) rfl Tryz.func25 rfl rfl (Aa rfl Ad) (.cons .l .nil) (hd 10 rfl) ?_ (fun _ h => by simp at h)
  rintro _ ⟨⟩; refine Ab <| Ae <| C7 <| Bo (n := 11) _ rfl B9 <| Z2 0 [6, 7, 8, 9, 10] (Am (Au Ap rfl rfl rfl rfl) (hd 11 rfl)) rfl <| Z2 1 [2, 3, 4, 5, 6, 7, 8, 9, 10] (Am (Au Ap rfl rfl rfl rfl) (hd 12 rfl)) rfl ?_
  refine Be 2 ?_ rfl (by kernel_rfl)
  refine Ax Tryz.f53 (Ss s2 l2 d2 x2 y2 hx2 hy2 h02) rfl Tryz.func53 rfl rfl (Aa rfl Ad) (.cons (.a1 .b (.a1 .n (.a1 .n .a0))) .nil) (hd 13 rfl) ?_ (fun _ h => by simp at h)
  rintro _ ⟨⟩; refine Z2 3 [5, 6, 7, 8, 9, 10] (Am (Ai rfl rfl) (hd 14 rfl)) rfl <| Z2 4 [5, 6, 7, 8, 9, 10] (Am (Ai rfl rfl) (hd 15 rfl)) rfl ?_
  refine Be 5 ?_ rfl (by kernel_rfl)
  refine Ax Tryz.f52 (K2 _ _ _) rfl Tryz.func52 rfl rfl (Aa rfl (Aa rfl Ad)) (.cons (.a1 .b (.a1 .n (.a1 .n .a0))) (.cons .i .nil)) (hd 16 rfl) ?_ (fun _ h => by simp at h)
  rintro y hy; injection hy with hy; subst hy
  refine Be 6 ?_ rfl (by kernel_rfl)
  refine Ax Tryz.f115 (Ab8 s l d x y hx hy z Y q1 (sgq (!s2) x2) _ _ (rn0 x2 y2) (rd0 x2 y2) (Rw.of (by omega)) (Rw.of (by omega)) (-w) X q2.neg (by omega)) rfl Tryz.func115 rfl rfl (Aa rfl (Aa rfl Ad)) (.cons (.a1 .b (.a1 .n (.a1 .n .a0))) (.cons (.a1 .b (.a1 .n (.a1 .n .a0))) .nil)) (hd 17 rfl) ?_ (fun _ h => by simp at h)
  rintro _ ⟨⟩; refine Z1 7 (Am (Ai rfl rfl) (hd 18 rfl)) rfl <| Z1 8 (Am (Ai rfl rfl) (hd 19 rfl)) rfl ?_
  refine Be 9 ?_ rfl (by kernel_rfl)
  refine Cl (Ah rfl rfl rfl Bq rfl rfl (Zb rfl)) rfl ?_
  refine Be 10 ?_ rfl (by kernel_rfl)
  refine Cl (Ah rfl rfl rfl E5 rfl rfl (Zb rfl)) rfl <| Bx (by kernel_rfl) <| An <| Clo.fin Z6 (m := 4) (i := 2) (j := 3) (Zb rfl) rfl rfl rfl rfl ?_
  refine ⟨_, _, (.cons (ResV.cell Ap rfl rfl rfl rfl) (.cons (ResV.cell1 Cr rfl rfl rfl) .nil)), (.t1 (.a1 .b (.a1 .n (.a1 .n .a0))) (.t1 .i .t0)), ?_⟩
  exact rfl

def eu (v : Int) (w : Nat) : Nat → Int × Nat
  | 0 => (v, w)
  | k + 1 => (((eu v w k).2 : Int), ((eu v w k).1 % ((eu v w k).2 : Int)).toNat)
def eqt (v : Int) (w k : Nat) : Int := (eu v w k).1 / ((eu v w k).2 : Int)
def Afj (q : Int) : List V := [.b (decide (q < 0)), .n false .u64 (lm q)]
def cfR (v : Int) (w k : Nat) : List (List V) := (List.range k).map fun i => Afj (eqt v w i)
structure Chn (v : Int) (w n : Nat) : Prop where
  n0 : n ≠ 0
  z : (eu v w n).2 = 0
  lt : ∀ k, k < n → (eu v w k).2 ≠ 0
  g : Int.gcd v (w : Int) = 1
variable {v : Int} {w n k : Nat}
theorem Zj : (eu v w (k + 1)).1 = ((eu v w k).2 : Int) := rfl
theorem Zi (h : (eu v w k).2 ≠ 0) : ((eu v w (k + 1)).2 : Int) = (eu v w k).1 % ((eu v w k).2 : Int) := Int.toNat_of_nonneg (Int.emod_nonneg _ (by omega))
theorem Qk (h : (eu v w k).2 ≠ 0) : (eu v w (k + 1)).2 < (eu v w k).2 := by
  have h1 := Zi h
  have h2 := Int.emod_lt_of_pos (eu v w k).1 (b := ((eu v w k).2 : Int)) (by omega)
  omega
theorem Chn.gcd (h : Chn v w n) : ∀ k, k ≤ n → Int.gcd (eu v w k).1 ((eu v w k).2 : Int) = 1 := by
  intro k
  induction k with
  | zero => intro _; exact h.g
  | succ k ih =>
    intro hk
    have h1 := ih (by omega)
    rw [Zj, Zi (h.lt k (by omega)), Int.gcd_comm, ← h1]
    have e := Int.mul_ediv_add_emod (eu v w k).1 ((eu v w k).2 : Int)
    generalize (eu v w k).1 / ((eu v w k).2 : Int) = q at e
    rw [← e, Int.add_comm, Int.gcd_add_mul_left_left, Int.add_comm, e]
theorem Chn.fall (h : Chn v w n) (hk : k + 1 < n) : ((eu v w (k + 1)).2 : Int) < (eu v w (k + 1)).1 := by
  have := Qk (h.lt k (by omega))
  rw [Zj]
  omega
theorem Chn.pos (h : Chn v w n) (hk : k + 1 < n) : 0 < eqt v w (k + 1) := by
  have h1 := h.fall hk
  have h2 := h.lt (k + 1) hk
  unfold eqt
  exact Int.le_ediv_of_mul_le (by omega) (by omega)
theorem Chn.one (h : Chn v w n) (hk : k + 1 = n) : (eu v w k).2 = 1 := by
  have h1 := h.gcd n (Nat.le_refl _)
  subst hk
  rw [h.z] at h1
  have h2 : Int.gcd ((eu v w k).2 : Int) ((0 : Nat) : Int) = 1 := h1
  rwa [show ((0 : Nat) : Int) = 0 from rfl, Int.gcd_zero_right, Int.natAbs_natCast] at h2
theorem Chn.last (h : Chn v w n) (hk : k + 2 = n) : 1 < eqt v w (k + 1) := by
  have h1 := h.fall (k := k) (by omega)
  have h2 := h.one (k := k + 1) (by omega)
  unfold eqt
  rw [h2] at h1 ⊢
  rw [show ((1 : Nat) : Int) = 1 from rfl, Int.ediv_one]
  omega
theorem R8 (h1 : Al v ≤ 1048600) (h2 : Al (w : Int) ≤ 1048600) (h : ∀ j, j < k → (eu v w j).2 ≠ 0) : Al (eu v w k).1 ≤ 1048600 ∧ Al ((eu v w k).2 : Int) ≤ 1048600 := by
  induction k with
  | zero => exact ⟨h1, h2⟩
  | succ k ih =>
    have i := ih fun j hj => h j (by omega)
    have hd := Qk (h k (by omega))
    exact ⟨i.2, Nat.le_trans (B7 (w := ((eu v w k).2 : Int)) (by omega)) i.2⟩
theorem Aer (h1 : Al v ≤ 1048600) (h2 : Al (w : Int) ≤ 1048600) (h : ∀ j, j ≤ k → (eu v w j).2 ≠ 0) : Al (eqt v w k) ≤ 1048601 := by
  have i := (R8 (k := k) h1 h2 fun j hj => h j (by omega)).1
  have hk := h k (Nat.le_refl _)
  unfold eqt
  generalize (eu v w k).1 = a at *
  generalize (eu v w k).2 = b at *
  have hb : (0 : Int) < (b : Int) := by omega
  have hn : ((a / (b : Int)).natAbs) ≤ a.natAbs + 1 := by
    rcases Int.lt_or_le a 0 with ha | ha
    · have e1 : a / (b : Int) < 0 := Int.ediv_neg_of_neg_of_pos ha hb
      have e2 : a ≤ a / (b : Int) := by
        refine Int.le_ediv_of_mul_le hb ?_
        have := Int.mul_le_mul_of_nonpos_left (a := a) (b := (b : Int)) (c := 1) (by omega) (by omega)
        omega
      omega
    · have e1 : 0 ≤ a / (b : Int) := Int.ediv_nonneg ha (by omega)
      have e2 : a / (b : Int) ≤ a := Int.ediv_le_self _ ha
      omega
  have h5 : Al (1 : Int) = 1 := by decide
  have h6 : Al (-1 : Int) = 1 := by decide
  rcases Int.lt_or_le a 0 with ha | ha
  · have h3 := Iq a (-1)
    exact Nat.le_trans (B7 (w := a + -1) (by omega)) (by omega)
  · have h3 := Iq a 1
    exact Nat.le_trans (B7 (w := a + 1) (by omega)) (by omega)
theorem Chn.half (h : Chn v w n) : ∀ k, k + 1 < n → 2 ^ k * ((eu v w (k + 1)).1.toNat * (eu v w (k + 1)).2) ≤ w * w := by
  intro k
  induction k with
  | zero =>
    intro hk
    have := Qk (h.lt 0 (by omega))
    rw [Nat.pow_zero, Nat.one_mul, Zj, Int.toNat_natCast]
    exact Nat.mul_le_mul (Nat.le_refl _) (Nat.le_of_lt this)
  | succ k ih =>
    intro hk
    refine Nat.le_trans ?_ (ih (by omega))
    have hf := h.fall (k := k) (by omega)
    have hb := h.lt (k + 1) (by omega)
    have hs := Zi hb
    rw [Zj (k := k + 1), Int.toNat_natCast]
    generalize (eu v w (k + 1 + 1)).2 = r at *
    generalize (eu v w (k + 1)).1 = a at *
    generalize (eu v w (k + 1)).2 = b at *
    have hq : 1 ≤ a / (b : Int) := Int.le_ediv_of_mul_le (by omega) (by omega)
    have hd := Int.mul_ediv_add_emod a (b : Int)
    have hm : (b : Int) * 1 ≤ (b : Int) * (a / (b : Int)) := Int.mul_le_mul_of_nonneg_left hq (by omega)
    have hr := Int.emod_lt_of_pos a (b := (b : Int)) (by omega)
    have h2 : 2 * r ≤ a.toNat := by omega
    rw [Nat.pow_succ, Nat.mul_assoc]
    refine Nat.mul_le_mul_left _ ?_
    calc 2 * (b * r) = 2 * r * b := by rw [Nat.mul_comm b r, Nat.mul_assoc]
      _ ≤ a.toNat * b := Nat.mul_le_mul_right _ h2
theorem Chn.len (h : Chn v w n) (hw : Al (w : Int) ≤ 1048600) : n ≤ 2097300 := by
  rcases Nat.lt_or_ge n 3 with h3 | h3
  · omega
  · obtain ⟨m, rfl⟩ : ∃ m, n = m + 2 := ⟨n - 2, by omega⟩
    have h1 := h.half m (by omega)
    have hb := h.lt (m + 1) (by omega)
    have hf := h.fall (k := m) (by omega)
    have hp : 1 ≤ (eu v w (m + 1)).1.toNat * (eu v w (m + 1)).2 := Nat.mul_pos (by omega) (by omega)
    have h2 : 2 ^ m ≤ w * w := Nat.le_trans (by rw [Nat.mul_one]; exact Nat.le_refl _) (Nat.le_trans (Nat.mul_le_mul_left (2 ^ m) hp) h1)
    obtain ⟨K, hK⟩ : ∃ K, K = 1048600 := ⟨_, rfl⟩
    rw [← hK] at hw
    have h4 : w < 2 ^ K := by have := Ct.1 hw; rwa [Int.natAbs_natCast] at this
    have h5 : w * w < 2 ^ (K + K) := by
      rw [Nat.pow_add]
      exact Nat.mul_lt_mul'' h4 h4
    have h6 : m < K + K := (Nat.pow_lt_pow_iff_right (by decide : 1 < 2)).1 (Nat.lt_of_le_of_lt h2 h5)
    omega
theorem Ah8 : cfR v w (k + 1) = cfR v w k ++ [Afj (eqt v w k)] := by unfold cfR; rw [List.range_succ, List.map_append]; rfl
theorem Qq : (cfR v w k).length = k := by unfold cfR; rw [List.length_map, List.length_range]
theorem Ab2 {i : Nat} (h : i < k) : (cfR v w k)[i]? = some (Afj (eqt v w i)) := by
  unfold cfR
  rw [List.getElem?_map, List.getElem?_range h]
  rfl
theorem Ae3 : ∀ r ∈ cfR v w k, r.length = 2 := fun r h => by
  unfold cfR at h
  obtain ⟨i, _, rfl⟩ := List.mem_map.1 h
  rfl
theorem Z9 : ∀ r ∈ cfR v w k, r.all Ef = true := fun r h => by
  unfold cfR at h
  obtain ⟨i, _, rfl⟩ := List.mem_map.1 h
  rfl
theorem Sm : (cfR v w k).flatten.length = k * 2 := by
  induction k with
  | zero => rfl
  | succ k ih => rw [Ah8, List.flatten_append, List.length_append, ih]; show k * 2 + 2 = _; omega
theorem Nn : (cfR v w (k + 1)).flatten = (cfR v w k).flatten ++ Afj (eqt v w k) := by rw [Ah8, List.flatten_append]; rfl
theorem Ah9 (n : Nat) : (cfR v w k).flatten.all (idB n) = true := by
  induction k with
  | zero => rfl
  | succ k ih => rw [Nn, List.all_append, ih]; rfl
theorem So {a : Int} {b : Nat} {Z : Int} {W : Nat} (hg : Int.gcd a (b : Int) = 1) (hb : b ≠ 0) (hW : W ≠ 0) (h : Z * (b : Int) = a * (W : Int)) : decide (Z < 0) = decide (a < 0) ∧ lm ((nn Z W : Nat) : Int) = lm a ∧ dd Z W = b := by
  have h1 : Nat.gcd a.natAbs b = 1 := hg
  have h2 := congrArg Int.natAbs h
  rw [Int.natAbs_mul, Int.natAbs_mul, Int.natAbs_natCast, Int.natAbs_natCast] at h2
  have h3 := Ru h1 hb hW h2.symm
  refine ⟨?_, ?_, h3.2.symm⟩
  · have hbp : (0 : Int) < (b : Int) := by omega
    have hWp : (0 : Int) < (W : Int) := by omega
    rw [decide_eq_decide]
    constructor
    · intro hz
      have := Int.mul_neg_of_neg_of_pos hz hbp
      rw [h] at this
      exact Int.not_le.1 fun ha => absurd (Int.mul_nonneg ha (by omega : (0 : Int) ≤ (W : Int))) (by omega)
    · intro ha
      have := Int.mul_neg_of_neg_of_pos ha hWp
      rw [← h] at this
      exact Int.not_le.1 fun hz => absurd (Int.mul_nonneg hz (by omega : (0 : Int) ≤ (b : Int))) (by omega)
  · rw [← h3.1]; unfold lm; rw [Int.natAbs_natCast]
theorem Ah1 (h : (eu v w k).2 ≠ 0) : (eu v w k).1 = eqt v w k * ((eu v w k).2 : Int) + ((eu v w (k + 1)).2 : Int) := by
  rw [Zi h]
  unfold eqt
  have := Int.mul_ediv_add_emod (eu v w k).1 ((eu v w k).2 : Int)
  rw [Int.mul_comm] at this
  omega
end Go.Proofs.YtnadmljoefecfaaGreatDoor.Vc

namespace Go.Proofs.YtnadmljoefecfaaGreatDoor.Vc
open Go Go.RowKit
theorem Akp (A B : Nat) (hA : A ≠ 0) (hB : B ≠ 0) (g : Nat.gcd B A = 1) (la : Al (A : Int) ≤ 1048600) (lb : Al (B : Int) ≤ 1048600) : Spec Tryz.prog 45 [(.a [.b false, .n false .u64 [1], .n false .u64 [1]]), (.a [.b (decide ((A : Int) < 0)), .n false .u64 (lm (A : Int)), .n false .u64 (lm (B : Int))])] (fun o => o = .ret (.t [(.a [.b false, .n false .u64 (lm (B : Int)), .n false .u64 (lm (A : Int))]), .i .i64 0])) := by
  have r1 : Qr false [1] [1] 1 1 1 1 1 := ⟨X6 (by decide) (by decide), X6 (by decide) (by decide), Qe.raw (s := false) (x := 1) (y := 1) (by decide), by decide +kernel, by decide +kernel, by decide +kernel, by decide +kernel⟩
  have r2 : Qr (decide ((A : Int) < 0)) (lm (A : Int)) (lm (B : Int)) A B (A : Int) B 1048600 := ⟨Rw.of (by omega), Rw.of (by omega), by
    have h := Qe.raw (s := decide ((A : Int) < 0)) (x := A) (y := B) hB
    rwa [show zs (decide ((A : Int) < 0)) A = (A : Int) from by rw [decide_eq_false (by omega)]; rfl] at h, la, lb, la, lb⟩
  have h := Aip r1 r2 (by decide) hA
  have c := So (a := (B : Int)) (b := A) (Z := 1 * zs (decide ((A : Int) < 0)) B) (W := 1 * (A : Int).natAbs) g hA (by rw [Nat.one_mul, Int.natAbs_natCast]; exact hA) (by
    rw [decide_eq_false (by omega), Nat.one_mul, Int.natAbs_natCast, Int.one_mul]
    rfl)
  rw [c.1, c.2.1, c.2.2, show decide ((B : Int) < 0) = false from decide_eq_false (by omega)] at h
  exact h
theorem Amd (q a : Int) (B R : Nat) (hB : B ≠ 0) (e : a = q * (B : Int) + (R : Int)) (g : Int.gcd a (B : Int) = 1) (lq : Al q ≤ 1048601) (lB : Al (B : Int) ≤ 1048600) (lR : Al (R : Int) ≤ 1048600) : Spec Tryz.prog 115 [(.a [.b (decide (q < 0)), .n false .u64 (lm q), .n false .u64 [1]]), (.a [.b false, .n false .u64 (lm (R : Int)), .n false .u64 (lm (B : Int))])] (fun o => o = .ret (.t [(.a [.b (decide (a < 0)), .n false .u64 (lm a), .n false .u64 (lm (B : Int))]), .i .i64 0])) := by
  have r1 : Qr (decide (q < 0)) (lm q) [1] q.natAbs 1 q 1 1048601 := ⟨by have h := Rw.of (x := q.natAbs) (by rw [Et]; omega); rwa [L3] at h, X6 (by decide) (by decide), by
    have h := Qe.raw (s := decide (q < 0)) (x := q.natAbs) (y := 1) (by decide)
    rwa [Kc] at h, by rw [Et]; exact lq, by decide +kernel, lq, by decide +kernel⟩
  have r2 : Qr false (lm (R : Int)) (lm (B : Int)) R B (R : Int) B 1048600 := ⟨Rw.of (by omega), Rw.of (by omega), Qe.raw (s := false) hB, lR, lB, lR, lB⟩
  have h := Aiu r1 r2 (by decide)
  have c := So (a := a) (b := B) (Z := q * (B : Int) + (R : Int) * ((1 : Nat) : Int)) (W := 1 * B) g hB (by rw [Nat.one_mul]; exact hB) (by
    rw [Nat.one_mul, show ((1 : Nat) : Int) = 1 from rfl, Int.mul_one, ← e])
  rw [c.1, c.2.1, c.2.2] at h
  exact h
theorem Akq {q a : Int} {b : Nat} (hb : b = 1) (e : q = a) (g : Int.gcd a (b : Int) = 1) (la : Al a ≤ 67108864) : Spec Tryz.prog 54 [(.a [.b (decide (q < 0)), .n false .u64 (lm q), .n false .u64 [1]])] (fun o => o = .ret ((.a [.b (decide (a < 0)), .n false .u64 (lm a), .n false .u64 (lm (b : Int))]))) := by
  subst e; subst hb
  have h := Em (decide (q < 0)) (lm q) [1] q.natAbs 1 (by have h := Rw.of (x := q.natAbs) (by rw [Et]; exact la); rwa [L3] at h) (X6 (by decide) (by decide)) (by decide)
  have e9 := Qe.raw (s := decide (q < 0)) (x := q.natAbs) (y := 1) (by decide)
  rw [Kc] at e9
  have c := So (a := q) (b := 1) (Z := q) (W := 1) g (by decide) (by decide) rfl
  rw [e9.sgn, e9.low.1, e9.low.2, c.2.1, c.2.2] at h
  exact h

theorem W7 (v : Int) (w n : Nat) (hc : Chn v w n) (hv9 : Al v ≤ 1048600) (hw9 : Al (w : Int) ≤ 1048600) : Spec Tryz.prog 96 [.l false 2 (cfR v w n)] (fun o => o = .ret (.t [.a [.b (decide ((eu v w 0).1 < 0)), .n false .u64 (lm (eu v w 0).1), .n false .u64 (lm ((eu v w 0).2 : Int))], .i .i64 0])) := by
  refine D6 [(0, .l false 2 (cfR v w n))] rfl Tryz.func96 rfl (Zb rfl) fun Γ 𝓡 hN hds hL hR hE => ?_
  have hd := B2 45 hN
  have hF1 : Spec Tryz.prog 35 [.i .u64 1] (fun o => o = .ret (.n true .u64 [1])) := by have h := Gn 1; rwa [if_neg (by decide)] at h
  have hIn : Spec Tryz.prog 46 [.i .i64 1] (fun o => o = .ret (.a [.b false, .n true .u64 [1], .n true .u64 [1]])) := by have h := Jp 1 (by unfold inI; omega); rwa [show decide ((1 : Int) < 0) = false from rfl, show lm (1 : Int) = [1] from M9, M9] at h
  have hn0 := hc.n0
  have hnl := hc.len hw9
  have hcl : (cfR v w n).length = n := Qq
  have hlast := R8 hv9 hw9 (k := n - 1) (fun j hj => hc.lt j (by omega))
  have hNo := Akq (q := (eqt v w (n - 1))) (a := (eu v w (n - 1)).1) (b := (eu v w (n - 1)).2) (hc.one (by omega)) (by unfold eqt; rw [hc.one (k := n - 1) (by omega)]; exact Int.ediv_one _) (hc.gcd (n - 1) (by omega)) (by omega)
  refine Dr <| Af <| A1 (Aq (id := 0) B4 (by decide) rfl (by decide) rfl) (hd 2 rfl) <| A1 (Aq (id := 1) Ep (by decide) rfl (by decide) rfl) (hd 3 rfl) <| Ab <| Dj (g := 114) (caps := [.p 0 0 0, .p 1 0 0]) 2 [_] (ops := [_, _]) rfl Tryz.func114 rfl rfl rfl hds hR hL hE <| Ac (F5 (Aa rfl (Aa rfl Ad))) (hd 6 rfl) <| Ab ?_
  refine ⟨rfl, rfl, rfl, ?_⟩
  intro Γ1 hN1 hL hR1
  replace hd : ∀ d, Nat.blt d 45 = true → d < Γ1.N := fun d h => by rw [hN1]; exact hd d h
  refine Ab <| Ae <| Zs <| Zm rfl (hd 7 rfl) <| Ac (I8 Agm rfl) (hd 8 rfl) <| Ac (B0 (Cq rfl rfl) (by omega)) (hd 9 rfl) <| Ab <| A6 rfl <| Aj <| Ae <| Af ?_
  refine Ag Tryz.f35 (hF1) rfl Tryz.func35 rfl rfl (Aa rfl Ad) (.cons .i .nil) (hd 11 rfl) ?_ (fun _ h => by simp at h)
  rintro _ ⟨⟩; refine Za rfl (hd 4 rfl) <| Ab <| Zs <| Zm rfl (hd 12 rfl) <| Zm rfl (hd 13 rfl) <| Ac (I8 Agm rfl) (hd 14 rfl) <| Ac (Bm rfl rfl (r := ((n - 1 : Nat) : Int)) (by rw [hcl, Ak (by omega) (by omega)]; omega)) (hd 15 rfl) <| Ac (Ov (i := (n - 1)) (row := [.b (decide ((eqt v w (n - 1)) < 0)), .n false .u64 (lm (eqt v w (n - 1)))]) Agm rfl rfl rfl (Ab2 (by omega))) (hd 16 rfl) <| Ac (M6 Bw rfl rfl rfl) (hd 17 rfl) <| Zm rfl (hd 18 rfl) <| Ac (Bp (is := [0, 1]) (xs := [.tmp 17, .tmp 18]) B4 Dm rfl (Aa rfl (Aa rfl Ad)) rfl ⟨rfl, (by decide), rfl, (by decide), trivial⟩ (Cd rfl) rfl) (hd 19 rfl) ?_
  refine Ag Tryz.f54 (hNo) rfl Tryz.func54 rfl rfl (Aa rfl Ad) (.cons (.a1 .b (.a1 .n (.a1 .n .a0))) .nil) (hd 20 rfl) ?_ (fun _ h => by simp at h)
  rintro _ ⟨⟩; refine A3 (Ah rfl rfl rfl Bq rfl rfl (Zb rfl)) <| Ab <| Ae <| Zs <| Zm rfl (hd 21 rfl) <| Ac (I8 Agm rfl) (hd 22 rfl) <| Ac (Bm rfl rfl (r := (n : Int) - 2) (by rw [hcl, Ak (by omega) (by omega)])) (hd 23 rfl) <| Za rfl (hd 5 rfl) <| Ab <| At ?_
  refine Vt (G := Nat) 2 (fun k => k < n) (fun k => [(5, .i .i64 ((k : Int) - 1)), (24, .u), (25, .u), (26, .u), (27, .u), (28, .u), (29, .u), (30, .u), (31, .u), (32, .u), (33, .u), (34, .u), (35, .u), (36, .u), (37, .u), (38, .u), (39, .u), (40, .u), (41, .u), (42, .u), (43, .u)]) (fun k => [⟨27, 3, 0, true, [.b (decide ((eu v w k).1 < 0)), .n false .u64 (lm (eu v w k).1), .n false .u64 (lm ((eu v w k).2 : Int))]⟩, ⟨28, 1, 0, true, [.i .i64 0]⟩]) (fun k => k) (n - 1) ?_ ?_ rfl (Nat.le_trans (Nat.le_of_eq hR1) (by decide)) rfl (fun _ _ => rfl) (fun k hk => .cons rfl (.cons rfl .nil)) ?_
  · exact Nat.sub_lt (Nat.pos_of_ne_zero hn0) (by decide)
  · exact (.cons (congrArg (fun x => some (V.i .i64 x)) (by omega : (n : Int) - 2 = ((n - 1 : Nat) : Int) - 1)) (.v9 (.v9 .nil)))
  · rintro k hk; refine Ae <| Zs <| Zm rfl (hd 24 rfl) <| Ac (F6 rfl rfl) (hd 25 rfl) <| Ab ?_
    refine Bh rfl (fun h2 => ?_) (fun h2 => ?_)
    · have hk1 : 1 ≤ k := by have h9 : (k : Int) - 1 ≥ 0 := h2; omega
      obtain ⟨j, rfl⟩ : ∃ j, k = j + 1 := ⟨k - 1, by omega⟩
      have hb0 := hc.lt j (by omega)
      have hb1 := hc.lt (j + 1) hk
      have hl0 := R8 hv9 hw9 (k := j) (fun i hi => hc.lt i (by omega))
      have hl1 := R8 hv9 hw9 (k := j + 1) (fun i hi => hc.lt i (by omega))
      have lq := Aer hv9 hw9 (k := j) (fun i hi => hc.lt i (by omega))
      have hg1 : Nat.gcd (eu v w (j + 1)).2 (eu v w j).2 = 1 := by have h9 : Nat.gcd (eu v w j).2 (eu v w (j + 1)).2 = 1 := hc.gcd (j + 1) (by omega); rw [Nat.gcd_comm]; exact h9
      have hQ := Akp (eu v w j).2 (eu v w (j + 1)).2 hb0 hb1 hg1 hl0.2 hl1.2
      have hA := Amd (eqt v w j) (eu v w j).1 (eu v w j).2 (eu v w (j + 1)).2 hb0 (Ah1 hb0) (hc.gcd j (by omega)) lq hl0.2 hl1.2
      refine Aj <| Ae <| At <| C7 <| Bo (n := 17) _ rfl B9 <| Z2 0 [2, 3, 5, 12, 13, 14, 15, 16] (Am (Ay rfl) (hd 28 rfl)) rfl <| Z2 1 [2, 3, 5, 12, 13, 14, 15, 16] (Am (Ay rfl) (hd 29 rfl)) rfl <| Z2 2 [3, 5, 12, 13, 14, 15, 16] (Am (Ov (i := j) (row := [.b (decide ((eqt v w j) < 0)), .n false .u64 (lm (eqt v w j))]) Agm rfl rfl (by omega) (Ab2 (by omega))) (hd 30 rfl)) rfl <| Z2 3 [5, 12, 13, 14, 15, 16] (Am (M6 Bw rfl rfl rfl) (hd 31 rfl)) rfl <| Z2 4 [5, 12, 13, 14, 15, 16] (Am (Ay rfl) (hd 32 rfl)) rfl <| Z2 5 [12, 13, 14, 15, 16] (Am (Bp (is := [0, 1]) (xs := [.tmp 31, .tmp 32]) B4 Dm rfl (Aa rfl (Aa rfl Ad)) rfl ⟨rfl, (by decide), rfl, (by decide), trivial⟩ (Cd rfl) rfl) (hd 33 rfl)) rfl <| Z2 7 [8, 9, 10, 11, 12, 13, 14, 15, 16] (Am (Au Ap rfl rfl rfl rfl) (hd 35 rfl)) rfl ?_
      refine Be 6 ?_ rfl (by kernel_rfl)
      refine Ax Tryz.f46 (hIn) rfl Tryz.func46 rfl rfl (Aa rfl Ad) (.cons .i .nil) (hd 34 rfl) ?_ (fun _ h => by simp at h)
      rintro y hy; injection hy with hy; subst hy
      refine Be 8 ?_ rfl (by kernel_rfl)
      refine Ax Tryz.f45 (hQ) rfl Tryz.func45 rfl rfl (Aa rfl (Aa rfl Ad)) (.cons (.a1 .b (.a1 .n (.a1 .n .a0))) (.cons (.a1 .b (.a1 .n (.a1 .n .a0))) .nil)) (hd 36 rfl) ?_ (fun _ h => by simp at h)
      rintro _ ⟨⟩; refine Z2 9 [11, 12, 13, 14, 15, 16] (Am (Ai rfl rfl) (hd 37 rfl)) rfl <| Z2 10 [11, 12, 13, 14, 15, 16] (Am (Ai rfl rfl) (hd 38 rfl)) rfl ?_
      refine Be 11 ?_ rfl (by kernel_rfl)
      refine Ax Tryz.f52 (K2 _ _ _) rfl Tryz.func52 rfl rfl (Aa rfl (Aa rfl Ad)) (.cons (.a1 .b (.a1 .n (.a1 .n .a0))) (.cons .i .nil)) (hd 39 rfl) ?_ (fun _ h => by simp at h)
      rintro y hy; injection hy with hy; subst hy
      refine Be 12 ?_ rfl (by kernel_rfl)
      refine Ax Tryz.f115 (hA) rfl Tryz.func115 rfl rfl (Aa rfl (Aa rfl Ad)) (.cons (.a1 .b (.a1 .n (.a1 .n .a0))) (.cons (.a1 .b (.a1 .n (.a1 .n .a0))) .nil)) (hd 40 rfl) ?_ (fun _ h => by simp at h)
      rintro _ ⟨⟩; refine Z1 13 (Am (Ai rfl rfl) (hd 41 rfl)) rfl <| Z1 14 (Am (Ai rfl rfl) (hd 42 rfl)) rfl ?_
      refine Be 15 ?_ rfl (by kernel_rfl)
      refine Ax Tryz.f52 (K2 _ _ _) rfl Tryz.func52 rfl rfl (Aa rfl (Aa rfl Ad)) (.cons (.a1 .b (.a1 .n (.a1 .n .a0))) (.cons .i .nil)) (hd 43 rfl) ?_ (fun _ h => by simp at h)
      rintro y hy; injection hy with hy; subst hy
      refine Be 16 ?_ rfl (by kernel_rfl)
      refine Cl (Ah rfl rfl rfl Bq rfl rfl (Zb rfl)) rfl <| Bx (by kernel_rfl) <| Af <| Zm rfl (hd 26 rfl) <| Ac (Bm rfl rfl (r := (j : Int) - 1) (by rw [Ak (by omega) (by omega)]; omega)) (hd 27 rfl) <| Za rfl (hd 5 rfl) <| Ab ?_
      refine ⟨j, ?_, ?_, rfl, Bj 42 rfl rfl ?_⟩
      · exact Nat.lt_of_succ_lt hk
      · exact Nat.lt_succ_self j
      · exact (.cons rfl (.v9 (.v9 .nil)))
    · have hk0 : k = 0 := by have h9 : ¬ (k : Int) - 1 ≥ 0 := h2; omega
      subst hk0; refine Br <| Zs <| Ac (Au Ap rfl rfl rfl rfl) (hd 44 rfl) <| A3 (Ah rfl rfl rfl Bq rfl rfl (Zb rfl)) <| A3 (Ah rfl rfl rfl E5 rfl rfl (Zb rfl)) <| Ab <| An <| Clo.fin Z5 (m := 2) (i := 0) (j := 1) (Zb rfl) rfl rfl rfl rfl ?_
      refine ⟨_, _, (.cons (ResV.cell Ap rfl rfl rfl rfl) (.cons (ResV.cell1 Cr rfl rfl rfl) .nil)), (.t1 (.a1 .b (.a1 .n (.a1 .n .a0))) (.t1 .i .t0)), ?_⟩
      exact rfl

def upW (w : Nat) (a : List Int) (s i : Nat) : List Int := List.replicate w 0 ++ upR a s i
theorem Acj {w : Nat} {a : List Int} {s i : Nat} (h : i ≤ a.length) : (upW w a s i).length = w + a.length + 1 := by
  unfold upW
  rw [List.length_append, List.length_replicate, Pj h]
  omega
theorem Ajm {w : Nat} {a : List Int} {s : Nat} : List.replicate (w + a.length + 1) (0 : Int) = upW w a s 0 := by
  unfold upW
  rw [← Acl, List.replicate_append_replicate]
  rfl
theorem Aaw {w : Nat} {a : List Int} {s i j : Nat} : (upW w a s i).getD (w + j) 0 = (upR a s i).getD j 0 := by
  unfold upW
  rw [List.getD_eq_getElem?_getD, List.getD_eq_getElem?_getD, List.getElem?_append_right (by rw [List.length_replicate]; omega), List.length_replicate, Nat.add_sub_cancel_left]
theorem Ack {w : Nat} {a : List Int} {s i : Nat} : (upW w a s i).getD ((0 + (w + i)) * 1) 0 = (upN a s i).2 := by
  rw [Nat.mul_one, Nat.zero_add, Aaw]
  have h := @Pk a s i
  rwa [Nat.mul_one, Nat.zero_add] at h
theorem Xp {a : List Int} {s i : Nat} (h : i < a.length) : (upR a s i).getD (i + 1) 0 = 0 := by
  unfold upR D2
  rw [List.getD_eq_getElem?_getD, List.getElem?_append_right (by simp [E3])]
  simp only [List.length_append, E3, List.length_singleton, List.getElem?_replicate]
  split <;> rfl
theorem Xo {w : Nat} {a : List Int} {s i : Nat} {z : Int} (h : i < a.length) : ((upW w a s i).set ((0 + (w + i)) * 1) z).getD ((0 + (w + i + 1)) * 1) 0 = 0 := by
  rw [Nat.mul_one, Nat.zero_add, Nat.mul_one, Nat.zero_add, List.getD_eq_getElem?_getD, List.getElem?_set_ne (by omega), ← List.getD_eq_getElem?_getD, Nat.add_assoc, Aaw, Xp h]
theorem Aci {w : Nat} {a : List Int} {s i : Nat} (h : i < a.length) : ((upW w a s i).set ((0 + (w + i)) * 1) ((upN a s i).2 + loS (a.getD i 0) s)).set ((0 + (w + i + 1)) * 1) (hiS (a.getD i 0) s) = upW w a s (i + 1) := by
  have h1 := Pi (s := s) h
  simp only [Nat.mul_one, Nat.zero_add] at h1 ⊢
  unfold upW
  have hst : ∀ (l : List Int) (j : Nat) (z : Int), (List.replicate w 0 ++ l).set (w + j) z = List.replicate w 0 ++ l.set j z := fun l j z => by
    rw [List.set_append, if_neg (by rw [List.length_replicate]; omega), List.length_replicate, Nat.add_sub_cancel_left]
  rw [hst, Nat.add_assoc, hst, h1]
theorem Aas (l : List Int) : ∀ w, vl (List.replicate w 0 ++ l) = 2 ^ (64 * w) * vl l
  | 0 => by simp
  | w + 1 => by
    rw [List.replicate_succ, List.cons_append]
    show (0 : Int) + Bs * vl (List.replicate w 0 ++ l) = _
    rw [Aas l w, Int.zero_add, ← Int.mul_assoc, show 64 * (w + 1) = 64 + 64 * w by omega, Int.pow_add]
    rfl
theorem Ajl {w : Nat} {a : List Int} {s : Nat} (hs : s < 64) (ha : Av a) : Av (upW w a s a.length) := by
  unfold upW
  rw [Ml]
  intro x hx
  rcases List.mem_append.1 hx with hx | hx
  · rw [List.eq_of_mem_replicate hx]; decide
  · exact Xq hs ha x hx
theorem Ach {w : Nat} {a : List Int} {s : Nat} (hs : s ≤ 64) : vl (upW w a s a.length) = vl a * 2 ^ (64 * w + s) := by
  unfold upW
  rw [Ml, Aas, Mm hs, Int.pow_add, ← Int.mul_assoc, ← Int.mul_assoc, Int.mul_comm (2 ^ (64 * w))]
theorem Af1 {a : List Int} {x n : Nat} (ha : Av a) (hv : vl a = (x : Int)) : trm (upW (n / 64) a (n % 64) a.length) = lm ((x * 2 ^ n : Nat) : Int) := by
  have hs : n % 64 < 64 := Nat.mod_lt _ (by decide)
  refine Fo (Ajl hs ha) ?_
  rw [Ach (Nat.le_of_lt hs), hv, show 64 * (n / 64) + n % 64 = n by omega, Int.natCast_mul, Int.natCast_pow]
  rfl

theorem Xa (v : Int) (n : Nat) (hv : Al v ≤ 67108864) (hn : n ≤ 1099511627776) (ho : (lm v).length ≤ n / 64) : Spec Tryz.prog 33 [.n false .u64 (lm v), .i .i64 (n : Int)] (fun o => o = .ret (.t [.n false .u64 [], .i .i64 0])) := by
  refine Aw [(0, .n false .u64 (lm v)), (1, .i .i64 (n : Int))] rfl Tryz.func33 rfl (Zb rfl) fun Γ hN hds hL hR => ?_
  have hd := B2 77 hN
  have hlv := Bv hv
  have hTr : Spec Tryz.prog 72 [.n false .u64 (lm v)] (fun o => o = .ret (.n false .u64 (lm v))) := by have h := Ey (lm v) (by omega); rwa [Kl (Aeb _)] at h
  refine Zs <| Za rfl (hd 4 rfl) <| Za rfl (hd 5 rfl) <| Ab <| Ae <| Zs <| Zm rfl (hd 10 rfl) <| Ac (B0 (Ca rfl rfl) (by omega)) (hd 11 rfl) <| Zm rfl (hd 12 rfl) <| Bi 12 rfl rfl (Ay rfl) (hd 13 rfl) <| Bi 12 rfl rfl (B0 (Ce rfl rfl) (by omega)) (hd 14 rfl) ?_; refine Ac (Bg rfl rfl) (hd 15 rfl) <| Ab <| A6 rfl <| Aj <| Zs <| Zm rfl (hd 16 rfl) ?_
  refine Ag Tryz.f72 (hTr) rfl Tryz.func72 rfl rfl (Aa rfl Ad) (.cons .n .nil) (hd 17 rfl) ?_ (fun _ h => by simp at h)
  rintro _ ⟨⟩; refine Za rfl (hd 0 rfl) <| Ab <| Zs <| Zm rfl (hd 18 rfl) <| Ac (Gc rfl rfl (by decide) (r := ((n / 64 : Nat) : Int)) (by rw [show ((n : Int).tdiv 64) = ((n / 64 : Nat) : Int) from rfl, Ak (by omega) (by omega)])) (hd 19 rfl) <| Zm rfl (hd 20 rfl) <| Ac (Bk (K4 rfl rfl (by decide) rfl) (show V.i .i64 ((n : Int).tmod 64) = V.i .i64 ((n % 64 : Nat) : Int) from rfl)) (hd 21 rfl) <| Ac (D5 N5 Lm rfl (r := ((n % 64 : Nat) : Int)) (Bf (by omega) (by omega))) (hd 22 rfl) <| Za rfl (hd 6 rfl) <| Za rfl (hd 7 rfl) <| Ab <| Ae ?_; refine Zs <| Zm rfl (hd 23 rfl) <| Zm rfl (hd 24 rfl) <| Ac (Ar A7 rfl) (hd 25 rfl) <| Ac (E6 (F6 rfl rfl) (by omega)) (hd 26 rfl) <| Ab <| Cw rfl <| Zs <| Za rfl (hd 4 rfl) <| Za rfl (hd 5 rfl) <| Ab ?_; refine An ?_
  refine ⟨_, _, (.cons rfl (.cons rfl .nil)), (.t1 (.nil (fr := false) (k := .u64)) (.t1 .i .t0)), ?_⟩
  exact rfl

theorem Pc (v : Int) (n : Nat) (hv : Al v ≤ 67108864) (hn : n ≤ 1099511627776) : Spec Tryz.prog 33 [.n false .u64 (lm v), .i .i64 (n : Int)] (fun o => o = .ret (.t [.n false .u64 (lm ((v.natAbs / 2 ^ n : Nat) : Int)), .i .i64 0])) := by
  have hal : lm ((v.natAbs : Nat) : Int) = lm v := by unfold lm; rw [Int.natAbs_natCast]
  rcases Nat.lt_or_ge (n / 64) (lm v).length with h | h
  · have h1 := Afc v.natAbs n (by have : Al ((v.natAbs : Nat) : Int) = Al v := (by unfold Al; rw [Int.natAbs_natCast]); omega) (by rw [hal]; exact h)
    rwa [hal] at h1
  · have h1 := Xa v n hv hn h
    have h2 := Aka v.natAbs
    rw [hal] at h2
    have h3 : v.natAbs / 2 ^ n = 0 := Nat.div_eq_of_lt (Nat.lt_of_lt_of_le h2 (Nat.pow_le_pow_right (by decide) (by omega)))
    rw [h3, show ((0 : Nat) : Int) = 0 from rfl, Afm]
    exact h1

theorem Ry (x n : Nat) (hlx : (lm (x : Int)).length ≤ 1048576) (hn : n ≤ 536870912) : Spec Tryz.prog 34 [.n false .u64 (lm (x : Int)), .i .i64 (n : Int)] (fun o => o = .ret (.t [.n false .u64 (lm ((x * 2 ^ n : Nat) : Int)), .i .i64 0])) := by
  refine Aw [(0, .n false .u64 (lm (x : Int))), (1, .i .i64 (n : Int))] rfl Tryz.func34 rfl (Zb rfl) fun Γ hN hds hL hR => ?_
  have hd := B2 57 hN
  have hux := Cu (x : Int)
  have hs : n % 64 < 64 := Nat.mod_lt _ (by decide)
  refine Zs <| Za rfl (hd 4 rfl) <| Za rfl (hd 5 rfl) <| Ab <| Zs <| Zm rfl (hd 9 rfl) <| Ac (Gc rfl rfl (by decide) (r := ((n / 64 : Nat) : Int)) (by rw [show ((n : Int).tdiv 64) = ((n / 64 : Nat) : Int) from rfl, Ak (by omega) (by omega)])) (hd 10 rfl) <| Zm rfl (hd 11 rfl) <| Ac (Ar A7 rfl) (hd 12 rfl) <| Ac (Bd rfl rfl (r := ((n / 64 + (lm (x : Int)).length : Nat) : Int)) (by rw [Ak (by omega) (by omega)]; omega)) (hd 13 rfl) <| Ac (Bd rfl rfl (r := ((n / 64 + (lm (x : Int)).length + 1 : Nat) : Int)) (by rw [Ak (by omega) (by omega)]; omega)) (hd 14 rfl) ?_; refine A1 (Gv (m := n / 64 + (lm (x : Int)).length + 1) Lg rfl rfl rfl (by show 8 * (n / 64 + (lm (x : Int)).length + 1) ≤ _; omega) (by unfold maxLen; omega) rfl) (hd 15 rfl) <| Za rfl (hd 6 rfl) <| Ab <| Ae <| Ae <| Nv (H' := [⟨71, 1, 0, true, ints .u64 (upW (n / 64) (lm (x : Int)) (n % 64) 0)⟩]) (by rw [← Ajm]; rfl) <| Af <| Zm rfl (hd 16 rfl) <| Ac (Ar A7 rfl) (hd 17 rfl) <| Zm rfl (hd 18 rfl) <| Ab <| At ?_
  refine Ch (G := Nat) (fun i => i ≤ (lm (x : Int)).length) (fun i => [(18, .i .i64 (i : Int)), (7, .u), (8, .u), (19, .u), (20, .u), (21, .u), (22, .u), (23, .u), (24, .u), (25, .u), (26, .u), (27, .u), (28, .u), (29, .u), (30, .u), (31, .u), (32, .u), (33, .u), (34, .u), (35, .u), (36, .u), (37, .u), (38, .u), (39, .u), (40, .u), (41, .u), (42, .u), (43, .u), (44, .u), (45, .u), (46, .u), (47, .u), (48, .u), (49, .u), (50, .u), (51, .u), (52, .u), (53, .u), (54, .u)]) (fun i => [⟨71, 1, 0, true, ints .u64 (upW (n / 64) (lm (x : Int)) (n % 64) i)⟩]) (fun i => (lm (x : Int)).length - i) 0 ?_ ?_ rfl ?_
  · exact Nat.zero_le _
  · exact (.cons rfl (.v9 (.v9 (.v9 (.v5 (.u (.u (.u .nil))))))))
  · rintro i hc1
    have hf := Acj (w := n / 64) (s := n % 64) hc1
    have hc := Tp (Nat.le_of_lt hs) hux i
    have hx9 := A2 hux i
    have hh := K9 (x := ((lm (x : Int)).getD i 0)) (Nat.le_of_lt hs) hx9.1 hx9.2
    have hp2 := Ak5 hs
    refine Zs <| Ac (Ca rfl rfl) (hd 19 rfl) <| Ab <| Ae ?_
    refine Bh rfl (fun h1 => ?_) (fun h1 => ?_)
    · refine Aj <| Ae <| At <| Zs <| Zm rfl (hd 20 rfl) <| Ac (Cc (i := i) A7 rfl rfl (by first | rfl | omega) (by omega)) (hd 21 rfl) <| Ac (B8 Bu rfl rfl) (hd 22 rfl) <| Za rfl (hd 7 rfl) <| Za rfl (hd 8 rfl) <| Ab <| Ae <| Af ?_; refine Zm rfl (hd 23 rfl) <| Zm rfl (hd 24 rfl) <| Ac (Gc rfl rfl (by decide) (r := ((n / 64 : Nat) : Int)) (by rw [show ((n : Int).tdiv 64) = ((n / 64 : Nat) : Int) from rfl, Ak (by omega) (by omega)])) (hd 25 rfl) <| Zm rfl (hd 26 rfl) <| Ac (Bd rfl rfl (r := ((n / 64 + i : Nat) : Int)) (by rw [Ak (by omega) (by omega)]; omega)) (hd 27 rfl) <| Ac (Ck (i := n / 64 + i) A7 rfl rfl rfl (by first | rfl | omega) (by omega) rfl) (hd 28 rfl) <| Ac (Bk (Ee Bu rfl rfl (by omega)) (show V.i .u64 _ = V.i .u64 ((upN (lm (x : Int)) (n % 64) i).2) from congrArg (V.i .u64) Ack)) (hd 29 rfl) <| Zm rfl (hd 30 rfl) <| Zm rfl (hd 31 rfl) <| Ac (Bk (K4 rfl rfl (by decide) rfl) (show V.i .i64 ((n : Int).tmod 64) = V.i .i64 ((n % 64 : Nat) : Int) from rfl)) (hd 32 rfl) <| Ac (D5 N5 Lm rfl (r := ((n % 64 : Nat) : Int)) (Bf (by omega) (by omega))) (hd 33 rfl) <| Ac (Bk (Gz rfl rfl (by omega) rfl) (show V.i .u64 _ = V.i .u64 (loS ((lm (x : Int)).getD i 0) (n % 64)) from congrArg (V.i .u64) (G4 (by omega)))) (hd 34 rfl) <| Ac (Bk (Gd (by simp) rfl rfl rfl) (show V.i .u64 _ = V.i .u64 ((upN (lm (x : Int)) (n % 64) i).2 + loS ((lm (x : Int)).getD i 0) (n % 64)) from congrArg (V.i .u64) (P5 (by omega) hc.1 hc.2 hx9.1).1)) (hd 35 rfl) ?_; refine Ac (Ck (i := n / 64 + i) A7 rfl rfl rfl (by first | rfl | omega) (by omega) rfl) (hd 36 rfl) <| A3 (Cf rfl rfl rfl Bu (by omega)) <| Ab <| Af <| Zm rfl (hd 37 rfl) <| Zm rfl (hd 38 rfl) <| Ac (Gc rfl rfl (by decide) (r := ((n / 64 : Nat) : Int)) (by rw [show ((n : Int).tdiv 64) = ((n / 64 : Nat) : Int) from rfl, Ak (by omega) (by omega)])) (hd 39 rfl) <| Zm rfl (hd 40 rfl) <| Ac (Bd rfl rfl (r := ((n / 64 + i : Nat) : Int)) (by rw [Ak (by omega) (by omega)]; omega)) (hd 41 rfl) <| Ac (Bd rfl rfl (r := ((n / 64 + i + 1 : Nat) : Int)) (by rw [Ak (by omega) (by omega)]; omega)) (hd 42 rfl) <| Ac (Ck (i := n / 64 + i + 1) A7 rfl rfl rfl (by first | rfl | omega) (by omega) rfl) (hd 43 rfl) <| Ac (Bk (Ee Bu rfl rfl (by rw [List.length_set]; omega)) (show V.i .u64 _ = V.i .u64 (0) from congrArg (V.i .u64) (Xo (by omega)))) (hd 44 rfl) <| Zm rfl (hd 45 rfl) ?_; refine Ac (Bk (Eh rfl rfl (by omega) rfl) (show V.i .u64 _ = V.i .u64 (((lm (x : Int)).getD i 0) / 2) from congrArg (V.i .u64) (Ajw hx9.1))) (hd 46 rfl) <| Zm rfl (hd 47 rfl) <| Ac (Bk (K4 rfl rfl (by decide) rfl) (show V.i .i64 ((n : Int).tmod 64) = V.i .i64 ((n % 64 : Nat) : Int) from rfl)) (hd 48 rfl) <| Ac (Bm rfl rfl (r := ((63 - n % 64 : Nat) : Int)) (by rw [Ak (by omega) (by omega)]; omega)) (hd 49 rfl) <| Ac (D5 N5 Lm rfl (r := ((63 - n % 64 : Nat) : Int)) (Bf (by omega) (by omega))) (hd 50 rfl) <| Ac (Bk (Eh rfl rfl (by omega) rfl) (show V.i .u64 _ = V.i .u64 (hiS ((lm (x : Int)).getD i 0) (n % 64)) from congrArg (V.i .u64) ((Hy (by omega)).trans (Pr hs)))) (hd 51 rfl) <| Ac (Bk (Gd (by simp) rfl rfl rfl) (show V.i .u64 _ = V.i .u64 (hiS ((lm (x : Int)).getD i 0) (n % 64)) from congrArg (V.i .u64) (Alz hh.1 (by omega)))) (hd 52 rfl) <| Ac (Ck (i := n / 64 + i + 1) A7 rfl rfl rfl (by first | rfl | omega) (by omega) rfl) (hd 53 rfl) ?_
      refine A3 (Cf rfl rfl rfl Bu (by rw [List.length_set]; omega)) <| Ab <| Af <| Ac (Bd rfl rfl (r := ((i + 1 : Nat) : Int)) (by rw [Ak (by omega) (by omega)]; omega)) (hd 54 rfl) <| Zm rfl (hd 18 rfl) <| Ab ?_
      refine ⟨i + 1, ?_, ?_, (by show [(⟨71, 1, 0, true, ints .u64 _⟩ : Ob)] = [⟨71, 1, 0, true, ints .u64 _⟩]; rw [Aci (by omega)]), Bj 78 rfl rfl ?_⟩
      · omega
      · omega
      · exact (.cons rfl (.v9 (.v9 (.v9 (.v5 (.u (.u (.u .nil))))))))
    · obtain rfl : i = (lm (x : Int)).length := by omega
      refine Br <| Ae <| Jm (k := .u64) (l := (upW (n / 64) (lm (x : Int)) (n % 64) (lm (x : Int)).length)) (l' := (upW (n / 64) (lm (x : Int)) (n % 64) (lm (x : Int)).length)) 6 rfl rfl (by omega) (by rw [List.drop_zero, List.take_of_length_le (by omega)]) hL <| Af <| Zm rfl (hd 55 rfl) ?_
      refine Ag Tryz.f66 (D4 (upW (n / 64) (lm (x : Int)) (n % 64) (lm (x : Int)).length) (by omega)) rfl Tryz.func66 rfl rfl (Aa rfl Ad) (.cons .n .nil) (hd 56 rfl) ?_ (fun _ h => by simp at h)
      rintro _ ⟨⟩; refine Za rfl (hd 4 rfl) <| Za rfl (hd 5 rfl) <| Ab <| An ?_
      refine ⟨_, _, (.cons rfl (.cons rfl .nil)), (.t1 .nn (.t1 .i .t0)), ?_⟩
      rw [Af1 (Cu _) (Gb (Int.natCast_nonneg _))]

theorem Ahb {H : List Ob} {a b : Value} (ha : a.oneCell' = true) (hb : b.oneCell' = true) : [V.c a, V.c b].all (Ij H) = true := by simp [Ij, Th, ha, hb]
theorem U6 {a b : Value} (ha : a.oneCell' = true) (hb : b.oneCell' = true) : [V.c a, V.c b].all Th = true := by simp [Th, ha, hb]

theorem Wt (a b ue : Value) (ha : a.oneCell' = true) (hb : b.oneCell' = true) (hu : ue.oneCell' = true) : Spec Tryz.prog 24 [.c .nilIface, .a [.c a, .c b], .c ue] (fun o => o = .ret (.t [.a [.c a, .c b], .c ue])) := by
  refine Aw [(0, .c .nilIface), (1, .a [.c a, .c b]), (2, .c ue)] rfl Tryz.func24 rfl (Zb rfl) fun Γ hN hds hL hR => ?_
  have hd := B2 26 hN
  refine Zs <| A1 (Bn (id := 0) (n := 2) rfl (U6 ha hb) rfl (by decide) rfl) (hd 4 rfl) <| A1 (Aq (id := 1) Az (by decide) rfl (by decide) rfl) (hd 6 rfl) <| Za rfl (hd 7 rfl) <| Ab <| Ae <| Zs <| Zm rfl (hd 11 rfl) <| Ac (M8 Jg rfl) (hd 12 rfl) <| Ab <| Cw rfl ?_; refine Zs <| Ac (Au Bw rfl rfl rfl rfl) (hd 13 rfl) <| Zm rfl (hd 14 rfl) <| A3 (Ah rfl rfl rfl B6 rfl (Ahb ha hb) (Zb rfl)) <| Za rfl (hd 7 rfl) <| Ab <| An ?_
  refine ⟨_, _, (.cons (ResV.cell Bw rfl rfl rfl rfl) (.cons rfl .nil)), (.t1 (.a1 .c (.a1 .c .a0)) (.t1 .c .t0)), ?_⟩
  exact rfl

theorem Ws (a b ue : Value) (ha : a.oneCell' = true) (hb : b.oneCell' = true) (hu : ue.oneCell' = true) (e : Int) : Spec Tryz.prog 24 [.c (.iface 100 (.agg #[.int .i64 e])), .a [.c a, .c b], .c ue] (fun o => o = .ret (.t [(.a [.b false, .n false .u64 []]), .i .i64 e])) := by
  refine Aw [(0, .c (.iface 100 (.agg #[.int .i64 e]))), (1, .a [.c a, .c b]), (2, .c ue)] rfl Tryz.func24 rfl (Zb rfl) fun Γ hN hds hL hR => ?_
  have hd := B2 26 hN
  refine Zs <| A1 (Bn (id := 0) (n := 2) rfl (U6 ha hb) rfl (by decide) rfl) (hd 4 rfl) <| A1 (Aq (id := 1) Az (by decide) rfl (by decide) rfl) (hd 6 rfl) <| Za rfl (hd 7 rfl) <| Ab <| Ae <| Zs <| Zm rfl (hd 11 rfl) <| Ac (M7 Jg rfl) (hd 12 rfl) <| Ab <| A6 rfl ?_; refine Aj <| Zs <| Zm rfl (hd 16 rfl) <| Ac (Yr Kz rfl) (hd 17 rfl) <| Zm rfl (hd 15 rfl) <| Ac (Ai rfl rfl) (hd 18 rfl) <| Ac (Ai rfl rfl) (hd 19 rfl) <| A1 (Aq (id := 2) H8 (by decide) rfl (by decide) rfl) (hd 8 rfl) <| A3 (Ah rfl rfl rfl Ms rfl rfl (Zb rfl)) <| Za rfl (hd 9 rfl) <| Ab <| Ae ?_; refine Zs <| Zm rfl (hd 20 rfl) <| Ac (Ha rfl) (hd 21 rfl) <| Ab <| A6 rfl <| Aj <| Zs <| A1 (Aq (id := 3) Az (by decide) rfl (by decide) rfl) (hd 10 rfl) <| Ab <| Ae <| Bo (n := 5) _ rfl B9 ?_; refine Z1 0 (Am (Au Bw rfl rfl rfl rfl) (hd 23 rfl)) rfl ?_
  refine J8 1 3 ?_ ?_ rfl rfl (by kernel_rfl)
  · refine Ahs (A5 Gh rfl rfl rfl) (hd 24 rfl) ?_
    refine J8 2 3 ?_ ?_ rfl rfl (by kernel_rfl)
    · refine Ahs (A9 Cr rfl rfl rfl) (hd 25 rfl) ?_
      refine Be 3 ?_ rfl (by kernel_rfl)
      refine Cl (Ah rfl rfl rfl B6 rfl rfl (Zb rfl)) rfl <| Z1 4 (Am (Cm rfl) (hd 7 rfl)) rfl <| Bx (by kernel_rfl) <| An ?_
      refine ⟨_, _, (.cons (ResV.cell Bw rfl rfl rfl rfl) (.cons rfl .nil)), (.t1 (.a1 .b (.a1 (.nil (fr := false) (k := .u64)) .a0)) (.t1 .i .t0)), ?_⟩
      exact rfl
    · refine Cl (Ah rfl rfl rfl B6 rfl rfl (Zb rfl)) rfl <| Z1 2 (Am (A9 Cr rfl rfl rfl) (hd 25 rfl)) rfl <| Z1 4 (Am (Cm rfl) (hd 7 rfl)) rfl <| Bx (by kernel_rfl) <| An ?_
      refine ⟨_, _, (.cons (ResV.cell Bw rfl rfl rfl rfl) (.cons rfl .nil)), (.t1 (.a1 .b (.a1 (.nil (fr := false) (k := .u64)) .a0)) (.t1 .i .t0)), ?_⟩
      exact rfl
  · refine Cl (Ah rfl rfl rfl B6 rfl rfl (Zb rfl)) rfl <| Z1 1 (Am (A5 Gh rfl rfl rfl) (hd 24 rfl)) rfl <| Z1 2 (Am (A9 Cr rfl rfl rfl) (hd 25 rfl)) rfl <| Z1 4 (Am (Cm rfl) (hd 7 rfl)) rfl <| Bx (by kernel_rfl) <| An ?_
    refine ⟨_, _, (.cons (ResV.cell Bw rfl rfl rfl rfl) (.cons rfl .nil)), (.t1 (.a1 .b (.a1 (.nil (fr := false) (k := .u64)) .a0)) (.t1 .i .t0)), ?_⟩
    exact rfl

theorem Ka : Clo Tryz.prog 23 25 28 2 true 100 (.a [.b false, .n false .u64 []]) where
  shape := ⟨Tryz.f23, Tryz.f24, 24, 29, 20, "ratio.go:197", Tryz.func23, rfl, rfl, rfl, Tryz.func24, rfl, rfl, fun us ue hl h1 h2 => by
    obtain ⟨a, b, rfl⟩ : ∃ a b, us = [a, b] := by
      match us, hl with
      | [a, b], _ => exact ⟨a, b, rfl⟩
    exact Wt a b ue (h1 a (by simp)) (h1 b (by simp)) h2, fun us ue e hl h1 h2 => by
    obtain ⟨a, b, rfl⟩ : ∃ a b, us = [a, b] := by
      match us, hl with
      | [a, b], _ => exact ⟨a, b, rfl⟩
    exact Ws a b ue (h1 a (by simp)) (h1 b (by simp)) h2 e⟩
  hm := B9
  hld := .inl ⟨rfl, Bw⟩
  hsz := B6
  hle := Cr
  hz1 := rfl
  hz2 := rfl
  hz3 := fun _ => rfl

theorem Afi (s : Bool) (l d : List Int) (n m : Int) (y0 : Nat) (hy0 : Rw d y0) (h00 : y0 ≠ 0) (hn8 : -1099511627776 ≤ n) (hn9 : n ≤ 1099511627776) (hm0 : 0 ≤ m) (hm2 : m ≤ 2) (sg : Bool) (p q : Nat) (lp : Al (p : Int) ≤ 67108864) (lq : Al (q : Int) ≤ 67108864) (hPa : Spec Tryz.prog 29 [(.a [.b s, .n false .u64 l, .n false .u64 d])] (fun o => o = .ret (.t [.b sg, .n false .u64 (lm ((p : Nat) : Int)), .n false .u64 (lm ((q : Nat) : Int))]))) (hp : p ≠ 0) (hn : 0 < n) (hov : (Al (p : Int) : Int) - (Al (q : Int) : Int) + n > 67108865) : Spec Tryz.prog 6 [(.a [.b s, .n false .u64 l, .n false .u64 d]), .i .i64 n, .i .i64 m] (fun o => o = .ret (.t [(.a [.b false, .n false .u64 []]), .i .i64 3])) := by
  refine D6 [(0, (.a [.b s, .n false .u64 l, .n false .u64 d])), (1, .i .i64 n), (2, .i .i64 m)] rfl Tryz.func6 rfl (Zb rfl) fun Γ 𝓡 hN hds hL hR hE => ?_
  have hd := B2 146 hN
  have hl0 := mt lm_len0.1 hp
  have hLP : Spec Tryz.prog 30 [.n false .u64 (lm ((p : Nat) : Int))] (fun o => o = .ret (.i .i64 (Al (p : Int) : Int))) := Dd (p : Int) (by have := Bv lp; omega)
  have hLQ : Spec Tryz.prog 30 [.n false .u64 (lm ((q : Nat) : Int))] (fun o => o = .ret (.i .i64 (Al (q : Int) : Int))) := Dd (q : Int) (by have := Bv lq; omega)
  refine Dr <| Af <| A1 (Bn (id := 0) (n := 3) rfl rfl rfl (by decide) rfl) (hd 3 rfl) <| A1 (Aq (id := 1) Az (by decide) rfl (by decide) rfl) (hd 6 rfl) <| A1 (Aq (id := 2) Ep (by decide) rfl (by decide) rfl) (hd 7 rfl) <| Ab <| Dj (g := 23) (caps := [.p 1 0 0, .p 2 0 0]) 3 [_] (ops := [_, _]) rfl Tryz.func23 rfl rfl rfl hds hR hL hE <| Ac (F5 (Aa rfl (Aa rfl Ad))) (hd 23 rfl) <| Ab ?_
  refine ⟨rfl, rfl, rfl, ?_⟩
  intro Γ1 hN1 hL hR1
  replace hd : ∀ d, Nat.blt d 146 = true → d < Γ1.N := fun d h => by rw [hN1]; exact hd d h
  refine Ab <| Zs <| Ac (Au Ap rfl rfl rfl rfl) (hd 24 rfl) <| A1 (Do (id := 3) (xs := [.tmp 24]) E0 rfl (Aa rfl Ad) rfl (Cz rfl) (by decide) rfl) (hd 25 rfl) <| Dy 25 (sz := 3) [[V.b s, V.n false .u64 l, V.n false .u64 d]] rfl rfl rfl rfl (by simp) (by simp [Ef]) (by decide) hL ?_
  refine Ag Tryz.f25 (Io s l d y0 hy0 h00) rfl Tryz.func25 rfl rfl (Aa rfl Ad) (.cons .l .nil) (hd 26 rfl) ?_ (fun _ h => by simp at h)
  rintro _ ⟨⟩; refine Ab <| Ae <| Zs <| Zm rfl (hd 27 rfl) <| Ac (B0 (Ca rfl rfl) (by omega)) (hd 28 rfl) <| Zm rfl (hd 29 rfl) <| Bi 29 rfl rfl (Ay rfl) (hd 30 rfl) <| Bi 29 rfl rfl (B0 (Ce rfl rfl) (by omega)) (hd 31 rfl) <| Ac (Bg rfl rfl) (hd 32 rfl) <| Ab <| A6 rfl <| Aj ?_; refine Ae <| Zs <| Zm rfl (hd 34 rfl) <| Ac (B0 (Ca rfl rfl) (by omega)) (hd 35 rfl) <| Zm rfl (hd 36 rfl) <| Bi 36 rfl rfl (Ay rfl) (hd 37 rfl) <| Bi 36 rfl rfl (B0 (Ce rfl rfl) (by omega)) (hd 38 rfl) <| Ac (Bg rfl rfl) (hd 39 rfl) <| Ab <| A6 rfl <| Aj <| Ae ?_; refine Af <| Ac (Im (v := .agg #[.func (.func 26) #[] #[], .func (.func 27) #[] #[], .func (.func 28) #[] #[]]) (y := .a [.f 26 [], .f 27 [], .f 28 []]) (fun _ _ _ _ => ⟨[.func (.func 26) #[] #[], .func (.func 27) #[] #[], .func (.func 28) #[] #[]], rfl, _, _, rfl, ⟨[], rfl, rfl⟩, _, _, rfl, ⟨[], rfl, rfl⟩, _, _, rfl, ⟨[], rfl, rfl⟩, rfl⟩) (by intro a dst type pos after g w2; kernel_rfl)) (hd 41 rfl) <| A1 (Aq (id := 4) Jr (by decide) rfl (by decide) rfl) (hd 8 rfl) <| A3 (Ah rfl rfl rfl Mt rfl rfl (Zb rfl)) <| Ab <| Zs <| Ac (Au Ap rfl rfl rfl rfl) (hd 43 rfl) ?_
  refine Ag Tryz.f29 (hPa) rfl Tryz.func29 rfl rfl (Aa rfl Ad) (.cons (.a1 .b (.a1 .n (.a1 .n .a0))) .nil) (hd 44 rfl) ?_ (fun _ h => by simp at h)
  rintro _ ⟨⟩; refine Zm rfl (hd 42 rfl) <| Ac (Ai rfl rfl) (hd 45 rfl) <| Ac (Ai rfl rfl) (hd 46 rfl) <| Ac (Ai rfl rfl) (hd 47 rfl) <| Za rfl (hd 9 rfl) <| Za rfl (hd 10 rfl) <| Za rfl (hd 11 rfl) <| Ab <| Zs <| Zm rfl (hd 48 rfl) <| Zm rfl (hd 49 rfl) <| Ac (Bp (is := [0, 1]) (xs := [.tmp 48, .tmp 49]) Az C0 rfl (Aa rfl (Aa rfl Ad)) rfl (by first | (simp [Ci, cellsV]; done) | (simp [Ci, cellsV, old]; done)) (Cd rfl) rfl) (hd 50 rfl) ?_; refine A1 (Aq (id := 5) Az (by decide) rfl (by decide) rfl) (hd 12 rfl) <| A3 (Ah rfl rfl rfl B6 rfl rfl (Zb rfl)) <| Ab <| Ae <| Zs <| Zm rfl (hd 51 rfl) <| Ac (Ar A7 rfl) (hd 52 rfl) <| Ac (B0 (Cq rfl rfl) (by omega)) (hd 53 rfl) <| Ab <| A6 rfl <| Aj <| Ae ?_; refine Zs <| Zm rfl (hd 55 rfl) <| Ac (E6 (Ce rfl rfl) (by omega)) (hd 56 rfl) <| Ab <| Cw rfl <| Ae <| Zs <| Zm rfl (hd 57 rfl) ?_
  refine Ag Tryz.f30 (hLP) rfl Tryz.func30 rfl rfl (Aa rfl Ad) (.cons .n .nil) (hd 58 rfl) ?_ (fun _ h => by simp at h)
  rintro _ ⟨⟩; refine Zm rfl (hd 59 rfl) ?_
  refine Ag Tryz.f30 (hLQ) rfl Tryz.func30 rfl rfl (Aa rfl Ad) (.cons .n .nil) (hd 60 rfl) ?_ (fun _ h => by simp at h)
  rintro _ ⟨⟩; refine Ac (Bm rfl rfl (r := (Al (p : Int) : Int) - (Al (q : Int) : Int)) (by rw [Ak (by omega) (by omega)] <;> omega)) (hd 61 rfl) <| Zm rfl (hd 62 rfl) <| Ac (Bd rfl rfl (r := (Al (p : Int) : Int) - (Al (q : Int) : Int) + n) (by rw [Ak (by omega) (by omega)] <;> omega)) (hd 63 rfl) <| Ac (E6 (Ce rfl rfl) hov) (hd 64 rfl) <| Ab <| Cw rfl <| Zs <| Ac (Bp (is := []) (xs := []) (pls := []) Az Hr rfl Ad rfl trivial (Cd rfl) rfl) (hd 65 rfl) <| A3 (Ah rfl rfl rfl B6 rfl rfl (Zb rfl)) <| A3 (Ah rfl rfl rfl E5 rfl rfl (Zb rfl)) <| Ab <| An ?_; refine Clo.fin Ka (m := 3) (i := 1) (j := 2) (Zb rfl) rfl rfl rfl rfl ?_
  refine ⟨_, _, (.cons (ResV.cell Bw rfl rfl rfl rfl) (.cons (ResV.cell1 Cr rfl rfl rfl) .nil)), (.t1 (.a1 .b (.a1 (.nil (fr := false) (k := .u64)) .a0)) (.t1 .i .t0)), ?_⟩
  exact rfl

abbrev aWv (i : Nat) (v : Int) : V := .a [.b (decide (v < 0)), .o i 0 0 (lm v).length]
abbrev aWr (i : Nat) (b : Bool) (r : List Int) : V := .a [.b b, .o i 0 0 r.length]
abbrev aT (i j : Nat) (v : Int) (b : Bool) (r : List Int) : V := .t [aWv i v, aWr j b r, .i .i64 0]
abbrev aZ : V := .a [.b false, .n false .u64 []]
abbrev aTz : V := .t [aZ, aZ, .i .i64 3]
abbrev aE : Ob := ⟨25, 2, 1, true, [.b false, .c (.slice none 0 0)]⟩
abbrev aHo : Ob := ⟨0, 1, 0, true, []⟩
abbrev aO1 (i : Nat) (v : Int) : Ob := ⟨25, 2, 1, true, [.b (decide (v < 0)), .o i 0 0 (lm v).length]⟩
abbrev aO2 (i : Nat) (b : Bool) (r : List Int) : Ob := ⟨25, 2, 1, true, [.b b, .o i 0 0 r.length]⟩
abbrev aOZ : Ob := ⟨25, 2, 1, true, [.b false, .n false .u64 []]⟩
abbrev aRw (r : List Int) : Ob := ⟨71, 1, 0, true, ints .u64 r⟩
abbrev aH (s : Bool) (l d : List Int) (x y : Ob) (r : List Ob) : List Ob := ⟨27, 3, 0, true, [.b s, .n false .u64 l, .n false .u64 d]⟩ :: ⟨25, 2, 0, true, [.b false, .c (.slice none 0 0)]⟩ :: ⟨28, 1, 0, true, [.i .i64 0]⟩ :: ⟨27, 3, 0, false, []⟩ :: ⟨63, 3, 0, true, [.f 26 [], .f 27 [], .f 28 []]⟩ :: x :: y :: r
abbrev aA (sg : Bool) (f : Bool) (N : List Int) : Ob := ⟨25, 2, 0, true, [.b sg, .n f .u64 N]⟩
end Go.Proofs.YtnadmljoefecfaaGreatDoor.Vc
