/- surdlaw06.WholeDivisors answers true for every two numbers of bulk at most 1048576, and leaves its input as it was: the greatest common divisor with its factors, inverses Texts joined: Ym, Yn, Yo, Yp, Yq, Ys, Yz, Pa, Pb, Pc, Pd, Pe, Pf, Pg, Ph, Pi, Pj, Pk, Pl, Pm, Pp, Pq, Pr, Pt, Pv, Ld, Pw, Px, Py, Pz, Za, Zb, Zc, Zd, Zf, Zg, Lz. -/
import Derived.Test.YthbbbopbglbagaaK6
set_option linter.unusedVariables false
set_option linter.unusedSimpArgs false
set_option maxHeartbeats 4000000
namespace Go.Proofs.Ythbbbopbglbagaa.Vc
open Go Go.RowKit
theorem Ue (s t : Bool) (a b : List Int) (v w : Int) (la : a.length < 1099511627776) (lb : b.length < 1099511627776) (ua : A3 a) (ub : A3 b) (ev : sv s a = v) (ew : sv t b = w) (hv : Bm v ≤ 67108864) (hw : Bm w ≤ 67108864) (h0 : w ≠ 0) : Spec Try.prog 66 [.a [.b s, .n false .u64 a], .a [.b t, .n false .u64 b], .i .i64 4] (fun o => o = .ret (.t [.a [.b (decide ((wq 4 v w) < 0)), .n true .u64 (lm (wq 4 v w))], .a [.b (decide ((v - wq 4 v w * w) < 0)), .n true .u64 (lm (v - wq 4 v w * w))], .i .i64 0])) := by
  refine Az [(0, .a [.b s, .n false .u64 a]), (1, .a [.b t, .n false .u64 b]), (2, .i .i64 4)] rfl Try.func66 rfl (zlb rfl) fun Γ hN hds hL hR => ?_
  have hd := B5 103 hN
  have hlv := Bf hv
  have hlw := Bf hw
  obtain ⟨hx, hr0, hr1, hq0⟩ := Er (v := v) h0
  have hle := A5 (v := qn v w) (w := v) Qu
  have hlr := A5 (v := rn v w) (w := w) (Mz h0).1
  have hlR := Bf (v := rn v w) (by omega)
  have habs : lm (w.natAbs : Int) = lm w := by unfold lm; rw [Int.natAbs_natCast]
  have hlenw : Bm (w.natAbs : Int) = Bm w := by unfold Bm; rw [Int.natAbs_natCast]
  have hS := Aat (w.natAbs : Int) (rn v w) hr0 (by omega) (by omega)
  rw [habs] at hS
  have hwl := Hi (k := 4) (v := v) h0
  refine zsr <| Ay (Br (id := 0) (n := 2) rfl rfl rfl (by decide) rfl) (hd 3 rfl) <| Ay (Br (id := 1) (n := 2) rfl rfl rfl (by decide) rfl) (hd 4 rfl) <| Ay (An (id := 2) At (by decide) rfl (by decide) rfl) (hd 6 rfl) <| Ay (An (id := 3) At (by decide) rfl (by decide) rfl) (hd 7 rfl) <| zas rfl (hd 8 rfl) <| Ab <| Af <| Be (n := 6) _ rfl B2 <| Ax 0 [1, 3, 4, 5] (Ao (Ah Aq rfl rfl rfl rfl) (hd 16 rfl)) rfl <| Ax 2 [3, 4, 5] (Ao (Ah Aq rfl rfl rfl rfl) (hd 18 rfl)) rfl ?_
  refine Bb 1 ?_ rfl (by kernel_rfl)
  refine A4 Try.f32 (Hm s a v la ua ev) rfl Try.func32 rfl rfl (Aa rfl Ad) (.cons (.a1 .b (.a1 .n .a0)) .nil) (hd 17 rfl) ?_ (fun ch hp => by simp at hp)
  rintro y hy; injection hy with hy; subst hy
  refine Bb 3 ?_ rfl (by kernel_rfl)
  refine A4 Try.f32 (Hm t b w lb ub ew) rfl Try.func32 rfl rfl (Aa rfl Ad) (.cons (.a1 .b (.a1 .n .a0)) .nil) (hd 19 rfl) ?_ (fun ch hp => by simp at hp)
  rintro y hy; injection hy with hy; subst hy
  refine Bb 4 ?_ rfl (by kernel_rfl)
  refine A7 (Ae rfl rfl rfl Au rfl rfl (zlb rfl)) rfl ?_
  refine Bb 5 ?_ rfl (by kernel_rfl)
  refine A7 (Ae rfl rfl rfl Au rfl rfl (zlb rfl)) rfl <| Bi (by kernel_rfl) <| zsr <| Ac (Bd Bp rfl rfl rfl) (hd 21 rfl) <| Ac (A8 Ce rfl rfl rfl) (hd 22 rfl) <| Ac (Bd Bp rfl rfl rfl) (hd 23 rfl) <| Ac (A8 Ce rfl rfl rfl) (hd 24 rfl) ?_
  refine Aj Try.f83 (Vd v w hv hw h0) rfl Try.func83 rfl rfl (Aa rfl (Aa rfl Ad)) (.cons .n (.cons .n .nil)) (hd 25 rfl) ?_ (fun ch hp => by simp at hp)
  rintro _ ⟨⟩; refine zmv rfl (hd 20 rfl) <| Ac (Ak rfl rfl) (hd 26 rfl) <| Ac (Ak rfl rfl) (hd 27 rfl) <| Ac (Ak rfl rfl) (hd 28 rfl) <| zas rfl (hd 9 rfl) <| zas rfl (hd 10 rfl) <| zas rfl (hd 11 rfl) <| Ab <| Af <| zsr <| zmv rfl (hd 29 rfl) <| Ac (Cd (Cm rfl rfl) (by simp)) (hd 30 rfl) ?_; refine Ab <| Bl rfl <| Am <| Af <| Be (n := 9) _ rfl B2 <| Ax 0 [1, 4, 7, 8] (Ao (Bd Cf rfl rfl rfl) (hd 34 rfl)) rfl <| zal 1 (Ao (A8 C5 rfl rfl rfl) (hd 35 rfl)) rfl <| Ax 2 [3, 4, 7, 8] (Ao (Bd Cf rfl rfl rfl) (hd 36 rfl)) rfl <| zal 3 (Ao (A8 C5 rfl rfl rfl) (hd 37 rfl)) rfl <| zal 4 (Ao (B0 (Im Qo rfl rfl) (show V.b _ = V.b (ng v w) from rfl)) (hd 38 rfl)) rfl <| zal 5 (Ao (Bd Cf rfl rfl rfl) (hd 39 rfl)) rfl <| zal 6 (Ao (A8 C5 rfl rfl rfl) (hd 40 rfl)) rfl <| zal 7 (Ao (Cr rfl) (hd 12 rfl)) rfl ?_; refine zal 8 (Ao (Cr rfl) (hd 13 rfl)) rfl <| Bi (by kernel_rfl) ?_
  refine Cu (G := Int × Int × Bool) (fun g => sgd (ng v w) g.1 = (wq 4 v w) ∧ sgd g.2.2 g.2.1 = (v - wq 4 v w * w) ∧ 0 ≤ g.1 ∧ 0 ≤ g.2.1) (fun g => [(9, .n false .u64 (lm g.1)), (10, .n false .u64 (lm g.2.1)), (13, .b g.2.2), (8, .u), (11, .u), (41, .u), (42, .u), (43, .u), (44, .u), (45, .u), (46, .u), (47, .u), (48, .u), (49, .u), (50, .u), (51, .u), (52, .u), (53, .u), (54, .u), (55, .u), (56, .u), (57, .u), (58, .u), (59, .u), (60, .u), (61, .u), (62, .u), (63, .u), (64, .u), (65, .u), (66, .u), (67, .u), (68, .u), (69, .u), (70, .u), (71, .u), (72, .u), (73, .u), (74, .u), (75, .u), (76, .u), (77, .u), (78, .u)]) ?_ ?_
  · refine Af <| Be (n := 18) _ rfl B2 <| Ax 0 [1, 2, 3, 4, 5, 6, 7, 8, 9, 10, 11, 12, 13, 14, 15, 16, 17] (Ao (A0 rfl) (hd 41 rfl)) rfl ?_
    refine Bb 1 ?_ rfl (by kernel_rfl)
    refine A4 Try.f33 (Ek (rn v w) (by omega)) rfl Try.func33 rfl rfl (Aa rfl Ad) (.cons .n .nil) (hd 42 rfl) ?_ (fun ch hp => by simp at hp)
    rintro _ ⟨⟩; refine Ax 2 [3, 4, 5, 6, 7, 8, 9, 10, 11, 12, 13, 14, 15, 16, 17] (Ao (C0 rfl rfl) (hd 43 rfl)) rfl <| zal 3 (Ao (A0 rfl) (hd 44 rfl)) rfl ?_
    refine Tq 44 rfl (fun h2 => ?_) (fun h2 => ?_)
    · have hrn : rn v w ≠ 0 := fun e => by have := La.2 e; omega
      refine Ax 5 [6, 16, 17] (De 44 rfl rfl (A0 rfl) (hd 46 rfl)) rfl <| Ax 7 [16, 17] (De 44 rfl rfl (A0 rfl) (hd 48 rfl)) rfl <| Ax 8 [16, 17] (De 44 rfl rfl (A0 rfl) (hd 49 rfl)) rfl <| Ax 9 [10, 16, 17] (De 44 rfl rfl (Bd Bp rfl rfl rfl) (hd 50 rfl)) rfl <| Ax 10 [16, 17] (De 44 rfl rfl (A8 Ce rfl rfl rfl) (hd 51 rfl)) rfl <| Ax 11 [16, 17] (De 44 rfl rfl (A0 rfl) (hd 52 rfl)) rfl <| Ax 12 [13, 16, 17] (De 44 rfl rfl (Bd Cf rfl rfl rfl) (hd 53 rfl)) rfl <| Ax 13 [16, 17] (De 44 rfl rfl (A8 C5 rfl rfl rfl) (hd 54 rfl)) rfl <| Ax 14 [15, 16, 17] (De 44 rfl rfl (Bd Cf rfl rfl rfl) (hd 55 rfl)) rfl <| Ax 15 [16, 17] (De 44 rfl rfl (A8 C5 rfl rfl rfl) (hd 56 rfl)) rfl ?_
      refine Bb 4 ?_ rfl (by kernel_rfl)
      refine Ej Try.f84 44 rfl rfl (O6) rfl Try.func84 rfl rfl Ad .nil (hd 45 rfl) ?_ (fun ch hp => by simp at hp)
      rintro _ ⟨⟩; refine Ax 6 [16, 17] (De 44 rfl rfl (Ps (i := 4) Lq Pq rfl rfl rfl (by decide) rfl) (hd 47 rfl)) rfl ?_
      refine Bb 16 ?_ rfl (by kernel_rfl)
      refine Ej Try.f100 44 rfl rfl (W3 v w) rfl Try.func100 rfl rfl (Aa rfl (Aa rfl (Aa rfl (Aa rfl (Aa rfl (Aa rfl Ad)))))) (.cons .n (.cons .n (.cons .n (.cons .b (.cons .b (.cons .b .nil)))))) (hd 57 rfl) ?_ (fun ch hp => by simp at hp)
      rintro _ ⟨⟩; refine zal 17 (Ao (Cg rfl rfl) (hd 58 rfl)) rfl <| Bi (by kernel_rfl) ?_
      refine E7 rfl (fun h3 => ?_) (fun h3 => ?_)
      · have hg : gro 4 v w = true := h3
        refine Af <| zsr <| zmv rfl (hd 60 rfl) ?_
        refine Aj Try.f63 (O0) rfl Try.func63 rfl rfl (Aa rfl Ad) (.cons .i .nil) (hd 61 rfl) ?_ (fun ch hp => by simp at hp)
        rintro y hy; injection hy with hy; subst hy
        refine Aj Try.f85 (Vh (qn v w) hq0 (by have := A5 (M4 h0 hrn); omega)) rfl Try.func85 rfl rfl (Aa rfl (Aa rfl Ad)) (.cons .n (.cons .n .nil)) (hd 62 rfl) ?_ (fun ch hp => by simp at hp)
        rintro _ ⟨⟩; refine zmv rfl (hd 59 rfl) <| Ac (Ak rfl rfl) (hd 63 rfl) <| Ac (Ak rfl rfl) (hd 64 rfl) <| zas rfl (hd 9 rfl) <| zas rfl (hd 11 rfl) <| Ab <| zsr <| zmv rfl (hd 65 rfl) <| Ac (Cd (Cm rfl rfl) (by simp)) (hd 66 rfl) <| Ab <| Bl rfl <| Am ?_; refine zsr <| Ac (Bd Bp rfl rfl rfl) (hd 71 rfl) <| Ac (A8 Ce rfl rfl rfl) (hd 72 rfl) <| zmv rfl (hd 73 rfl) ?_
        refine Aj Try.f86 (hS) rfl Try.func86 rfl rfl (Aa rfl (Aa rfl Ad)) (.cons .n (.cons .n .nil)) (hd 74 rfl) ?_ (fun ch hp => by simp at hp)
        rintro _ ⟨⟩; refine zmv rfl (hd 70 rfl) <| Ac (Ak rfl rfl) (hd 75 rfl) <| Ac (Ak rfl rfl) (hd 76 rfl) <| zas rfl (hd 10 rfl) <| Ab <| Ag <| zmv rfl (hd 77 rfl) <| Ac (Fn rfl) (hd 78 rfl) <| zas rfl (hd 13 rfl) <| Ab ?_
        refine ⟨(qn v w + 1, (w.natAbs : Int) - rn v w, !decide (v < 0)), ?_, rfl, Ba 40 rfl rfl ?_⟩
        · have hy := I1 (k := 4) h0 hrn hg
          exact ⟨hy.1, hy.2, by show 0 ≤ qn v w + 1; omega, by show 0 ≤ (w.natAbs : Int) - rn v w; omega⟩
        · exact (.cons rfl (.cons rfl (.cons rfl (.v9 (.v9 (.v9 (.v9 .nil)))))))
      · have hg : gro 4 v w = false := h3
        refine Am ?_
        refine ⟨(qn v w, rn v w, decide (v < 0)), ?_, rfl, Ba 19 rfl rfl ?_⟩
        · have hy := H5 (k := 4) h0 (by first | exact .inl hrn | exact .inr hg)
          exact ⟨hy.1, hy.2, hq0, hr0⟩
        · exact (.cons rfl (.cons rfl (.cons rfl (.v9 (.v9 (.v9 (.v9 .nil)))))))
    · have hrn : rn v w = 0 := La.1 (by omega)
      refine Ax 5 [6, 16, 17] (Gf 44 rfl rfl rfl (hd 46 rfl)) rfl <| Ax 7 [16, 17] (Gf 44 rfl rfl rfl (hd 48 rfl)) rfl <| Ax 8 [16, 17] (Gf 44 rfl rfl rfl (hd 49 rfl)) rfl <| Ax 9 [10, 16, 17] (Gf 44 rfl rfl rfl (hd 50 rfl)) rfl <| Ax 10 [16, 17] (Gf 44 rfl rfl rfl (hd 51 rfl)) rfl <| Ax 11 [16, 17] (Gf 44 rfl rfl rfl (hd 52 rfl)) rfl <| Ax 12 [13, 16, 17] (Gf 44 rfl rfl rfl (hd 53 rfl)) rfl <| Ax 13 [16, 17] (Gf 44 rfl rfl rfl (hd 54 rfl)) rfl <| Ax 14 [15, 16, 17] (Gf 44 rfl rfl rfl (hd 55 rfl)) rfl <| Ax 15 [16, 17] (Gf 44 rfl rfl rfl (hd 56 rfl)) rfl <| Ax 4 [6, 16, 17] (Gf 44 rfl rfl rfl (hd 45 rfl)) rfl <| Ax 6 [16, 17] (Gf 44 rfl rfl rfl (hd 47 rfl)) rfl <| zal 16 (Gf 44 rfl rfl rfl (hd 57 rfl)) rfl ?_; refine zal 17 (Ao (B9 rfl rfl) (hd 58 rfl)) rfl <| Bi (by kernel_rfl) <| Bl rfl <| Am ?_
      refine ⟨(qn v w, rn v w, decide (v < 0)), ?_, rfl, Ba 19 rfl rfl ?_⟩
      · have hy := H5 (k := 4) h0 (by first | exact .inl hrn | exact .inr hg)
        exact ⟨hy.1, hy.2, hq0, hr0⟩
      · exact (.cons rfl (.cons rfl (.cons rfl (.v9 (.v9 (.v9 (.v9 .nil)))))))
  · rintro ⟨q, r, rs⟩ ⟨hc1, hc2, hc3, hc4⟩
    dsimp only at hc1 hc2 hc3 hc4
    have hq1 : Bm q ≤ 67108864 := by have := A5 (v := q) (w := (wq 4 v w)) (by rw [← hc1, El]; exact Nat.le_refl _); omega
    have hr2 : Bm r ≤ 67108864 := by have := A5 (v := r) (w := (v - wq 4 v w * w)) (by rw [← hc2, El]; exact Nat.le_refl _); omega
    have hql := Bf hq1
    have hrl := Bf hr2
    refine zsr <| zmv rfl (hd 80 rfl) <| zmv rfl (hd 81 rfl) ?_
    refine Aj Try.f68 (Ph (ng v w) (lm q) (wq 4 v w) (by omega) (Cq q) (by rw [K1 hc3]; exact hc1) (by omega)) rfl Try.func68 rfl rfl (Aa rfl (Aa rfl (Aa rfl Ad))) (.cons .b (.cons .n (.cons .i .nil))) (hd 82 rfl) ?_ (fun ch hp => by simp at hp)
    rintro _ ⟨⟩; refine zmv rfl (hd 79 rfl) <| Ac (Ak rfl rfl) (hd 83 rfl) <| Ac (Ak rfl rfl) (hd 84 rfl) <| Ay (An (id := 4) At (by decide) rfl (by decide) rfl) (hd 14 rfl) <| A1 (Ae rfl rfl rfl Au rfl rfl (zlb rfl)) <| zas rfl (hd 11 rfl) <| Ab <| Af <| zsr <| zmv rfl (hd 85 rfl) <| Ac (Cd (Cm rfl rfl) (by simp)) (hd 86 rfl) <| Ab ?_; refine Bl rfl <| Am <| zsr <| zmv rfl (hd 91 rfl) <| zmv rfl (hd 92 rfl) ?_
    refine Aj Try.f68 (Ph rs (lm r) (v - wq 4 v w * w) (by omega) (Cq r) (by rw [K1 hc4]; exact hc2) (by omega)) rfl Try.func68 rfl rfl (Aa rfl (Aa rfl (Aa rfl Ad))) (.cons .b (.cons .n (.cons .i .nil))) (hd 93 rfl) ?_ (fun ch hp => by simp at hp)
    rintro _ ⟨⟩; refine zmv rfl (hd 90 rfl) <| Ac (Ak rfl rfl) (hd 94 rfl) <| Ac (Ak rfl rfl) (hd 95 rfl) <| Ay (An (id := 5) At (by decide) rfl (by decide) rfl) (hd 15 rfl) <| A1 (Ae rfl rfl rfl Au rfl rfl (zlb rfl)) <| zas rfl (hd 11 rfl) <| Ab <| Af <| zsr <| zmv rfl (hd 96 rfl) <| Ac (Cd (Cm rfl rfl) (by simp)) (hd 97 rfl) <| Ab ?_; refine Bl rfl <| Am <| Af <| Be (n := 5) _ rfl B2 <| zal 0 (Ao (Ah Aq rfl rfl rfl rfl) (hd 101 rfl)) rfl ?_
    refine Ct 1 2 ?_ ?_ rfl rfl (by kernel_rfl)
    · refine C4 (Ah Aq rfl rfl rfl rfl) (hd 102 rfl) ?_
      refine Bb 2 ?_ rfl (by kernel_rfl)
      refine A7 (Ae rfl rfl rfl Au rfl rfl (zlb rfl)) rfl ?_
      refine Bb 3 ?_ rfl (by kernel_rfl)
      refine A7 (Ae rfl rfl rfl Au rfl rfl (zlb rfl)) rfl <| zal 4 (Ao (Cr rfl) (hd 8 rfl)) rfl <| Bi (by kernel_rfl) <| As ?_
      refine ⟨_, _, (.cons (ResV.cell Aq rfl rfl rfl rfl) (.cons (ResV.cell Aq rfl rfl rfl rfl) (.cons rfl .nil))), (.t1 (.a1 .b (.a1 .n .a0)) (.t1 (.a1 .b (.a1 .n .a0)) (.t1 .i .t0))), ?_⟩
      exact rfl
    · refine A7 (Ae rfl rfl rfl Au rfl rfl (zlb rfl)) rfl <| zal 1 (Ao (Ah Aq rfl rfl rfl rfl) (hd 102 rfl)) rfl ?_
      refine Bb 3 ?_ rfl (by kernel_rfl)
      refine A7 (Ae rfl rfl rfl Au rfl rfl (zlb rfl)) rfl <| zal 4 (Ao (Cr rfl) (hd 8 rfl)) rfl <| Bi (by kernel_rfl) <| As ?_
      refine ⟨_, _, (.cons (ResV.cell Aq rfl rfl rfl rfl) (.cons (ResV.cell Aq rfl rfl rfl rfl) (.cons rfl .nil))), (.t1 (.a1 .b (.a1 .n .a0)) (.t1 (.a1 .b (.a1 .n .a0)) (.t1 .i .t0))), ?_⟩
      exact rfl

theorem J4 (s t : Bool) (a b : List Int) (v w : Int) (la : a.length < 1099511627776) (lb : b.length < 1099511627776) (ua : A3 a) (ub : A3 b) (ev : sv s a = v) (ew : sv t b = w) (hv : Bm v ≤ 67108864) (hw : Bm w ≤ 67108864) (h0 : w ≠ 0) : Spec Try.prog 39 [.a [.b s, .n false .u64 a], .a [.b t, .n false .u64 b]] (fun o => o = .ret (.t [.a [.b (decide ((wq 4 v w) < 0)), .n true .u64 (lm (wq 4 v w))], .a [.b (decide ((v - wq 4 v w * w) < 0)), .n true .u64 (lm (v - wq 4 v w * w))], .i .i64 0])) := by
  refine Az [(0, .a [.b s, .n false .u64 a]), (1, .a [.b t, .n false .u64 b])] rfl Try.func39 rfl (zlb rfl) fun Γ hN hds hL hR => ?_
  have hd := B5 13 hN
  refine zsr <| Ay (Br (id := 0) (n := 2) rfl rfl rfl (by decide) rfl) (hd 2 rfl) <| Ay (Br (id := 1) (n := 2) rfl rfl rfl (by decide) rfl) (hd 3 rfl) <| Ay (An (id := 2) At (by decide) rfl (by decide) rfl) (hd 4 rfl) <| Ay (An (id := 3) At (by decide) rfl (by decide) rfl) (hd 5 rfl) <| zas rfl (hd 6 rfl) <| Ab <| zsr <| Ac (Ah Aq rfl rfl rfl rfl) (hd 7 rfl) <| Ac (Ah Aq rfl rfl rfl rfl) (hd 8 rfl) ?_
  refine Aj Try.f66 (Ue s t a b v w la lb ua ub ev ew hv hw h0) rfl Try.func66 rfl rfl (Aa rfl (Aa rfl (Aa rfl Ad))) (.cons (.a1 .b (.a1 .n .a0)) (.cons (.a1 .b (.a1 .n .a0)) (.cons .i .nil))) (hd 9 rfl) ?_ (fun ch hp => by simp at hp)
  rintro _ ⟨⟩; refine Ac (Ak rfl rfl) (hd 10 rfl) <| Ac (Ak rfl rfl) (hd 11 rfl) <| Ac (Ak rfl rfl) (hd 12 rfl) <| A1 (Ae rfl rfl rfl Au rfl rfl (zlb rfl)) <| A1 (Ae rfl rfl rfl Au rfl rfl (zlb rfl)) <| zas rfl (hd 6 rfl) <| Ab <| As ?_
  refine ⟨_, _, (.cons (ResV.cell Aq rfl rfl rfl rfl) (.cons (ResV.cell Aq rfl rfl rfl rfl) (.cons rfl .nil))), (.t1 (.a1 .b (.a1 .n .a0)) (.t1 (.a1 .b (.a1 .n .a0)) (.t1 .i .t0))), ?_⟩
  exact rfl

theorem Ug (s t : Bool) (a b : List Int) (v w : Int) (la : a.length < 1099511627776) (lb : b.length < 1099511627776) (ua : A3 a) (ub : A3 b) (ev : sv s a = v) (ew : sv t b = w) (hv : Bm v ≤ 67108864) (hw : Bm w ≤ 67108864) (h0 : w ≠ 0) : SpecM Try.prog 66 [.a [.b s, .n false .u64 a], .a [.b t, .n false .u64 b], .i .i64 0] [] (fun o G => o = .ret (.t [.a [.b (decide ((wq 0 v w) < 0)), .o 0 0 0 (lm (wq 0 v w)).length], .a [.b (decide ((v - wq 0 v w * w) < 0)), .o 1 0 0 (lm (v - wq 0 v w * w)).length], .i .i64 0]) ∧ G = [⟨79, 1, 0, true, A2 .u64 (lm (wq 0 v w))⟩, ⟨79, 1, 0, true, A2 .u64 (lm (v - wq 0 v w * w))⟩]) := by
  refine Cy [(0, .a [.b s, .n false .u64 a]), (1, .a [.b t, .n false .u64 b]), (2, .i .i64 0)] rfl Try.func66 rfl (zlb rfl) fun Γ hN hds hL hR => ?_
  have hd := B5 103 hN
  have hlv := Bf hv
  have hlw := Bf hw
  obtain ⟨hx, hr0, hr1, hq0⟩ := Er (v := v) h0
  have hle := A5 (v := qn v w) (w := v) Qu
  have hlr := A5 (v := rn v w) (w := w) (Mz h0).1
  have hlR := Bf (v := rn v w) (by omega)
  have habs : lm (w.natAbs : Int) = lm w := by unfold lm; rw [Int.natAbs_natCast]
  have hlenw : Bm (w.natAbs : Int) = Bm w := by unfold Bm; rw [Int.natAbs_natCast]
  have hS := Aat (w.natAbs : Int) (rn v w) hr0 (by omega) (by omega)
  rw [habs] at hS
  have hwl := Hi (k := 0) (v := v) h0
  refine zsr <| Ay (Br (id := 0) (n := 2) rfl rfl rfl (by decide) rfl) (hd 3 rfl) <| Ay (Br (id := 1) (n := 2) rfl rfl rfl (by decide) rfl) (hd 4 rfl) <| Ay (An (id := 2) At (by decide) rfl (by decide) rfl) (hd 6 rfl) <| Ay (An (id := 3) At (by decide) rfl (by decide) rfl) (hd 7 rfl) <| zas rfl (hd 8 rfl) <| Ab <| Af <| Be (n := 6) _ rfl B2 <| Ax 0 [1, 3, 4, 5] (Ao (Ah Aq rfl rfl rfl rfl) (hd 16 rfl)) rfl <| Ax 2 [3, 4, 5] (Ao (Ah Aq rfl rfl rfl rfl) (hd 18 rfl)) rfl ?_
  refine Bb 1 ?_ rfl (by kernel_rfl)
  refine A4 Try.f32 (Hm s a v la ua ev) rfl Try.func32 rfl rfl (Aa rfl Ad) (.cons (.a1 .b (.a1 .n .a0)) .nil) (hd 17 rfl) ?_ (fun ch hp => by simp at hp)
  rintro y hy; injection hy with hy; subst hy
  refine Bb 3 ?_ rfl (by kernel_rfl)
  refine A4 Try.f32 (Hm t b w lb ub ew) rfl Try.func32 rfl rfl (Aa rfl Ad) (.cons (.a1 .b (.a1 .n .a0)) .nil) (hd 19 rfl) ?_ (fun ch hp => by simp at hp)
  rintro y hy; injection hy with hy; subst hy
  refine Bb 4 ?_ rfl (by kernel_rfl)
  refine A7 (Ae rfl rfl rfl Au rfl rfl (zlb rfl)) rfl ?_
  refine Bb 5 ?_ rfl (by kernel_rfl)
  refine A7 (Ae rfl rfl rfl Au rfl rfl (zlb rfl)) rfl <| Bi (by kernel_rfl) <| zsr <| Ac (Bd Bp rfl rfl rfl) (hd 21 rfl) <| Ac (A8 Ce rfl rfl rfl) (hd 22 rfl) <| Ac (Bd Bp rfl rfl rfl) (hd 23 rfl) <| Ac (A8 Ce rfl rfl rfl) (hd 24 rfl) ?_
  refine Aj Try.f83 (Vd v w hv hw h0) rfl Try.func83 rfl rfl (Aa rfl (Aa rfl Ad)) (.cons .n (.cons .n .nil)) (hd 25 rfl) ?_ (fun ch hp => by simp at hp)
  rintro _ ⟨⟩; refine zmv rfl (hd 20 rfl) <| Ac (Ak rfl rfl) (hd 26 rfl) <| Ac (Ak rfl rfl) (hd 27 rfl) <| Ac (Ak rfl rfl) (hd 28 rfl) <| zas rfl (hd 9 rfl) <| zas rfl (hd 10 rfl) <| zas rfl (hd 11 rfl) <| Ab <| Af <| zsr <| zmv rfl (hd 29 rfl) <| Ac (Cd (Cm rfl rfl) (by simp)) (hd 30 rfl) ?_; refine Ab <| Bl rfl <| Am <| Af <| Be (n := 9) _ rfl B2 <| Ax 0 [1, 4, 7, 8] (Ao (Bd Cf rfl rfl rfl) (hd 34 rfl)) rfl <| zal 1 (Ao (A8 C5 rfl rfl rfl) (hd 35 rfl)) rfl <| Ax 2 [3, 4, 7, 8] (Ao (Bd Cf rfl rfl rfl) (hd 36 rfl)) rfl <| zal 3 (Ao (A8 C5 rfl rfl rfl) (hd 37 rfl)) rfl <| zal 4 (Ao (B0 (Im Qo rfl rfl) (show V.b _ = V.b (ng v w) from rfl)) (hd 38 rfl)) rfl <| zal 5 (Ao (Bd Cf rfl rfl rfl) (hd 39 rfl)) rfl <| zal 6 (Ao (A8 C5 rfl rfl rfl) (hd 40 rfl)) rfl <| zal 7 (Ao (Cr rfl) (hd 12 rfl)) rfl ?_; refine zal 8 (Ao (Cr rfl) (hd 13 rfl)) rfl <| Bi (by kernel_rfl) ?_
  refine Cu (G := Int × Int × Bool) (fun g => sgd (ng v w) g.1 = (wq 0 v w) ∧ sgd g.2.2 g.2.1 = (v - wq 0 v w * w) ∧ 0 ≤ g.1 ∧ 0 ≤ g.2.1) (fun g => [(9, .n false .u64 (lm g.1)), (10, .n false .u64 (lm g.2.1)), (13, .b g.2.2), (8, .u), (11, .u), (41, .u), (42, .u), (43, .u), (44, .u), (45, .u), (46, .u), (47, .u), (48, .u), (49, .u), (50, .u), (51, .u), (52, .u), (53, .u), (54, .u), (55, .u), (56, .u), (57, .u), (58, .u), (59, .u), (60, .u), (61, .u), (62, .u), (63, .u), (64, .u), (65, .u), (66, .u), (67, .u), (68, .u), (69, .u), (70, .u), (71, .u), (72, .u), (73, .u), (74, .u), (75, .u), (76, .u), (77, .u), (78, .u)]) ?_ ?_
  · refine Af <| Be (n := 18) _ rfl B2 <| Ax 0 [1, 2, 3, 4, 5, 6, 7, 8, 9, 10, 11, 12, 13, 14, 15, 16, 17] (Ao (A0 rfl) (hd 41 rfl)) rfl ?_
    refine Bb 1 ?_ rfl (by kernel_rfl)
    refine A4 Try.f33 (Ek (rn v w) (by omega)) rfl Try.func33 rfl rfl (Aa rfl Ad) (.cons .n .nil) (hd 42 rfl) ?_ (fun ch hp => by simp at hp)
    rintro _ ⟨⟩; refine Ax 2 [3, 4, 5, 6, 7, 8, 9, 10, 11, 12, 13, 14, 15, 16, 17] (Ao (C0 rfl rfl) (hd 43 rfl)) rfl <| zal 3 (Ao (A0 rfl) (hd 44 rfl)) rfl ?_
    refine Tq 44 rfl (fun h2 => ?_) (fun h2 => ?_)
    · have hrn : rn v w ≠ 0 := fun e => by have := La.2 e; omega
      refine Ax 5 [6, 16, 17] (De 44 rfl rfl (A0 rfl) (hd 46 rfl)) rfl <| Ax 7 [16, 17] (De 44 rfl rfl (A0 rfl) (hd 48 rfl)) rfl <| Ax 8 [16, 17] (De 44 rfl rfl (A0 rfl) (hd 49 rfl)) rfl <| Ax 9 [10, 16, 17] (De 44 rfl rfl (Bd Bp rfl rfl rfl) (hd 50 rfl)) rfl <| Ax 10 [16, 17] (De 44 rfl rfl (A8 Ce rfl rfl rfl) (hd 51 rfl)) rfl <| Ax 11 [16, 17] (De 44 rfl rfl (A0 rfl) (hd 52 rfl)) rfl <| Ax 12 [13, 16, 17] (De 44 rfl rfl (Bd Cf rfl rfl rfl) (hd 53 rfl)) rfl <| Ax 13 [16, 17] (De 44 rfl rfl (A8 C5 rfl rfl rfl) (hd 54 rfl)) rfl <| Ax 14 [15, 16, 17] (De 44 rfl rfl (Bd Cf rfl rfl rfl) (hd 55 rfl)) rfl <| Ax 15 [16, 17] (De 44 rfl rfl (A8 C5 rfl rfl rfl) (hd 56 rfl)) rfl ?_
      refine Bb 4 ?_ rfl (by kernel_rfl)
      refine Ej Try.f84 44 rfl rfl (O6) rfl Try.func84 rfl rfl Ad .nil (hd 45 rfl) ?_ (fun ch hp => by simp at hp)
      rintro _ ⟨⟩; refine Ax 6 [16, 17] (De 44 rfl rfl (Ps (i := 0) Lq Pq rfl rfl rfl (by decide) rfl) (hd 47 rfl)) rfl ?_
      refine Bb 16 ?_ rfl (by kernel_rfl)
      refine Ej Try.f95 44 rfl rfl (Aa5 v w) rfl Try.func95 rfl rfl (Aa rfl (Aa rfl (Aa rfl (Aa rfl (Aa rfl (Aa rfl Ad)))))) (.cons .n (.cons .n (.cons .n (.cons .b (.cons .b (.cons .b .nil)))))) (hd 57 rfl) ?_ (fun ch hp => by simp at hp)
      rintro _ ⟨⟩; refine zal 17 (Ao (Cg rfl rfl) (hd 58 rfl)) rfl <| Bi (by kernel_rfl) ?_
      refine E7 rfl (fun h3 => ?_) (fun h3 => ?_)
      · have hg : gro 0 v w = true := h3
        refine Af <| zsr <| zmv rfl (hd 60 rfl) ?_
        refine Aj Try.f63 (O0) rfl Try.func63 rfl rfl (Aa rfl Ad) (.cons .i .nil) (hd 61 rfl) ?_ (fun ch hp => by simp at hp)
        rintro y hy; injection hy with hy; subst hy
        refine Aj Try.f85 (Vh (qn v w) hq0 (by have := A5 (M4 h0 hrn); omega)) rfl Try.func85 rfl rfl (Aa rfl (Aa rfl Ad)) (.cons .n (.cons .n .nil)) (hd 62 rfl) ?_ (fun ch hp => by simp at hp)
        rintro _ ⟨⟩; refine zmv rfl (hd 59 rfl) <| Ac (Ak rfl rfl) (hd 63 rfl) <| Ac (Ak rfl rfl) (hd 64 rfl) <| zas rfl (hd 9 rfl) <| zas rfl (hd 11 rfl) <| Ab <| zsr <| zmv rfl (hd 65 rfl) <| Ac (Cd (Cm rfl rfl) (by simp)) (hd 66 rfl) <| Ab <| Bl rfl <| Am ?_; refine zsr <| Ac (Bd Bp rfl rfl rfl) (hd 71 rfl) <| Ac (A8 Ce rfl rfl rfl) (hd 72 rfl) <| zmv rfl (hd 73 rfl) ?_
        refine Aj Try.f86 (hS) rfl Try.func86 rfl rfl (Aa rfl (Aa rfl Ad)) (.cons .n (.cons .n .nil)) (hd 74 rfl) ?_ (fun ch hp => by simp at hp)
        rintro _ ⟨⟩; refine zmv rfl (hd 70 rfl) <| Ac (Ak rfl rfl) (hd 75 rfl) <| Ac (Ak rfl rfl) (hd 76 rfl) <| zas rfl (hd 10 rfl) <| Ab <| Ag <| zmv rfl (hd 77 rfl) <| Ac (Fn rfl) (hd 78 rfl) <| zas rfl (hd 13 rfl) <| Ab ?_
        refine ⟨(qn v w + 1, (w.natAbs : Int) - rn v w, !decide (v < 0)), ?_, rfl, Ba 40 rfl rfl ?_⟩
        · have hy := I1 (k := 0) h0 hrn hg
          exact ⟨hy.1, hy.2, by show 0 ≤ qn v w + 1; omega, by show 0 ≤ (w.natAbs : Int) - rn v w; omega⟩
        · exact (.cons rfl (.cons rfl (.cons rfl (.v9 (.v9 (.v9 (.v9 .nil)))))))
      · have hg : gro 0 v w = false := h3
        refine Am ?_
        refine ⟨(qn v w, rn v w, decide (v < 0)), ?_, rfl, Ba 19 rfl rfl ?_⟩
        · have hy := H5 (k := 0) h0 (by first | exact .inl hrn | exact .inr hg)
          exact ⟨hy.1, hy.2, hq0, hr0⟩
        · exact (.cons rfl (.cons rfl (.cons rfl (.v9 (.v9 (.v9 (.v9 .nil)))))))
    · have hrn : rn v w = 0 := La.1 (by omega)
      refine Ax 5 [6, 16, 17] (Gf 44 rfl rfl rfl (hd 46 rfl)) rfl <| Ax 7 [16, 17] (Gf 44 rfl rfl rfl (hd 48 rfl)) rfl <| Ax 8 [16, 17] (Gf 44 rfl rfl rfl (hd 49 rfl)) rfl <| Ax 9 [10, 16, 17] (Gf 44 rfl rfl rfl (hd 50 rfl)) rfl <| Ax 10 [16, 17] (Gf 44 rfl rfl rfl (hd 51 rfl)) rfl <| Ax 11 [16, 17] (Gf 44 rfl rfl rfl (hd 52 rfl)) rfl <| Ax 12 [13, 16, 17] (Gf 44 rfl rfl rfl (hd 53 rfl)) rfl <| Ax 13 [16, 17] (Gf 44 rfl rfl rfl (hd 54 rfl)) rfl <| Ax 14 [15, 16, 17] (Gf 44 rfl rfl rfl (hd 55 rfl)) rfl <| Ax 15 [16, 17] (Gf 44 rfl rfl rfl (hd 56 rfl)) rfl <| Ax 4 [6, 16, 17] (Gf 44 rfl rfl rfl (hd 45 rfl)) rfl <| Ax 6 [16, 17] (Gf 44 rfl rfl rfl (hd 47 rfl)) rfl <| zal 16 (Gf 44 rfl rfl rfl (hd 57 rfl)) rfl ?_; refine zal 17 (Ao (B9 rfl rfl) (hd 58 rfl)) rfl <| Bi (by kernel_rfl) <| Bl rfl <| Am ?_
      refine ⟨(qn v w, rn v w, decide (v < 0)), ?_, rfl, Ba 19 rfl rfl ?_⟩
      · have hy := H5 (k := 0) h0 (by first | exact .inl hrn | exact .inr hg)
        exact ⟨hy.1, hy.2, hq0, hr0⟩
      · exact (.cons rfl (.cons rfl (.cons rfl (.v9 (.v9 (.v9 (.v9 .nil)))))))
  · rintro ⟨q, r, rs⟩ ⟨hc1, hc2, hc3, hc4⟩
    dsimp only at hc1 hc2 hc3 hc4
    have hq1 : Bm q ≤ 67108864 := by have := A5 (v := q) (w := (wq 0 v w)) (by rw [← hc1, El]; exact Nat.le_refl _); omega
    have hr2 : Bm r ≤ 67108864 := by have := A5 (v := r) (w := (v - wq 0 v w * w)) (by rw [← hc2, El]; exact Nat.le_refl _); omega
    have hql := Bf hq1
    have hrl := Bf hr2
    refine zsr <| zmv rfl (hd 80 rfl) <| zmv rfl (hd 81 rfl) ?_
    refine C9 Try.f68 (Id (ng v w) (lm q) (wq 0 v w) (by omega) (Cq q) (by rw [K1 hc3]; exact hc1) (by omega)) (fun o G ⟨_, h⟩ => h ▸ Al Bc Ar) rfl Try.func68 rfl rfl (Aa rfl (Aa rfl (Aa rfl Ad))) (.cons .b (.cons .n (.cons .i .nil))) (hd 82 rfl) ?_ (fun ch G hp => by simp at hp)
    rintro y G ⟨hy, rfl⟩; injection hy with hy; subst hy
    show JO _ _ _ _ ((82, .t [.a [.b (decide ((wq 0 v w) < 0)), .o 4 0 0 (lm (wq 0 v w)).length], .i .i64 0]) :: _) _ _
    refine zmv rfl (hd 79 rfl) <| Ac (Ak rfl rfl) (hd 83 rfl) <| Ac (Ak rfl rfl) (hd 84 rfl) <| Ay (An (id := 5) At (by decide) rfl (by decide) rfl) (hd 14 rfl) <| A1 (Ae rfl rfl rfl Au rfl rfl (zlb rfl)) <| zas rfl (hd 11 rfl) <| Ab <| Af <| zsr <| zmv rfl (hd 85 rfl) <| Ac (Cd (Cm rfl rfl) (by simp)) (hd 86 rfl) <| Ab ?_; refine Bl rfl <| Am <| zsr <| zmv rfl (hd 91 rfl) <| zmv rfl (hd 92 rfl) ?_
    refine C9 Try.f68 (Id rs (lm r) (v - wq 0 v w * w) (by omega) (Cq r) (by rw [K1 hc4]; exact hc2) (by omega)) (fun o G ⟨_, h⟩ => h ▸ Al Bc Ar) rfl Try.func68 rfl rfl (Aa rfl (Aa rfl (Aa rfl Ad))) (.cons .b (.cons .n (.cons .i .nil))) (hd 93 rfl) ?_ (fun ch G hp => by simp at hp)
    rintro y G ⟨hy, rfl⟩; injection hy with hy; subst hy
    show JO _ _ _ _ ((93, .t [.a [.b (decide ((v - wq 0 v w * w) < 0)), .o 6 0 0 (lm (v - wq 0 v w * w)).length], .i .i64 0]) :: _) _ _
    refine zmv rfl (hd 90 rfl) <| Ac (Ak rfl rfl) (hd 94 rfl) <| Ac (Ak rfl rfl) (hd 95 rfl) <| Ay (An (id := 7) At (by decide) rfl (by decide) rfl) (hd 15 rfl) <| A1 (Ae rfl rfl rfl Au rfl rfl (zlb rfl)) <| zas rfl (hd 11 rfl) <| Ab <| Af <| zsr <| zmv rfl (hd 96 rfl) <| Ac (Cd (Cm rfl rfl) (by simp)) (hd 97 rfl) <| Ab ?_; refine Bl rfl <| Am <| Af <| Be (n := 5) _ rfl B2 <| zal 0 (Ao (Ah Aq rfl rfl rfl rfl) (hd 101 rfl)) rfl ?_
    refine Ct 1 2 ?_ ?_ rfl rfl (by kernel_rfl)
    · refine C4 (Ah Aq rfl rfl rfl rfl) (hd 102 rfl) ?_
      refine Bb 2 ?_ rfl (by kernel_rfl)
      refine A7 (Ae rfl rfl rfl Au rfl rfl (zlb rfl)) rfl ?_
      refine Bb 3 ?_ rfl (by kernel_rfl)
      refine A7 (Ae rfl rfl rfl Au rfl rfl (zlb rfl)) rfl <| zal 4 (Ao (Cr rfl) (hd 8 rfl)) rfl <| Bi (by kernel_rfl) <| As ?_
      refine ⟨[4, 6], _, (.t [.a [.b (decide ((wq 0 v w) < 0)), .o 0 0 0 (lm (wq 0 v w)).length], .a [.b (decide ((v - wq 0 v w * w) < 0)), .o 1 0 0 (lm (v - wq 0 v w * w)).length], .i .i64 0]), (.cons (ResV.cell Aq rfl rfl rfl rfl) (.cons (ResV.cell Aq rfl rfl rfl rfl) (.cons rfl .nil))), rfl, rfl, (by decide), (by first | exact Al Bc (Al Bc Ar) | exact Al rfl (Al rfl Ar)), ?_⟩
      exact ⟨rfl, rfl⟩
    · refine A7 (Ae rfl rfl rfl Au rfl rfl (zlb rfl)) rfl <| zal 1 (Ao (Ah Aq rfl rfl rfl rfl) (hd 102 rfl)) rfl ?_
      refine Bb 3 ?_ rfl (by kernel_rfl)
      refine A7 (Ae rfl rfl rfl Au rfl rfl (zlb rfl)) rfl <| zal 4 (Ao (Cr rfl) (hd 8 rfl)) rfl <| Bi (by kernel_rfl) <| As ?_
      refine ⟨[4, 6], _, (.t [.a [.b (decide ((wq 0 v w) < 0)), .o 0 0 0 (lm (wq 0 v w)).length], .a [.b (decide ((v - wq 0 v w * w) < 0)), .o 1 0 0 (lm (v - wq 0 v w * w)).length], .i .i64 0]), (.cons (ResV.cell Aq rfl rfl rfl rfl) (.cons (ResV.cell Aq rfl rfl rfl rfl) (.cons rfl .nil))), rfl, rfl, (by decide), (by first | exact Al Bc (Al Bc Ar) | exact Al rfl (Al rfl Ar)), ?_⟩
      exact ⟨rfl, rfl⟩

theorem Uf (s t : Bool) (a b : List Int) (v w : Int) (la : a.length < 1099511627776) (lb : b.length < 1099511627776) (ua : A3 a) (ub : A3 b) (ev : sv s a = v) (ew : sv t b = w) (hv : Bm v ≤ 67108864) (hw : Bm w ≤ 67108864) (h0 : w ≠ 0) : SpecM Try.prog 66 [.a [.b s, .n false .u64 a], .a [.b t, .n false .u64 b], .i .i64 4] [] (fun o G => o = .ret (.t [.a [.b (decide ((wq 4 v w) < 0)), .o 0 0 0 (lm (wq 4 v w)).length], .a [.b (decide ((v - wq 4 v w * w) < 0)), .o 1 0 0 (lm (v - wq 4 v w * w)).length], .i .i64 0]) ∧ G = [⟨79, 1, 0, true, A2 .u64 (lm (wq 4 v w))⟩, ⟨79, 1, 0, true, A2 .u64 (lm (v - wq 4 v w * w))⟩]) := by
  refine Cy [(0, .a [.b s, .n false .u64 a]), (1, .a [.b t, .n false .u64 b]), (2, .i .i64 4)] rfl Try.func66 rfl (zlb rfl) fun Γ hN hds hL hR => ?_
  have hd := B5 103 hN
  have hlv := Bf hv
  have hlw := Bf hw
  obtain ⟨hx, hr0, hr1, hq0⟩ := Er (v := v) h0
  have hle := A5 (v := qn v w) (w := v) Qu
  have hlr := A5 (v := rn v w) (w := w) (Mz h0).1
  have hlR := Bf (v := rn v w) (by omega)
  have habs : lm (w.natAbs : Int) = lm w := by unfold lm; rw [Int.natAbs_natCast]
  have hlenw : Bm (w.natAbs : Int) = Bm w := by unfold Bm; rw [Int.natAbs_natCast]
  have hS := Aat (w.natAbs : Int) (rn v w) hr0 (by omega) (by omega)
  rw [habs] at hS
  have hwl := Hi (k := 4) (v := v) h0
  refine zsr <| Ay (Br (id := 0) (n := 2) rfl rfl rfl (by decide) rfl) (hd 3 rfl) <| Ay (Br (id := 1) (n := 2) rfl rfl rfl (by decide) rfl) (hd 4 rfl) <| Ay (An (id := 2) At (by decide) rfl (by decide) rfl) (hd 6 rfl) <| Ay (An (id := 3) At (by decide) rfl (by decide) rfl) (hd 7 rfl) <| zas rfl (hd 8 rfl) <| Ab <| Af <| Be (n := 6) _ rfl B2 <| Ax 0 [1, 3, 4, 5] (Ao (Ah Aq rfl rfl rfl rfl) (hd 16 rfl)) rfl <| Ax 2 [3, 4, 5] (Ao (Ah Aq rfl rfl rfl rfl) (hd 18 rfl)) rfl ?_
  refine Bb 1 ?_ rfl (by kernel_rfl)
  refine A4 Try.f32 (Hm s a v la ua ev) rfl Try.func32 rfl rfl (Aa rfl Ad) (.cons (.a1 .b (.a1 .n .a0)) .nil) (hd 17 rfl) ?_ (fun ch hp => by simp at hp)
  rintro y hy; injection hy with hy; subst hy
  refine Bb 3 ?_ rfl (by kernel_rfl)
  refine A4 Try.f32 (Hm t b w lb ub ew) rfl Try.func32 rfl rfl (Aa rfl Ad) (.cons (.a1 .b (.a1 .n .a0)) .nil) (hd 19 rfl) ?_ (fun ch hp => by simp at hp)
  rintro y hy; injection hy with hy; subst hy
  refine Bb 4 ?_ rfl (by kernel_rfl)
  refine A7 (Ae rfl rfl rfl Au rfl rfl (zlb rfl)) rfl ?_
  refine Bb 5 ?_ rfl (by kernel_rfl)
  refine A7 (Ae rfl rfl rfl Au rfl rfl (zlb rfl)) rfl <| Bi (by kernel_rfl) <| zsr <| Ac (Bd Bp rfl rfl rfl) (hd 21 rfl) <| Ac (A8 Ce rfl rfl rfl) (hd 22 rfl) <| Ac (Bd Bp rfl rfl rfl) (hd 23 rfl) <| Ac (A8 Ce rfl rfl rfl) (hd 24 rfl) ?_
  refine Aj Try.f83 (Vd v w hv hw h0) rfl Try.func83 rfl rfl (Aa rfl (Aa rfl Ad)) (.cons .n (.cons .n .nil)) (hd 25 rfl) ?_ (fun ch hp => by simp at hp)
  rintro _ ⟨⟩; refine zmv rfl (hd 20 rfl) <| Ac (Ak rfl rfl) (hd 26 rfl) <| Ac (Ak rfl rfl) (hd 27 rfl) <| Ac (Ak rfl rfl) (hd 28 rfl) <| zas rfl (hd 9 rfl) <| zas rfl (hd 10 rfl) <| zas rfl (hd 11 rfl) <| Ab <| Af <| zsr <| zmv rfl (hd 29 rfl) <| Ac (Cd (Cm rfl rfl) (by simp)) (hd 30 rfl) ?_; refine Ab <| Bl rfl <| Am <| Af <| Be (n := 9) _ rfl B2 <| Ax 0 [1, 4, 7, 8] (Ao (Bd Cf rfl rfl rfl) (hd 34 rfl)) rfl <| zal 1 (Ao (A8 C5 rfl rfl rfl) (hd 35 rfl)) rfl <| Ax 2 [3, 4, 7, 8] (Ao (Bd Cf rfl rfl rfl) (hd 36 rfl)) rfl <| zal 3 (Ao (A8 C5 rfl rfl rfl) (hd 37 rfl)) rfl <| zal 4 (Ao (B0 (Im Qo rfl rfl) (show V.b _ = V.b (ng v w) from rfl)) (hd 38 rfl)) rfl <| zal 5 (Ao (Bd Cf rfl rfl rfl) (hd 39 rfl)) rfl <| zal 6 (Ao (A8 C5 rfl rfl rfl) (hd 40 rfl)) rfl <| zal 7 (Ao (Cr rfl) (hd 12 rfl)) rfl ?_; refine zal 8 (Ao (Cr rfl) (hd 13 rfl)) rfl <| Bi (by kernel_rfl) ?_
  refine Cu (G := Int × Int × Bool) (fun g => sgd (ng v w) g.1 = (wq 4 v w) ∧ sgd g.2.2 g.2.1 = (v - wq 4 v w * w) ∧ 0 ≤ g.1 ∧ 0 ≤ g.2.1) (fun g => [(9, .n false .u64 (lm g.1)), (10, .n false .u64 (lm g.2.1)), (13, .b g.2.2), (8, .u), (11, .u), (41, .u), (42, .u), (43, .u), (44, .u), (45, .u), (46, .u), (47, .u), (48, .u), (49, .u), (50, .u), (51, .u), (52, .u), (53, .u), (54, .u), (55, .u), (56, .u), (57, .u), (58, .u), (59, .u), (60, .u), (61, .u), (62, .u), (63, .u), (64, .u), (65, .u), (66, .u), (67, .u), (68, .u), (69, .u), (70, .u), (71, .u), (72, .u), (73, .u), (74, .u), (75, .u), (76, .u), (77, .u), (78, .u)]) ?_ ?_
  · refine Af <| Be (n := 18) _ rfl B2 <| Ax 0 [1, 2, 3, 4, 5, 6, 7, 8, 9, 10, 11, 12, 13, 14, 15, 16, 17] (Ao (A0 rfl) (hd 41 rfl)) rfl ?_
    refine Bb 1 ?_ rfl (by kernel_rfl)
    refine A4 Try.f33 (Ek (rn v w) (by omega)) rfl Try.func33 rfl rfl (Aa rfl Ad) (.cons .n .nil) (hd 42 rfl) ?_ (fun ch hp => by simp at hp)
    rintro _ ⟨⟩; refine Ax 2 [3, 4, 5, 6, 7, 8, 9, 10, 11, 12, 13, 14, 15, 16, 17] (Ao (C0 rfl rfl) (hd 43 rfl)) rfl <| zal 3 (Ao (A0 rfl) (hd 44 rfl)) rfl ?_
    refine Tq 44 rfl (fun h2 => ?_) (fun h2 => ?_)
    · have hrn : rn v w ≠ 0 := fun e => by have := La.2 e; omega
      refine Ax 5 [6, 16, 17] (De 44 rfl rfl (A0 rfl) (hd 46 rfl)) rfl <| Ax 7 [16, 17] (De 44 rfl rfl (A0 rfl) (hd 48 rfl)) rfl <| Ax 8 [16, 17] (De 44 rfl rfl (A0 rfl) (hd 49 rfl)) rfl <| Ax 9 [10, 16, 17] (De 44 rfl rfl (Bd Bp rfl rfl rfl) (hd 50 rfl)) rfl <| Ax 10 [16, 17] (De 44 rfl rfl (A8 Ce rfl rfl rfl) (hd 51 rfl)) rfl <| Ax 11 [16, 17] (De 44 rfl rfl (A0 rfl) (hd 52 rfl)) rfl <| Ax 12 [13, 16, 17] (De 44 rfl rfl (Bd Cf rfl rfl rfl) (hd 53 rfl)) rfl <| Ax 13 [16, 17] (De 44 rfl rfl (A8 C5 rfl rfl rfl) (hd 54 rfl)) rfl <| Ax 14 [15, 16, 17] (De 44 rfl rfl (Bd Cf rfl rfl rfl) (hd 55 rfl)) rfl <| Ax 15 [16, 17] (De 44 rfl rfl (A8 C5 rfl rfl rfl) (hd 56 rfl)) rfl ?_
      refine Bb 4 ?_ rfl (by kernel_rfl)
      refine Ej Try.f84 44 rfl rfl (O6) rfl Try.func84 rfl rfl Ad .nil (hd 45 rfl) ?_ (fun ch hp => by simp at hp)
      rintro _ ⟨⟩; refine Ax 6 [16, 17] (De 44 rfl rfl (Ps (i := 4) Lq Pq rfl rfl rfl (by decide) rfl) (hd 47 rfl)) rfl ?_
      refine Bb 16 ?_ rfl (by kernel_rfl)
      refine Ej Try.f100 44 rfl rfl (W3 v w) rfl Try.func100 rfl rfl (Aa rfl (Aa rfl (Aa rfl (Aa rfl (Aa rfl (Aa rfl Ad)))))) (.cons .n (.cons .n (.cons .n (.cons .b (.cons .b (.cons .b .nil)))))) (hd 57 rfl) ?_ (fun ch hp => by simp at hp)
      rintro _ ⟨⟩; refine zal 17 (Ao (Cg rfl rfl) (hd 58 rfl)) rfl <| Bi (by kernel_rfl) ?_
      refine E7 rfl (fun h3 => ?_) (fun h3 => ?_)
      · have hg : gro 4 v w = true := h3
        refine Af <| zsr <| zmv rfl (hd 60 rfl) ?_
        refine Aj Try.f63 (O0) rfl Try.func63 rfl rfl (Aa rfl Ad) (.cons .i .nil) (hd 61 rfl) ?_ (fun ch hp => by simp at hp)
        rintro y hy; injection hy with hy; subst hy
        refine Aj Try.f85 (Vh (qn v w) hq0 (by have := A5 (M4 h0 hrn); omega)) rfl Try.func85 rfl rfl (Aa rfl (Aa rfl Ad)) (.cons .n (.cons .n .nil)) (hd 62 rfl) ?_ (fun ch hp => by simp at hp)
        rintro _ ⟨⟩; refine zmv rfl (hd 59 rfl) <| Ac (Ak rfl rfl) (hd 63 rfl) <| Ac (Ak rfl rfl) (hd 64 rfl) <| zas rfl (hd 9 rfl) <| zas rfl (hd 11 rfl) <| Ab <| zsr <| zmv rfl (hd 65 rfl) <| Ac (Cd (Cm rfl rfl) (by simp)) (hd 66 rfl) <| Ab <| Bl rfl <| Am ?_; refine zsr <| Ac (Bd Bp rfl rfl rfl) (hd 71 rfl) <| Ac (A8 Ce rfl rfl rfl) (hd 72 rfl) <| zmv rfl (hd 73 rfl) ?_
        refine Aj Try.f86 (hS) rfl Try.func86 rfl rfl (Aa rfl (Aa rfl Ad)) (.cons .n (.cons .n .nil)) (hd 74 rfl) ?_ (fun ch hp => by simp at hp)
        rintro _ ⟨⟩; refine zmv rfl (hd 70 rfl) <| Ac (Ak rfl rfl) (hd 75 rfl) <| Ac (Ak rfl rfl) (hd 76 rfl) <| zas rfl (hd 10 rfl) <| Ab <| Ag <| zmv rfl (hd 77 rfl) <| Ac (Fn rfl) (hd 78 rfl) <| zas rfl (hd 13 rfl) <| Ab ?_
        refine ⟨(qn v w + 1, (w.natAbs : Int) - rn v w, !decide (v < 0)), ?_, rfl, Ba 40 rfl rfl ?_⟩
        · have hy := I1 (k := 4) h0 hrn hg
          exact ⟨hy.1, hy.2, by show 0 ≤ qn v w + 1; omega, by show 0 ≤ (w.natAbs : Int) - rn v w; omega⟩
        · exact (.cons rfl (.cons rfl (.cons rfl (.v9 (.v9 (.v9 (.v9 .nil)))))))
      · have hg : gro 4 v w = false := h3
        refine Am ?_
        refine ⟨(qn v w, rn v w, decide (v < 0)), ?_, rfl, Ba 19 rfl rfl ?_⟩
        · have hy := H5 (k := 4) h0 (by first | exact .inl hrn | exact .inr hg)
          exact ⟨hy.1, hy.2, hq0, hr0⟩
        · exact (.cons rfl (.cons rfl (.cons rfl (.v9 (.v9 (.v9 (.v9 .nil)))))))
    · have hrn : rn v w = 0 := La.1 (by omega)
      refine Ax 5 [6, 16, 17] (Gf 44 rfl rfl rfl (hd 46 rfl)) rfl <| Ax 7 [16, 17] (Gf 44 rfl rfl rfl (hd 48 rfl)) rfl <| Ax 8 [16, 17] (Gf 44 rfl rfl rfl (hd 49 rfl)) rfl <| Ax 9 [10, 16, 17] (Gf 44 rfl rfl rfl (hd 50 rfl)) rfl <| Ax 10 [16, 17] (Gf 44 rfl rfl rfl (hd 51 rfl)) rfl <| Ax 11 [16, 17] (Gf 44 rfl rfl rfl (hd 52 rfl)) rfl <| Ax 12 [13, 16, 17] (Gf 44 rfl rfl rfl (hd 53 rfl)) rfl <| Ax 13 [16, 17] (Gf 44 rfl rfl rfl (hd 54 rfl)) rfl <| Ax 14 [15, 16, 17] (Gf 44 rfl rfl rfl (hd 55 rfl)) rfl <| Ax 15 [16, 17] (Gf 44 rfl rfl rfl (hd 56 rfl)) rfl <| Ax 4 [6, 16, 17] (Gf 44 rfl rfl rfl (hd 45 rfl)) rfl <| Ax 6 [16, 17] (Gf 44 rfl rfl rfl (hd 47 rfl)) rfl <| zal 16 (Gf 44 rfl rfl rfl (hd 57 rfl)) rfl ?_; refine zal 17 (Ao (B9 rfl rfl) (hd 58 rfl)) rfl <| Bi (by kernel_rfl) <| Bl rfl <| Am ?_
      refine ⟨(qn v w, rn v w, decide (v < 0)), ?_, rfl, Ba 19 rfl rfl ?_⟩
      · have hy := H5 (k := 4) h0 (by first | exact .inl hrn | exact .inr hg)
        exact ⟨hy.1, hy.2, hq0, hr0⟩
      · exact (.cons rfl (.cons rfl (.cons rfl (.v9 (.v9 (.v9 (.v9 .nil)))))))
  · rintro ⟨q, r, rs⟩ ⟨hc1, hc2, hc3, hc4⟩
    dsimp only at hc1 hc2 hc3 hc4
    have hq1 : Bm q ≤ 67108864 := by have := A5 (v := q) (w := (wq 4 v w)) (by rw [← hc1, El]; exact Nat.le_refl _); omega
    have hr2 : Bm r ≤ 67108864 := by have := A5 (v := r) (w := (v - wq 4 v w * w)) (by rw [← hc2, El]; exact Nat.le_refl _); omega
    have hql := Bf hq1
    have hrl := Bf hr2
    refine zsr <| zmv rfl (hd 80 rfl) <| zmv rfl (hd 81 rfl) ?_
    refine C9 Try.f68 (Id (ng v w) (lm q) (wq 4 v w) (by omega) (Cq q) (by rw [K1 hc3]; exact hc1) (by omega)) (fun o G ⟨_, h⟩ => h ▸ Al Bc Ar) rfl Try.func68 rfl rfl (Aa rfl (Aa rfl (Aa rfl Ad))) (.cons .b (.cons .n (.cons .i .nil))) (hd 82 rfl) ?_ (fun ch G hp => by simp at hp)
    rintro y G ⟨hy, rfl⟩; injection hy with hy; subst hy
    show JO _ _ _ _ ((82, .t [.a [.b (decide ((wq 4 v w) < 0)), .o 4 0 0 (lm (wq 4 v w)).length], .i .i64 0]) :: _) _ _
    refine zmv rfl (hd 79 rfl) <| Ac (Ak rfl rfl) (hd 83 rfl) <| Ac (Ak rfl rfl) (hd 84 rfl) <| Ay (An (id := 5) At (by decide) rfl (by decide) rfl) (hd 14 rfl) <| A1 (Ae rfl rfl rfl Au rfl rfl (zlb rfl)) <| zas rfl (hd 11 rfl) <| Ab <| Af <| zsr <| zmv rfl (hd 85 rfl) <| Ac (Cd (Cm rfl rfl) (by simp)) (hd 86 rfl) <| Ab ?_; refine Bl rfl <| Am <| zsr <| zmv rfl (hd 91 rfl) <| zmv rfl (hd 92 rfl) ?_
    refine C9 Try.f68 (Id rs (lm r) (v - wq 4 v w * w) (by omega) (Cq r) (by rw [K1 hc4]; exact hc2) (by omega)) (fun o G ⟨_, h⟩ => h ▸ Al Bc Ar) rfl Try.func68 rfl rfl (Aa rfl (Aa rfl (Aa rfl Ad))) (.cons .b (.cons .n (.cons .i .nil))) (hd 93 rfl) ?_ (fun ch G hp => by simp at hp)
    rintro y G ⟨hy, rfl⟩; injection hy with hy; subst hy
    show JO _ _ _ _ ((93, .t [.a [.b (decide ((v - wq 4 v w * w) < 0)), .o 6 0 0 (lm (v - wq 4 v w * w)).length], .i .i64 0]) :: _) _ _
    refine zmv rfl (hd 90 rfl) <| Ac (Ak rfl rfl) (hd 94 rfl) <| Ac (Ak rfl rfl) (hd 95 rfl) <| Ay (An (id := 7) At (by decide) rfl (by decide) rfl) (hd 15 rfl) <| A1 (Ae rfl rfl rfl Au rfl rfl (zlb rfl)) <| zas rfl (hd 11 rfl) <| Ab <| Af <| zsr <| zmv rfl (hd 96 rfl) <| Ac (Cd (Cm rfl rfl) (by simp)) (hd 97 rfl) <| Ab ?_; refine Bl rfl <| Am <| Af <| Be (n := 5) _ rfl B2 <| zal 0 (Ao (Ah Aq rfl rfl rfl rfl) (hd 101 rfl)) rfl ?_
    refine Ct 1 2 ?_ ?_ rfl rfl (by kernel_rfl)
    · refine C4 (Ah Aq rfl rfl rfl rfl) (hd 102 rfl) ?_
      refine Bb 2 ?_ rfl (by kernel_rfl)
      refine A7 (Ae rfl rfl rfl Au rfl rfl (zlb rfl)) rfl ?_
      refine Bb 3 ?_ rfl (by kernel_rfl)
      refine A7 (Ae rfl rfl rfl Au rfl rfl (zlb rfl)) rfl <| zal 4 (Ao (Cr rfl) (hd 8 rfl)) rfl <| Bi (by kernel_rfl) <| As ?_
      refine ⟨[4, 6], _, (.t [.a [.b (decide ((wq 4 v w) < 0)), .o 0 0 0 (lm (wq 4 v w)).length], .a [.b (decide ((v - wq 4 v w * w) < 0)), .o 1 0 0 (lm (v - wq 4 v w * w)).length], .i .i64 0]), (.cons (ResV.cell Aq rfl rfl rfl rfl) (.cons (ResV.cell Aq rfl rfl rfl rfl) (.cons rfl .nil))), rfl, rfl, (by decide), (by first | exact Al Bc (Al Bc Ar) | exact Al rfl (Al rfl Ar)), ?_⟩
      exact ⟨rfl, rfl⟩
    · refine A7 (Ae rfl rfl rfl Au rfl rfl (zlb rfl)) rfl <| zal 1 (Ao (Ah Aq rfl rfl rfl rfl) (hd 102 rfl)) rfl ?_
      refine Bb 3 ?_ rfl (by kernel_rfl)
      refine A7 (Ae rfl rfl rfl Au rfl rfl (zlb rfl)) rfl <| zal 4 (Ao (Cr rfl) (hd 8 rfl)) rfl <| Bi (by kernel_rfl) <| As ?_
      refine ⟨[4, 6], _, (.t [.a [.b (decide ((wq 4 v w) < 0)), .o 0 0 0 (lm (wq 4 v w)).length], .a [.b (decide ((v - wq 4 v w * w) < 0)), .o 1 0 0 (lm (v - wq 4 v w * w)).length], .i .i64 0]), (.cons (ResV.cell Aq rfl rfl rfl rfl) (.cons (ResV.cell Aq rfl rfl rfl rfl) (.cons rfl .nil))), rfl, rfl, (by decide), (by first | exact Al Bc (Al Bc Ar) | exact Al rfl (Al rfl Ar)), ?_⟩
      exact ⟨rfl, rfl⟩

theorem Adw (s t : Bool) (a b : List Int) (v w : Int) (la : a.length < 1099511627776) (lb : b.length < 1099511627776) (ua : A3 a) (ub : A3 b) (ev : sv s a = v) (ew : sv t b = w) (hv : Bm v ≤ 67108864) (hw : Bm w ≤ 67108864) (h0 : w ≠ 0) : SpecM Try.prog 43 [.a [.b s, .n false .u64 a], .a [.b t, .n false .u64 b]] [] (fun o G => o = .ret (.t [.a [.b (decide ((wq 0 v w) < 0)), .o 0 0 0 (lm (wq 0 v w)).length], .a [.b (decide ((v - wq 0 v w * w) < 0)), .o 1 0 0 (lm (v - wq 0 v w * w)).length], .i .i64 0]) ∧ G = [⟨79, 1, 0, true, A2 .u64 (lm (wq 0 v w))⟩, ⟨79, 1, 0, true, A2 .u64 (lm (v - wq 0 v w * w))⟩]) := by
  refine Cy [(0, .a [.b s, .n false .u64 a]), (1, .a [.b t, .n false .u64 b])] rfl Try.func43 rfl (zlb rfl) fun Γ hN hds hL hR => ?_
  have hd := B5 13 hN
  refine zsr <| Ay (Br (id := 0) (n := 2) rfl rfl rfl (by decide) rfl) (hd 2 rfl) <| Ay (Br (id := 1) (n := 2) rfl rfl rfl (by decide) rfl) (hd 3 rfl) <| Ay (An (id := 2) At (by decide) rfl (by decide) rfl) (hd 4 rfl) <| Ay (An (id := 3) At (by decide) rfl (by decide) rfl) (hd 5 rfl) <| zas rfl (hd 6 rfl) <| Ab <| zsr <| Ac (Ah Aq rfl rfl rfl rfl) (hd 7 rfl) <| Ac (Ah Aq rfl rfl rfl rfl) (hd 8 rfl) ?_
  refine C9 Try.f66 (Ug s t a b v w la lb ua ub ev ew hv hw h0) (fun o G ⟨_, h⟩ => h ▸ Al Bc (Al Bc Ar)) rfl Try.func66 rfl rfl (Aa rfl (Aa rfl (Aa rfl Ad))) (.cons (.a1 .b (.a1 .n .a0)) (.cons (.a1 .b (.a1 .n .a0)) (.cons .i .nil))) (hd 9 rfl) ?_ (fun ch G hp => by simp at hp)
  rintro y G ⟨hy, rfl⟩; injection hy with hy; subst hy
  show JO _ _ _ _ ((9, .t [.a [.b (decide ((wq 0 v w) < 0)), .o 4 0 0 (lm (wq 0 v w)).length], .a [.b (decide ((v - wq 0 v w * w) < 0)), .o 5 0 0 (lm (v - wq 0 v w * w)).length], .i .i64 0]) :: _) _ _
  refine Ac (Ak rfl rfl) (hd 10 rfl) <| Ac (Ak rfl rfl) (hd 11 rfl) <| Ac (Ak rfl rfl) (hd 12 rfl) <| A1 (Ae rfl rfl rfl Au rfl rfl (zlb rfl)) <| A1 (Ae rfl rfl rfl Au rfl rfl (zlb rfl)) <| zas rfl (hd 6 rfl) <| Ab <| As ?_
  refine ⟨[4, 5], _, (.t [.a [.b (decide ((wq 0 v w) < 0)), .o 0 0 0 (lm (wq 0 v w)).length], .a [.b (decide ((v - wq 0 v w * w) < 0)), .o 1 0 0 (lm (v - wq 0 v w * w)).length], .i .i64 0]), (.cons (ResV.cell Aq rfl rfl rfl rfl) (.cons (ResV.cell Aq rfl rfl rfl rfl) (.cons rfl .nil))), rfl, rfl, (by decide), (by first | exact Al Bc (Al Bc Ar) | exact Al rfl (Al rfl Ar)), ?_⟩
  exact ⟨rfl, rfl⟩

theorem Gj (s t : Bool) (a b : List Int) (v w : Int) (la : a.length < 1099511627776) (lb : b.length < 1099511627776) (ua : A3 a) (ub : A3 b) (ev : sv s a = v) (ew : sv t b = w) (hv : Bm v ≤ 67108864) (hw : Bm w ≤ 67108864) (h0 : w ≠ 0) : SpecM Try.prog 39 [.a [.b s, .n false .u64 a], .a [.b t, .n false .u64 b]] [] (fun o G => o = .ret (.t [.a [.b (decide ((wq 4 v w) < 0)), .o 0 0 0 (lm (wq 4 v w)).length], .a [.b (decide ((v - wq 4 v w * w) < 0)), .o 1 0 0 (lm (v - wq 4 v w * w)).length], .i .i64 0]) ∧ G = [⟨79, 1, 0, true, A2 .u64 (lm (wq 4 v w))⟩, ⟨79, 1, 0, true, A2 .u64 (lm (v - wq 4 v w * w))⟩]) := by
  refine Cy [(0, .a [.b s, .n false .u64 a]), (1, .a [.b t, .n false .u64 b])] rfl Try.func39 rfl (zlb rfl) fun Γ hN hds hL hR => ?_
  have hd := B5 13 hN
  refine zsr <| Ay (Br (id := 0) (n := 2) rfl rfl rfl (by decide) rfl) (hd 2 rfl) <| Ay (Br (id := 1) (n := 2) rfl rfl rfl (by decide) rfl) (hd 3 rfl) <| Ay (An (id := 2) At (by decide) rfl (by decide) rfl) (hd 4 rfl) <| Ay (An (id := 3) At (by decide) rfl (by decide) rfl) (hd 5 rfl) <| zas rfl (hd 6 rfl) <| Ab <| zsr <| Ac (Ah Aq rfl rfl rfl rfl) (hd 7 rfl) <| Ac (Ah Aq rfl rfl rfl rfl) (hd 8 rfl) ?_
  refine C9 Try.f66 (Uf s t a b v w la lb ua ub ev ew hv hw h0) (fun o G ⟨_, h⟩ => h ▸ Al Bc (Al Bc Ar)) rfl Try.func66 rfl rfl (Aa rfl (Aa rfl (Aa rfl Ad))) (.cons (.a1 .b (.a1 .n .a0)) (.cons (.a1 .b (.a1 .n .a0)) (.cons .i .nil))) (hd 9 rfl) ?_ (fun ch G hp => by simp at hp)
  rintro y G ⟨hy, rfl⟩; injection hy with hy; subst hy
  show JO _ _ _ _ ((9, .t [.a [.b (decide ((wq 4 v w) < 0)), .o 4 0 0 (lm (wq 4 v w)).length], .a [.b (decide ((v - wq 4 v w * w) < 0)), .o 5 0 0 (lm (v - wq 4 v w * w)).length], .i .i64 0]) :: _) _ _
  refine Ac (Ak rfl rfl) (hd 10 rfl) <| Ac (Ak rfl rfl) (hd 11 rfl) <| Ac (Ak rfl rfl) (hd 12 rfl) <| A1 (Ae rfl rfl rfl Au rfl rfl (zlb rfl)) <| A1 (Ae rfl rfl rfl Au rfl rfl (zlb rfl)) <| zas rfl (hd 6 rfl) <| Ab <| As ?_
  refine ⟨[4, 5], _, (.t [.a [.b (decide ((wq 4 v w) < 0)), .o 0 0 0 (lm (wq 4 v w)).length], .a [.b (decide ((v - wq 4 v w * w) < 0)), .o 1 0 0 (lm (v - wq 4 v w * w)).length], .i .i64 0]), (.cons (ResV.cell Aq rfl rfl rfl rfl) (.cons (ResV.cell Aq rfl rfl rfl rfl) (.cons rfl .nil))), rfl, rfl, (by decide), (by first | exact Al Bc (Al Bc Ar) | exact Al rfl (Al rfl Ar)), ?_⟩
  exact ⟨rfl, rfl⟩


theorem Wy (x n : Nat) (hx : (Bj B32 x).length < 549755813888) (hn : n < 4294967296) : Spec Try.prog 77 [.n false .u64 (Bj B32 x), .i .i64 (n : Int)] (fun o => o = .ret (.n false .u64 (Bj B32 (x * 2 ^ n)))) := by
  refine Az [(0, .n false .u64 (Bj B32 x)), (1, .i .i64 (n : Int))] rfl Try.func77 rfl (zlb rfl) fun Γ hN hds hL hR => ?_
  have hd := B5 55 hN
  have hr := Gc (b := B32) (by decide) x
  have hs : n % 32 < 32 := by omega
  refine zsr <| zas rfl (hd 4 rfl) <| Ab <| Af <| zsr <| zmv rfl (hd 9 rfl) <| Ac (Av Dc rfl) (hd 10 rfl) <| Ac (Dy rfl rfl) (hd 11 rfl) <| Ab ?_
  refine Bu rfl (fun h1 => ?_) (fun h1 => ?_)
  · refine zsr <| zas rfl (hd 4 rfl) <| Ab <| As ?_
    refine ⟨_, _, (.cons rfl .nil), (.nil (fr := false) (k := .u64)), ?_⟩
    have hz : (Bj B32 x) = [] := List.eq_nil_of_length_eq_zero (by omega)
    rw [Ml.1 hz, Nat.zero_mul, Dg]
  · refine Am <| zsr <| zmv rfl (hd 12 rfl) <| Ac (Av Dc rfl) (hd 13 rfl) <| zmv rfl (hd 14 rfl) <| Ac (Fx rfl rfl (by omega) (r := ((n / 32 : Nat) : Int)) (Zl (by omega))) (hd 15 rfl) <| Ac (A9 rfl rfl (r := (((Bj B32 x).length + n / 32 : Nat) : Int)) (by rw [Ap (by omega) (by omega)]; omega)) (hd 16 rfl) <| Ac (A9 rfl rfl (r := (((Bj B32 x).length + n / 32 + 1 : Nat) : Int)) (by rw [Ap (by omega) (by omega)]; omega)) (hd 17 rfl) <| Ay (Fp (m := (Bj B32 x).length + n / 32 + 1) Vj rfl rfl rfl (by show 8 * ((Bj B32 x).length + n / 32 + 1) ≤ _; omega) (by unfold maxLen; omega) rfl) (hd 18 rfl) <| zas rfl (hd 5 rfl) <| Ab <| Af ?_; refine Ag <| zmv rfl (hd 19 rfl) <| Ac (B0 (Hq rfl rfl (by omega) rfl) (show V.i .i64 _ = V.i .i64 (((n % 32 : Nat) : Int)) from congrArg (V.i .i64) Aef)) (hd 20 rfl) <| zas rfl (hd 6 rfl) <| Ab <| Af <| zsr <| zmv rfl (hd 21 rfl) <| Ac (Av Dc rfl) (hd 22 rfl) <| zmv rfl (hd 23 rfl) <| Ab <| Aw ?_; refine Cs (H' := [⟨79, 1, 0, true, A2 .u64 (shR (Bj B32 x) (n % 32) (n / 32) 0)⟩]) (by rw [← Aec]; rfl) ?_
    refine B4 (G := Nat) (fun i => i ≤ (Bj B32 x).length) (fun i => [(23, .i .i64 (i : Int)), (7, .u), (8, .u), (24, .u), (25, .u), (26, .u), (27, .u), (28, .u), (29, .u), (30, .u), (31, .u), (32, .u), (33, .u), (34, .u), (35, .u), (36, .u), (37, .u), (38, .u), (39, .u), (40, .u), (41, .u), (42, .u), (43, .u), (44, .u), (45, .u), (46, .u), (47, .u), (48, .u), (49, .u), (50, .u), (51, .u), (52, .u)]) (fun i => [⟨79, 1, 0, true, A2 .u64 (shR (Bj B32 x) (n % 32) (n / 32) i)⟩]) (fun i => (Bj B32 x).length - i) 0 ?_ ?_ rfl ?_
    · exact Nat.zero_le _
    · exact (.cons rfl (.v9 (.v9 (.v9 (.u .nil)))))
    · rintro i hc1
      have hf := Y4 (s := (n % 32)) (w := (n / 32)) hc1
      have hc := Sb hs hr i
      have hx := Gb (by decide) hr i
      have hp := Sa hs hr i
      have hel := Abp (x := (Bj B32 x).getD i 0) hs hc.1 hc.2
      refine zsr <| Ac (Ch rfl rfl) (hd 24 rfl) <| Ab <| Af ?_
      refine Bu rfl (fun h2 => ?_) (fun h2 => ?_)
      · refine Am <| Af <| Aw <| zsr <| zmv rfl (hd 25 rfl) <| Ac (B8 (i := i) Dc rfl rfl (by first | rfl | omega) (by omega)) (hd 26 rfl) <| Ac (B7 Bw rfl rfl) (hd 27 rfl) <| zas rfl (hd 7 rfl) <| zas rfl (hd 8 rfl) <| Ab <| Af <| Be (n := 14) _ rfl B2 ?_; refine Ax 0 [5, 6, 11, 12, 13] (Ao (A0 rfl) (hd 28 rfl)) rfl <| Ax 1 [4, 5, 6, 11, 12, 13] (Ao (A0 rfl) (hd 29 rfl)) rfl <| Ax 2 [3, 4, 5, 6, 11, 12, 13] (Ao (A0 rfl) (hd 30 rfl)) rfl <| Ax 3 [4, 5, 6, 11, 12, 13] (Ao (Fx rfl rfl (by omega) (r := ((n / 32 : Nat) : Int)) (Zl (by omega))) (hd 31 rfl)) rfl <| Ax 4 [5, 6, 11, 12, 13] (Ao (A9 rfl rfl (r := ((i + n / 32 : Nat) : Int)) (by rw [Ap (by omega) (by omega)]; omega)) (hd 32 rfl)) rfl <| Ax 5 [6, 11, 12, 13] (Ao (Ci (i := i + n / 32) Dc rfl rfl rfl (by first | rfl | omega) (by omega) rfl) (hd 33 rfl)) rfl <| zal 6 (Ao (B0 (Es Bw rfl rfl (by omega)) (show V.i .u64 _ = V.i .u64 ((I0 (Bj B32 x) (n % 32) i).2) from congrArg (V.i .u64) Y5)) (hd 34 rfl)) rfl <| Ax 7 [9, 10, 11, 12, 13] (Ao (A0 rfl) (hd 35 rfl)) rfl <| Ax 8 [9, 10, 11, 12, 13] (Ao (A0 rfl) (hd 36 rfl)) rfl <| Ax 9 [10, 11, 12, 13] (Ao (B0 (Gx rfl rfl (by omega) rfl) (show V.i .u64 _ = V.i .u64 (((Bj B32 x).getD i 0 * 2 ^ (n % 32))) from congrArg (V.i .u64) (N6 hs hx.1 hx.2))) (hd 37 rfl)) rfl <| zal 10 (Ao (B0 (Hq rfl rfl (by decide) rfl) (show V.i .u64 _ = V.i .u64 (((Bj B32 x).getD i 0 * 2 ^ (n % 32)) % 4294967296) from congrArg (V.i .u64) (Int.tmod_eq_emod_of_nonneg hp.1))) (hd 38 rfl)) rfl <| zal 11 (Ao (A9 rfl rfl (Bh hel.1 (Int.lt_trans hel.2 (by decide)))) (hd 39 rfl)) rfl <| zal 12 (Ao (Ci (i := i + n / 32) Dc rfl rfl rfl (by first | rfl | omega) (by omega) rfl) (hd 40 rfl)) rfl ?_
        refine Bb 13 ?_ rfl (by kernel_rfl)
        refine A7 (Cc rfl rfl rfl Bw (by omega)) rfl <| Bi (by kernel_rfl) <| Ag <| zmv rfl (hd 41 rfl) <| zmv rfl (hd 42 rfl) <| zmv rfl (hd 43 rfl) <| Ac (Fx rfl rfl (by omega) (r := ((n / 32 : Nat) : Int)) (Zl (by omega))) (hd 44 rfl) <| Ac (A9 rfl rfl (r := ((i + n / 32 : Nat) : Int)) (by rw [Ap (by omega) (by omega)]; omega)) (hd 45 rfl) <| Ac (A9 rfl rfl (r := ((i + n / 32 + 1 : Nat) : Int)) (by rw [Ap (by omega) (by omega)]; omega)) (hd 46 rfl) <| zmv rfl (hd 47 rfl) <| zmv rfl (hd 48 rfl) <| Ac (B0 (Gx rfl rfl (by omega) rfl) (show V.i .u64 _ = V.i .u64 (((Bj B32 x).getD i 0 * 2 ^ (n % 32))) from congrArg (V.i .u64) (N6 hs hx.1 hx.2))) (hd 49 rfl) <| Ac (Fx rfl rfl (by decide) (r := ((Bj B32 x).getD i 0 * 2 ^ (n % 32)) / 4294967296) (L4 hp.1 (by omega) (by decide))) (hd 50 rfl) ?_; refine Ac (Ci (i := i + n / 32 + 1) Dc rfl rfl rfl (by first | rfl | omega) (by omega) rfl) (hd 51 rfl) <| A1 (Cc rfl rfl rfl Bw (by simp only [List.length_set]; omega)) <| Ab <| Ag <| Ac (A9 rfl rfl (Ap (by omega) (by omega))) (hd 52 rfl) <| zmv rfl (hd 23 rfl) <| Ab ?_
        refine ⟨i + 1, ?_, ?_, (by show [(⟨79, 1, 0, true, A2 .u64 _⟩ : Ob)] = [⟨79, 1, 0, true, A2 .u64 _⟩]; rw [Y3 (by omega)]), Ba 64 rfl rfl ?_⟩
        · omega
        · omega
        · exact (.cons rfl (.v9 (.v9 (.v9 (.u .nil)))))
      · obtain rfl : i = (Bj B32 x).length := by omega
        refine By <| zsr <| Gz (k := .u64) (l := shR (Bj B32 x) (n % 32) (n / 32) (Bj B32 x).length) (l' := shR (Bj B32 x) (n % 32) (n / 32) (Bj B32 x).length) 5 rfl rfl (by omega) (by rw [List.drop_zero, List.take_of_length_le (by omega)]) hL <| zmv rfl (hd 53 rfl) ?_
        refine Aj Try.f53 (Hx (shR (Bj B32 x) (n % 32) (n / 32) (Bj B32 x).length) (by omega)) rfl Try.func53 rfl rfl (Aa rfl Ad) (.cons .n .nil) (hd 54 rfl) ?_ (fun ch hp => by simp at hp)
        rintro _ ⟨⟩; refine zas rfl (hd 4 rfl) <| Ab <| As ?_
        refine ⟨_, _, (.cons rfl .nil), .n, ?_⟩
        rw [Y6]

theorem Xl (x y : Nat) (hx : (Bj B32 x).length < 4294967296) (hy : (Bj B32 y).length < 4294967296) (h0 : 0 < y) : Spec Try.prog 58 [.n false .u64 (Bj B32 x), .n false .u64 (Bj B32 y)] (fun o => o = .ret (.t [.n false .u64 (Bj B32 (x / y)), .n false .u64 (Bj B32 (x % y))])) := by
  refine Az [(0, .n false .u64 (Bj B32 x)), (1, .n false .u64 (Bj B32 y))] rfl Try.func58 rfl (zlb rfl) fun Γ hN hds hL hR => ?_
  have hd := B5 60 hN
  refine zsr <| zas rfl (hd 4 rfl) <| zas rfl (hd 5 rfl) <| Ab <| zsr <| zas rfl (hd 6 rfl) <| Ab <| zsr <| zmv rfl (hd 12 rfl) <| Ac (Av Dc rfl) (hd 13 rfl) ?_; refine Ay (Fp (m := (Bj B32 x).length) Vj rfl rfl rfl (by show 8 * (Bj B32 x).length ≤ _; omega) (by unfold maxLen; omega) rfl) (hd 14 rfl) <| zas rfl (hd 7 rfl) <| Ab <| Af <| Af <| Z7 (k := .u64) 6 rfl <| Ag <| zmv rfl (hd 15 rfl) <| Ac (Av Dc rfl) (hd 16 rfl) <| Ac (B1 rfl rfl (Ap (by omega) (by omega))) (hd 17 rfl) <| zas rfl (hd 8 rfl) <| Ab <| Aw ?_; refine Cs (H' := [⟨79, 1, 0, true, A2 .u64 (List.replicate (Bj B32 x).length 0 ++ [])⟩]) (by rw [List.append_nil]; rfl) ?_
  refine Iq (G := Nat × List Int) 1 (fun g => g.1 ≤ (Bj B32 x).length ∧ Qd x y g.1 g.2) (fun g => [(6, .n false .u64 (Bj B32 (x / B32 ^ g.1 % y))), (8, .i .i64 ((g.1 : Int) - 1)), (9, .u), (10, .u), (11, .u), (18, .u), (19, .u), (20, .u), (21, .u), (22, .u), (23, .u), (24, .u), (25, .u), (26, .u), (27, .u), (28, .u), (29, .u), (30, .u), (31, .u), (32, .u), (33, .u), (34, .u), (35, .u), (36, .u), (37, .u), (38, .u), (39, .u), (40, .u), (41, .u), (42, .u), (43, .u), (44, .u), (45, .u), (46, .u), (47, .u), (48, .u), (49, .u), (50, .u), (51, .u), (52, .u), (53, .u), (54, .u), (55, .u), (56, .u)]) (fun g => [⟨79, 1, 0, true, A2 .u64 (List.replicate g.1 0 ++ g.2)⟩]) (fun g => g.1) ((Bj B32 x).length, []) ?_ ?_ rfl hR rfl (fun _ _ => rfl) (fun g _ => .cons Bc .nil) ?_
  · exact ⟨Nat.le_refl _, Af6⟩
  · exact (.cons (by show some (V.n false .u64 []) = some (V.n false .u64 (Bj B32 (x / B32 ^ (Bj B32 x).length % y))); rw [Abg, Nat.zero_mod, Dg]) (.cons rfl (.v9 (.v9 (.v9 (.v9 (.u (.u .nil))))))))
  · rintro ⟨k, Q⟩ ⟨hk, hQ⟩
    dsimp only at hk hQ
    obtain ⟨R, hR0⟩ : ∃ R, x / B32 ^ k % y * B32 + x / B32 ^ (k - 1) % B32 = R := ⟨_, rfl⟩
    have hRb := Afk (x := x) (k := k) h0
    rw [hR0] at hRb
    have hlR := Px hRb
    have hlA := Xx (Nat.le_of_lt (Nat.mod_lt (x / B32 ^ k) h0))
    have hAB : x / B32 ^ k % y * 2 ^ 32 < y * B32 := Nat.mul_lt_mul_of_pos_right (Nat.mod_lt (x / B32 ^ k) h0) (by decide)
    have hlAB := Px hAB
    have hdB := Nat.mod_lt (x / B32 ^ (k - 1)) (show 0 < B32 by decide)
    have hlD : (Bj B32 (x / B32 ^ (k - 1) % B32)).length ≤ 1 := J2 (by decide) 1 _ (by rw [Nat.pow_one]; exact hdB)
    have hNm : Spec Try.prog 53 [.n false .u64 [((x / B32 ^ (k - 1) % B32 : Nat) : Int)]] (fun o => o = .ret (.n false .u64 (Bj B32 (x / B32 ^ (k - 1) % B32)))) := by have h := Hx [((x / B32 ^ (k - 1) % B32 : Nat) : Int)] (by simp); rwa [Ad8 hdB] at h
    have hAdd : Spec Try.prog 74 [.n false .u64 (Bj B32 (x / B32 ^ k % y * 2 ^ 32)), .n false .u64 (Bj B32 (x / B32 ^ (k - 1) % B32))] (fun o => o = .ret (.n false .u64 (Bj B32 R))) := by have h := Xm (x / B32 ^ k % y * 2 ^ 32) (x / B32 ^ (k - 1) % B32) (by omega) (by omega); rw [show x / B32 ^ k % y * 2 ^ 32 + x / B32 ^ (k - 1) % B32 = R from hR0] at h; exact h
    refine Af <| zsr <| zmv rfl (hd 18 rfl) <| Ac (Eu rfl rfl) (hd 19 rfl) <| Ab ?_
    refine Bu rfl (fun h1 => ?_) (fun h1 => ?_)
    · refine Am <| Af <| Aw <| Af <| Be (n := 10) _ rfl B2 <| Ax 0 [1, 7, 8, 9] (Ao (A0 rfl) (hd 22 rfl)) rfl <| Ax 2 [4, 5, 6, 7, 8, 9] (Ao (A0 rfl) (hd 24 rfl)) rfl <| Ax 3 [4, 5, 6, 7, 8, 9] (Ao (A0 rfl) (hd 25 rfl)) rfl <| Ax 4 [5, 6, 7, 8, 9] (Ao (B8 (i := k - 1) Dc rfl rfl (by omega) (by omega)) (hd 26 rfl)) rfl <| Ax 5 [6, 7, 8, 9] (Ao (B0 (B7 Bw rfl rfl) (by show V.i .u64 _ = V.i .u64 (((x / B32 ^ (k - 1) % B32 : Nat) : Int)); exact congrArg (V.i .u64) (Mm (by decide) (k - 1) x))) (hd 27 rfl)) rfl ?_
      refine Ct 1 6 ?_ ?_ rfl rfl (by kernel_rfl)
      · refine A4 Try.f77 (Wy (x / B32 ^ k % y) 32 (by omega) (by decide)) rfl Try.func77 rfl rfl (Aa rfl (Aa rfl Ad)) (.cons .n (.cons .i .nil)) (hd 23 rfl) ?_ (fun ch hp => by simp at hp)
        rintro y hy; injection hy with hy; subst hy
        refine Bb 6 ?_ rfl (by kernel_rfl)
        refine Cw (Hs (id := 1) (xs := [.tmp 27]) Vj rfl (Aa rfl Ad) rfl (F3 rfl) (by decide) rfl) (hd 28 rfl) <| X2 (k := .u64) (l := [((x / B32 ^ (k - 1) % B32 : Nat) : Int)]) (l' := [((x / B32 ^ (k - 1) % B32 : Nat) : Int)]) 28 rfl rfl (Nat.le_refl _) rfl hL ?_
        refine Bb 7 ?_ rfl (by kernel_rfl)
        refine A4 Try.f53 (hNm) rfl Try.func53 rfl rfl (Aa rfl Ad) (.cons .n .nil) (hd 29 rfl) ?_ (fun ch hp => by simp at hp)
        rintro y hy; injection hy with hy; subst hy
        refine Bb 8 ?_ rfl (by kernel_rfl)
        refine A4 Try.f74 (hAdd) rfl Try.func74 rfl rfl (Aa rfl (Aa rfl Ad)) (.cons .n (.cons .n .nil)) (hd 30 rfl) ?_ (fun ch hp => by simp at hp)
        rintro _ ⟨⟩; refine zal 9 (Ao (Cr rfl) (hd 6 rfl)) rfl <| Bi (by kernel_rfl) <| zsr <| zas rfl (hd 9 rfl) <| Ab ?_
        refine Cu (G := Unit) (fun _ => True) (fun _ => [(6, .n false .u64 (Bj B32 (R % y))), (9, .i .u64 ((R / y : Nat) : Int)), (10, .u), (11, .u), (31, .u), (32, .u), (33, .u), (34, .u), (35, .u), (36, .u), (37, .u), (38, .u), (39, .u), (40, .u), (41, .u), (42, .u), (43, .u), (44, .u), (45, .u), (46, .u), (47, .u), (48, .u), (49, .u), (50, .u), (51, .u), (52, .u)]) ?_ ?_
        · refine zsr <| zmv rfl (hd 31 rfl) <| zmv rfl (hd 32 rfl) ?_
          refine Aj Try.f75 (M2 R y (by omega) (by omega)) rfl Try.func75 rfl rfl (Aa rfl (Aa rfl Ad)) (.cons .n (.cons .n .nil)) (hd 33 rfl) ?_ (fun ch hp => by simp at hp)
          rintro _ ⟨⟩; refine Ac (Eu rfl rfl) (hd 34 rfl) <| Ab ?_
          refine Bu rfl (fun h2 => ?_) (fun h2 => ?_)
          · refine zsr <| zas rfl (hd 10 rfl) <| Ab <| Aw ?_
            refine B4 (G := Nat × Nat) (fun g => Hlv R y g.1 g.2) (fun g => [(6, .n false .u64 (Bj B32 (R - y * g.2))), (9, .i .u64 (g.2 : Int)), (10, .i .i64 ((g.1 : Int) - 1)), (11, .u), (35, .u), (36, .u), (37, .u), (38, .u), (39, .u), (40, .u), (41, .u), (42, .u), (43, .u), (44, .u), (45, .u), (46, .u), (47, .u), (48, .u), (49, .u), (50, .u), (51, .u), (52, .u)]) (fun _ => _) (fun g => g.1) (32, 0) ?_ ?_ rfl ?_
            · exact Acw hRb
            · exact (.cons (by show some (V.n false .u64 (Bj B32 R)) = some (V.n false .u64 (Bj B32 (R - y * 0))); rw [Nat.mul_zero, Nat.sub_zero]) (.cons rfl (.cons rfl (.v9 (.v5 (.u (.u (.u (.u .nil)))))))))
            · rintro ⟨t, q⟩ hH
              dsimp only at hH
              have hlq := Tu (t := t) (q := q) hRb
              refine Af <| zsr <| zmv rfl (hd 35 rfl) <| Ac (Eu rfl rfl) (hd 36 rfl) <| Ab ?_
              refine Bu rfl (fun h3 => ?_) (fun h3 => ?_)
              · obtain ⟨s, rfl⟩ : ∃ s, t = s + 1 := ⟨t - 1, by omega⟩
                have hs : s < 32 := by have := hH.1; omega
                have hls := Xw (y := y) h0 hs
                refine Am ?_
                refine Cu (G := Nat) (fun g => Hlv R y s g) (fun g => [(6, .n false .u64 (Bj B32 (R - y * g))), (9, .i .u64 (g : Int)), (11, .u), (39, .u), (40, .u), (41, .u), (42, .u), (43, .u), (44, .u), (45, .u), (46, .u), (47, .u), (48, .u), (49, .u), (50, .u), (51, .u), (52, .u)]) ?_ ?_
                · refine Aw <| zsr <| zmv rfl (hd 39 rfl) <| Ac (B0 (A0 rfl) (show V.i .i64 _ = V.i .i64 (s : Int) by congr 1; omega)) (hd 40 rfl) ?_
                  refine Aj Try.f77 (Wy y s (by omega) (by omega)) rfl Try.func77 rfl rfl (Aa rfl (Aa rfl Ad)) (.cons .n (.cons .i .nil)) (hd 41 rfl) ?_ (fun ch hp => by simp at hp)
                  rintro _ ⟨⟩; refine zas rfl (hd 11 rfl) <| Ab <| zsr <| zmv rfl (hd 42 rfl) <| zmv rfl (hd 43 rfl) ?_
                  refine Aj Try.f75 (M2 (R - y * q) (y * 2 ^ s) (by omega) (by omega)) rfl Try.func75 rfl rfl (Aa rfl (Aa rfl Ad)) (.cons .n (.cons .n .nil)) (hd 44 rfl) ?_ (fun ch hp => by simp at hp)
                  rintro _ ⟨⟩; refine Ac (Eu rfl rfl) (hd 45 rfl) <| Ab ?_
                  refine Bu rfl (fun h4 => ?_) (fun h4 => ?_)
                  · have hle := Uo h4
                    obtain ⟨hy1, hy2⟩ := Tt hH hle
                    have hqb := hy1.2.2.2
                    refine zsr <| zmv rfl (hd 46 rfl) <| zmv rfl (hd 47 rfl) ?_
                    refine Aj Try.f76 (Po (R - y * q) (y * 2 ^ s) hle (by omega) (by omega)) rfl Try.func76 rfl rfl (Aa rfl (Aa rfl Ad)) (.cons .n (.cons .n .nil)) (hd 48 rfl) ?_ (fun ch hp => by simp at hp)
                    rintro _ ⟨⟩; refine zas rfl (hd 6 rfl) <| Ab <| Ag <| zmv rfl (hd 49 rfl) <| Ac (B0 (A0 rfl) (show V.i .i64 _ = V.i .i64 (s : Int) by congr 1; omega)) (hd 50 rfl) <| Ac (B0 (Gx rfl rfl (by omega) rfl) (show V.i .u64 _ = V.i .u64 (((2 ^ s : Nat) : Int)) from congrArg (V.i .u64) (Ux hs))) (hd 51 rfl) <| Ac (A9 rfl rfl (r := ((q + 2 ^ s : Nat) : Int)) (by generalize 2 ^ s = u at *; rw [Bh (by omega) (by omega)]; omega)) (hd 52 rfl) <| zas rfl (hd 9 rfl) <| Ab ?_
                    refine ⟨(q + 2 ^ s), ?_, rfl, Ba 17 rfl rfl ?_⟩
                    · exact hy1
                    · exact (.cons (by show some (V.n false .u64 _) = some (V.n false .u64 _); rw [hy2]) (.cons rfl (.v9 (.v5 .nil))))
                  · have hno := X3 hH (fun hle => h4 (Up hle))
                    refine Am ?_
                    refine ⟨q, ?_, rfl, Ba 8 rfl rfl ?_⟩
                    · exact hno
                    · exact (.cons rfl (.cons rfl (.v9 (.v5 .nil))))
                · rintro q' hH'; refine Ag <| zmv rfl (hd 37 rfl) <| Ac (B1 rfl rfl (Ap (by omega) (by omega))) (hd 38 rfl) <| zas rfl (hd 10 rfl) <| Ab ?_
                  refine ⟨(s, q'), ?_, ?_, rfl, Ba 44 rfl rfl ?_⟩
                  · exact hH'
                  · show s < s + 1
                    omega
                  · exact (.cons rfl (.cons rfl (.cons (by show some (V.i .i64 _) = some (V.i .i64 _); congr 2; omega) (.v9 (.v5 (.u (.u (.u (.u .nil)))))))))
              · obtain rfl : t = 0 := by omega
                obtain ⟨he1, he2⟩ := Tv hH
                refine By ?_
                refine ⟨(), ?_, rfl, Ba 29 rfl rfl ?_⟩
                · trivial
                · exact (.cons (by show some (V.n false .u64 _) = some (V.n false .u64 _); rw [he2]) (.cons (by show some (V.i .u64 _) = some (V.i .u64 _); rw [he1]) (.v9 (.v9 (.u (.u (.u (.u .nil))))))))
          · have hlt := Un h2
            refine Am ?_
            refine ⟨(), ?_, rfl, Ba 4 rfl rfl ?_⟩
            · trivial
            · exact (.cons (by show some (V.n false .u64 _) = some (V.n false .u64 _); rw [Nat.mod_eq_of_lt hlt]) (.cons (by show some (V.i .u64 _) = some (V.i .u64 _); rw [Nat.div_eq_of_lt hlt]; rfl) (.v9 (.v9 (.u (.u (.u (.u .nil))))))))
        · rintro _ _; refine Ag <| zmv rfl (hd 53 rfl) <| zmv rfl (hd 54 rfl) <| zmv rfl (hd 55 rfl) <| Ac (Ci (i := k - 1) Dc rfl rfl rfl (by omega) (by omega) rfl) (hd 56 rfl) <| A1 (Cc rfl rfl rfl Bw (by simp only [List.length_append, List.length_replicate]; omega)) <| Ab <| Ag <| zmv rfl (hd 20 rfl) <| Ac (B1 rfl rfl (Ap (by omega) (by omega))) (hd 21 rfl) <| zas rfl (hd 8 rfl) <| Ab ?_
          refine ⟨(k - 1, ((R / y : Nat) : Int) :: Q), ?_, ?_, (by show [(⟨79, 1, 0, true, A2 .u64 _⟩ : Ob)] = [⟨79, 1, 0, true, A2 .u64 _⟩]; rw [Nj (by omega)]), Ba 91 rfl rfl ?_⟩
          · exact ⟨by show k - 1 ≤ _; omega, by rw [← hR0]; exact hQ.next h0 (by omega) hk⟩
          · show k - 1 < k
            omega
          · exact (.cons (by show some (V.n false .u64 _) = some (V.n false .u64 _); rw [(Mj h0 (by omega)).2, hR0]) (.cons (by show some (V.i .i64 _) = some (V.i .i64 _); congr 2; omega) (.v9 (.v9 (.v9 (.v9 (.u (.u .nil))))))))
      · refine Cw (Hs (id := 1) (xs := [.tmp 27]) Vj rfl (Aa rfl Ad) rfl (F3 rfl) (by decide) rfl) (hd 28 rfl) <| X2 (k := .u64) (l := [((x / B32 ^ (k - 1) % B32 : Nat) : Int)]) (l' := [((x / B32 ^ (k - 1) % B32 : Nat) : Int)]) 28 rfl rfl (Nat.le_refl _) rfl hL ?_
        refine Bb 1 ?_ rfl (by kernel_rfl)
        refine A4 Try.f77 (Wy (x / B32 ^ k % y) 32 (by omega) (by decide)) rfl Try.func77 rfl rfl (Aa rfl (Aa rfl Ad)) (.cons .n (.cons .i .nil)) (hd 23 rfl) ?_ (fun ch hp => by simp at hp)
        rintro y hy; injection hy with hy; subst hy
        refine Bb 7 ?_ rfl (by kernel_rfl)
        refine A4 Try.f53 (hNm) rfl Try.func53 rfl rfl (Aa rfl Ad) (.cons .n .nil) (hd 29 rfl) ?_ (fun ch hp => by simp at hp)
        rintro y hy; injection hy with hy; subst hy
        refine Bb 8 ?_ rfl (by kernel_rfl)
        refine A4 Try.f74 (hAdd) rfl Try.func74 rfl rfl (Aa rfl (Aa rfl Ad)) (.cons .n (.cons .n .nil)) (hd 30 rfl) ?_ (fun ch hp => by simp at hp)
        rintro _ ⟨⟩; refine zal 9 (Ao (Cr rfl) (hd 6 rfl)) rfl <| Bi (by kernel_rfl) <| zsr <| zas rfl (hd 9 rfl) <| Ab ?_
        refine Cu (G := Unit) (fun _ => True) (fun _ => [(6, .n false .u64 (Bj B32 (R % y))), (9, .i .u64 ((R / y : Nat) : Int)), (10, .u), (11, .u), (31, .u), (32, .u), (33, .u), (34, .u), (35, .u), (36, .u), (37, .u), (38, .u), (39, .u), (40, .u), (41, .u), (42, .u), (43, .u), (44, .u), (45, .u), (46, .u), (47, .u), (48, .u), (49, .u), (50, .u), (51, .u), (52, .u)]) ?_ ?_
        · refine zsr <| zmv rfl (hd 31 rfl) <| zmv rfl (hd 32 rfl) ?_
          refine Aj Try.f75 (M2 R y (by omega) (by omega)) rfl Try.func75 rfl rfl (Aa rfl (Aa rfl Ad)) (.cons .n (.cons .n .nil)) (hd 33 rfl) ?_ (fun ch hp => by simp at hp)
          rintro _ ⟨⟩; refine Ac (Eu rfl rfl) (hd 34 rfl) <| Ab ?_
          refine Bu rfl (fun h5 => ?_) (fun h5 => ?_)
          · refine zsr <| zas rfl (hd 10 rfl) <| Ab <| Aw ?_
            refine B4 (G := Nat × Nat) (fun g => Hlv R y g.1 g.2) (fun g => [(6, .n false .u64 (Bj B32 (R - y * g.2))), (9, .i .u64 (g.2 : Int)), (10, .i .i64 ((g.1 : Int) - 1)), (11, .u), (35, .u), (36, .u), (37, .u), (38, .u), (39, .u), (40, .u), (41, .u), (42, .u), (43, .u), (44, .u), (45, .u), (46, .u), (47, .u), (48, .u), (49, .u), (50, .u), (51, .u), (52, .u)]) (fun _ => _) (fun g => g.1) (32, 0) ?_ ?_ rfl ?_
            · exact Acw hRb
            · exact (.cons (by show some (V.n false .u64 (Bj B32 R)) = some (V.n false .u64 (Bj B32 (R - y * 0))); rw [Nat.mul_zero, Nat.sub_zero]) (.cons rfl (.cons rfl (.v9 (.v5 (.u (.u (.u (.u .nil)))))))))
            · rintro ⟨t, q⟩ hH
              dsimp only at hH
              have hlq := Tu (t := t) (q := q) hRb
              refine Af <| zsr <| zmv rfl (hd 35 rfl) <| Ac (Eu rfl rfl) (hd 36 rfl) <| Ab ?_
              refine Bu rfl (fun h6 => ?_) (fun h6 => ?_)
              · obtain ⟨s, rfl⟩ : ∃ s, t = s + 1 := ⟨t - 1, by omega⟩
                have hs : s < 32 := by have := hH.1; omega
                have hls := Xw (y := y) h0 hs
                refine Am ?_
                refine Cu (G := Nat) (fun g => Hlv R y s g) (fun g => [(6, .n false .u64 (Bj B32 (R - y * g))), (9, .i .u64 (g : Int)), (11, .u), (39, .u), (40, .u), (41, .u), (42, .u), (43, .u), (44, .u), (45, .u), (46, .u), (47, .u), (48, .u), (49, .u), (50, .u), (51, .u), (52, .u)]) ?_ ?_
                · refine Aw <| zsr <| zmv rfl (hd 39 rfl) <| Ac (B0 (A0 rfl) (show V.i .i64 _ = V.i .i64 (s : Int) by congr 1; omega)) (hd 40 rfl) ?_
                  refine Aj Try.f77 (Wy y s (by omega) (by omega)) rfl Try.func77 rfl rfl (Aa rfl (Aa rfl Ad)) (.cons .n (.cons .i .nil)) (hd 41 rfl) ?_ (fun ch hp => by simp at hp)
                  rintro _ ⟨⟩; refine zas rfl (hd 11 rfl) <| Ab <| zsr <| zmv rfl (hd 42 rfl) <| zmv rfl (hd 43 rfl) ?_
                  refine Aj Try.f75 (M2 (R - y * q) (y * 2 ^ s) (by omega) (by omega)) rfl Try.func75 rfl rfl (Aa rfl (Aa rfl Ad)) (.cons .n (.cons .n .nil)) (hd 44 rfl) ?_ (fun ch hp => by simp at hp)
                  rintro _ ⟨⟩; refine Ac (Eu rfl rfl) (hd 45 rfl) <| Ab ?_
                  refine Bu rfl (fun h7 => ?_) (fun h7 => ?_)
                  · have hle := Uo h7
                    obtain ⟨hy1, hy2⟩ := Tt hH hle
                    have hqb := hy1.2.2.2
                    refine zsr <| zmv rfl (hd 46 rfl) <| zmv rfl (hd 47 rfl) ?_
                    refine Aj Try.f76 (Po (R - y * q) (y * 2 ^ s) hle (by omega) (by omega)) rfl Try.func76 rfl rfl (Aa rfl (Aa rfl Ad)) (.cons .n (.cons .n .nil)) (hd 48 rfl) ?_ (fun ch hp => by simp at hp)
                    rintro _ ⟨⟩; refine zas rfl (hd 6 rfl) <| Ab <| Ag <| zmv rfl (hd 49 rfl) <| Ac (B0 (A0 rfl) (show V.i .i64 _ = V.i .i64 (s : Int) by congr 1; omega)) (hd 50 rfl) <| Ac (B0 (Gx rfl rfl (by omega) rfl) (show V.i .u64 _ = V.i .u64 (((2 ^ s : Nat) : Int)) from congrArg (V.i .u64) (Ux hs))) (hd 51 rfl) <| Ac (A9 rfl rfl (r := ((q + 2 ^ s : Nat) : Int)) (by generalize 2 ^ s = u at *; rw [Bh (by omega) (by omega)]; omega)) (hd 52 rfl) <| zas rfl (hd 9 rfl) <| Ab ?_
                    refine ⟨(q + 2 ^ s), ?_, rfl, Ba 17 rfl rfl ?_⟩
                    · exact hy1
                    · exact (.cons (by show some (V.n false .u64 _) = some (V.n false .u64 _); rw [hy2]) (.cons rfl (.v9 (.v5 .nil))))
                  · have hno := X3 hH (fun hle => h7 (Up hle))
                    refine Am ?_
                    refine ⟨q, ?_, rfl, Ba 8 rfl rfl ?_⟩
                    · exact hno
                    · exact (.cons rfl (.cons rfl (.v9 (.v5 .nil))))
                · rintro q' hH'; refine Ag <| zmv rfl (hd 37 rfl) <| Ac (B1 rfl rfl (Ap (by omega) (by omega))) (hd 38 rfl) <| zas rfl (hd 10 rfl) <| Ab ?_
                  refine ⟨(s, q'), ?_, ?_, rfl, Ba 44 rfl rfl ?_⟩
                  · exact hH'
                  · show s < s + 1
                    omega
                  · exact (.cons rfl (.cons rfl (.cons (by show some (V.i .i64 _) = some (V.i .i64 _); congr 2; omega) (.v9 (.v5 (.u (.u (.u (.u .nil)))))))))
              · obtain rfl : t = 0 := by omega
                obtain ⟨he1, he2⟩ := Tv hH
                refine By ?_
                refine ⟨(), ?_, rfl, Ba 29 rfl rfl ?_⟩
                · trivial
                · exact (.cons (by show some (V.n false .u64 _) = some (V.n false .u64 _); rw [he2]) (.cons (by show some (V.i .u64 _) = some (V.i .u64 _); rw [he1]) (.v9 (.v9 (.u (.u (.u (.u .nil))))))))
          · have hlt := Un h5
            refine Am ?_
            refine ⟨(), ?_, rfl, Ba 4 rfl rfl ?_⟩
            · trivial
            · exact (.cons (by show some (V.n false .u64 _) = some (V.n false .u64 _); rw [Nat.mod_eq_of_lt hlt]) (.cons (by show some (V.i .u64 _) = some (V.i .u64 _); rw [Nat.div_eq_of_lt hlt]; rfl) (.v9 (.v9 (.u (.u (.u (.u .nil))))))))
        · rintro _ _; refine Ag <| zmv rfl (hd 53 rfl) <| zmv rfl (hd 54 rfl) <| zmv rfl (hd 55 rfl) <| Ac (Ci (i := k - 1) Dc rfl rfl rfl (by omega) (by omega) rfl) (hd 56 rfl) <| A1 (Cc rfl rfl rfl Bw (by simp only [List.length_append, List.length_replicate]; omega)) <| Ab <| Ag <| zmv rfl (hd 20 rfl) <| Ac (B1 rfl rfl (Ap (by omega) (by omega))) (hd 21 rfl) <| zas rfl (hd 8 rfl) <| Ab ?_
          refine ⟨(k - 1, ((R / y : Nat) : Int) :: Q), ?_, ?_, (by show [(⟨79, 1, 0, true, A2 .u64 _⟩ : Ob)] = [⟨79, 1, 0, true, A2 .u64 _⟩]; rw [Nj (by omega)]), Ba 91 rfl rfl ?_⟩
          · exact ⟨by show k - 1 ≤ _; omega, by rw [← hR0]; exact hQ.next h0 (by omega) hk⟩
          · show k - 1 < k
            omega
          · exact (.cons (by show some (V.n false .u64 _) = some (V.n false .u64 _); rw [(Mj h0 (by omega)).2, hR0]) (.cons (by show some (V.i .i64 _) = some (V.i .i64 _); congr 2; omega) (.v9 (.v9 (.v9 (.v9 (.u (.u .nil))))))))
    · obtain rfl : k = 0 := by omega
      refine By <| zsr <| Gz (k := .u64) (l := List.replicate 0 0 ++ Q) (l' := Q) 7 rfl rfl (by have := hQ.l; simp only [List.length_append, List.length_replicate]; omega) (by have := hQ.l; rw [List.drop_zero]; show List.take _ Q = _; rw [List.take_of_length_le (by omega)]) hL <| zmv rfl (hd 57 rfl) ?_
      refine Aj Try.f53 (Hx Q (by have := hQ.l; omega)) rfl Try.func53 rfl rfl (Aa rfl Ad) (.cons .n .nil) (hd 58 rfl) ?_ (fun ch hp => by simp at hp)
      rintro _ ⟨⟩; refine zmv rfl (hd 59 rfl) <| zas rfl (hd 4 rfl) <| zas rfl (hd 5 rfl) <| Ab <| As ?_
      refine ⟨_, _, (.cons rfl (.cons rfl .nil)), (.t1 .n (.t1 .n .t0)), ?_⟩
      rw [hQ.fin, Nat.pow_zero, Nat.div_one]

theorem If (v w : Int) (hv : (dg v).length < 4294967296) (hw : (dg w).length < 4294967296) (h0 : w ≠ 0) : Spec Try.prog 29 [.a [.b (decide (v < 0)), .n false .u64 (dg v)], .a [.b (decide (w < 0)), .n false .u64 (dg w)]] (fun o => o = .ret (.t [.a [.b (decide ((flo v w) < 0)), .n false .u64 (dg (flo v w))], .a [.b (decide ((v - (flo v w) * w) < 0)), .n false .u64 (dg (v - (flo v w) * w))]])) := by
  refine Az [(0, .a [.b (decide (v < 0)), .n false .u64 (dg v)]), (1, .a [.b (decide (w < 0)), .n false .u64 (dg w)])] rfl Try.func29 rfl (zlb rfl) fun Γ hN hds hL hR => ?_
  have hd := B5 43 hN
  have hX1 : (dg (zs (ng v w) (v.natAbs / w.natAbs))).length ≤ (dg v).length := E8 (by rw [Rd]; exact Nat.div_le_self _ _)
  have hX2 := Lg (zs (ng v w) (v.natAbs / w.natAbs)) 1
  have h1 := Adf
  have hX3 := Fd (zs (ng v w) (v.natAbs / w.natAbs)) w
  have hX4 := Fd ((zs (ng v w) (v.natAbs / w.natAbs)) - 1) w
  refine zsr <| Ay (Br (id := 0) (n := 2) rfl rfl rfl (by decide) rfl) (hd 2 rfl) <| Ay (Br (id := 1) (n := 2) rfl rfl rfl (by decide) rfl) (hd 3 rfl) <| Ay (An (id := 2) Bx (by decide) rfl (by decide) rfl) (hd 4 rfl) <| Ay (An (id := 3) Bx (by decide) rfl (by decide) rfl) (hd 5 rfl) <| Ab <| zsr <| Ac (Bd Dl rfl rfl rfl) (hd 10 rfl) <| Ac (A8 Fl rfl rfl rfl) (hd 11 rfl) <| Ac (Bd Dl rfl rfl rfl) (hd 12 rfl) <| Ac (A8 Fl rfl rfl rfl) (hd 13 rfl) ?_
  refine Aj Try.f58 (Xl v.natAbs w.natAbs hv hw (by omega)) rfl Try.func58 rfl rfl (Aa rfl (Aa rfl Ad)) (.cons .n (.cons .n .nil)) (hd 14 rfl) ?_ (fun ch hp => by simp at hp)
  rintro _ ⟨⟩; refine zmv rfl (hd 9 rfl) <| Ac (Ak rfl rfl) (hd 15 rfl) <| Ac (Ak rfl rfl) (hd 16 rfl) <| zas rfl (hd 6 rfl) <| zas rfl (hd 7 rfl) <| Ab <| zsr <| Ac (Bd Ep rfl rfl rfl) (hd 17 rfl) <| Ac (A8 C5 rfl rfl rfl) (hd 18 rfl) <| Ac (Bd Ep rfl rfl rfl) (hd 19 rfl) <| Ac (A8 C5 rfl rfl rfl) (hd 20 rfl) <| Ac (B0 (Im Qo rfl rfl) (show V.b _ = V.b (ng v w) from rfl)) (hd 21 rfl) ?_; refine zmv rfl (hd 22 rfl) ?_
  refine Aj Try.f55 (Jb (ng v w) (v.natAbs / w.natAbs)) rfl Try.func55 rfl rfl (Aa rfl (Aa rfl Ad)) (.cons .b (.cons .n .nil)) (hd 23 rfl) ?_ (fun ch hp => by simp at hp)
  rintro _ ⟨⟩; refine Ay (An (id := 4) Bx (by decide) rfl (by decide) rfl) (hd 8 rfl) <| A1 (Ae rfl rfl rfl Ca rfl rfl (zlb rfl)) <| Ab <| Af <| zsr <| zmv rfl (hd 24 rfl) ?_
  refine Aj Try.f46 (Qj (Bj B32 (v.natAbs % w.natAbs))) rfl Try.func46 rfl rfl (Aa rfl Ad) (.cons .n .nil) (hd 25 rfl) ?_ (fun ch hp => by simp at hp)
  rintro _ ⟨⟩; refine Ac (Fn rfl) (hd 26 rfl) <| zmv rfl (hd 27 rfl) ?_
  refine Io 27 rfl (fun h1 => ?_) (fun h1 => ?_)
  · have hr0 : ¬ v.natAbs % w.natAbs = 0 := fun h => by rw [decide_eq_true (Nk.2 h)] at h1; exact absurd h1 (by decide)
    refine Bn 27 rfl rfl (Bd Ep rfl rfl rfl) (hd 28 rfl) <| Bn 27 rfl rfl (A8 C5 rfl rfl rfl) (hd 29 rfl) <| Bn 27 rfl rfl (Bd Ep rfl rfl rfl) (hd 30 rfl) <| Bn 27 rfl rfl (A8 C5 rfl rfl rfl) (hd 31 rfl) <| Bn 27 rfl rfl (B0 (Im Qo rfl rfl) (show V.b _ = V.b (ng v w) from rfl)) (hd 32 rfl) <| Ac (Cg rfl rfl) (hd 33 rfl) <| Ab ?_
    refine E7 rfl (fun h2 => ?_) (fun h2 => ?_)
    · have hf : (zs (ng v w) (v.natAbs / w.natAbs)) - 1 = flo v w := Aes h2 hr0
      refine Be (n := 4) _ rfl B2 <| zal 0 (Ao (Ah Bt rfl rfl rfl rfl) (hd 34 rfl)) rfl ?_
      refine Bb 1 ?_ rfl (by kernel_rfl)
      refine A4 Try.f28 (Nq 1 (by unfold inI; omega)) rfl Try.func28 rfl rfl (Aa rfl Ad) (.cons .i .nil) (hd 35 rfl) ?_ (fun ch hp => by simp at hp)
      rintro y hy; injection hy with hy; subst hy
      refine Bb 2 ?_ rfl (by kernel_rfl)
      refine A4 Try.f30 (Kr _ 1 (by omega) (by omega)) rfl Try.func30 rfl rfl (Aa rfl (Aa rfl Ad)) (.cons (.a1 .b (.a1 .n .a0)) (.cons (.a1 .b (.a1 .n .a0)) .nil)) (hd 36 rfl) ?_ (fun ch hp => by simp at hp)
      rintro y hy; injection hy with hy; subst hy
      refine Bb 3 ?_ rfl (by kernel_rfl)
      refine A7 (Ae rfl rfl rfl Ca rfl rfl (zlb rfl)) rfl <| Bi (by kernel_rfl) <| Af <| Be (n := 8) _ rfl B2 <| zal 0 (Ao (Ah Bt rfl rfl rfl rfl) (hd 37 rfl)) rfl <| Ax 1 [5, 6, 7] (Ao (Ah Bt rfl rfl rfl rfl) (hd 38 rfl)) rfl <| Ax 2 [4, 5, 6, 7] (Ao (Ah Bt rfl rfl rfl rfl) (hd 39 rfl)) rfl <| Ax 3 [4, 5, 6, 7] (Ao (Ah Bt rfl rfl rfl rfl) (hd 40 rfl)) rfl ?_
      refine Bb 4 ?_ rfl (by kernel_rfl)
      refine A4 Try.f31 (Lm _ w (by omega) (by omega)) rfl Try.func31 rfl rfl (Aa rfl (Aa rfl Ad)) (.cons (.a1 .b (.a1 .n .a0)) (.cons (.a1 .b (.a1 .n .a0)) .nil)) (hd 41 rfl) ?_ (fun ch hp => by simp at hp)
      rintro y hy; injection hy with hy; subst hy
      refine Bb 5 ?_ rfl (by kernel_rfl)
      refine A4 Try.f30 (Kr v _ (by omega) (by omega)) rfl Try.func30 rfl rfl (Aa rfl (Aa rfl Ad)) (.cons (.a1 .b (.a1 .n .a0)) (.cons (.a1 .b (.a1 .n .a0)) .nil)) (hd 42 rfl) ?_ (fun ch hp => by simp at hp)
      rintro y hy; injection hy with hy; subst hy
      refine Bb 6 ?_ rfl (by kernel_rfl)
      refine A7 (Ae rfl rfl rfl Ca rfl rfl (zlb rfl)) rfl ?_
      refine Bb 7 ?_ rfl (by kernel_rfl)
      refine A7 (Ae rfl rfl rfl Ca rfl rfl (zlb rfl)) rfl <| Bi (by kernel_rfl) <| As ?_
      refine ⟨_, _, (.cons (ResV.cell Bt rfl rfl rfl rfl) (.cons (ResV.cell Bt rfl rfl rfl rfl) .nil)), (.t1 (.a1 .b (.a1 .n .a0)) (.t1 (.a1 .b (.a1 .n .a0)) .t0)), ?_⟩
      rw [hf]
    · have hf : (zs (ng v w) (v.natAbs / w.natAbs)) = flo v w := Acz (.inl h2)
      refine Am <| Af <| Be (n := 8) _ rfl B2 <| zal 0 (Ao (Ah Bt rfl rfl rfl rfl) (hd 37 rfl)) rfl <| Ax 1 [5, 6, 7] (Ao (Ah Bt rfl rfl rfl rfl) (hd 38 rfl)) rfl <| Ax 2 [4, 5, 6, 7] (Ao (Ah Bt rfl rfl rfl rfl) (hd 39 rfl)) rfl <| Ax 3 [4, 5, 6, 7] (Ao (Ah Bt rfl rfl rfl rfl) (hd 40 rfl)) rfl ?_
      refine Bb 4 ?_ rfl (by kernel_rfl)
      refine A4 Try.f31 (Lm _ w (by omega) (by omega)) rfl Try.func31 rfl rfl (Aa rfl (Aa rfl Ad)) (.cons (.a1 .b (.a1 .n .a0)) (.cons (.a1 .b (.a1 .n .a0)) .nil)) (hd 41 rfl) ?_ (fun ch hp => by simp at hp)
      rintro y hy; injection hy with hy; subst hy
      refine Bb 5 ?_ rfl (by kernel_rfl)
      refine A4 Try.f30 (Kr v _ (by omega) (by omega)) rfl Try.func30 rfl rfl (Aa rfl (Aa rfl Ad)) (.cons (.a1 .b (.a1 .n .a0)) (.cons (.a1 .b (.a1 .n .a0)) .nil)) (hd 42 rfl) ?_ (fun ch hp => by simp at hp)
      rintro y hy; injection hy with hy; subst hy
      refine Bb 6 ?_ rfl (by kernel_rfl)
      refine A7 (Ae rfl rfl rfl Ca rfl rfl (zlb rfl)) rfl ?_
      refine Bb 7 ?_ rfl (by kernel_rfl)
      refine A7 (Ae rfl rfl rfl Ca rfl rfl (zlb rfl)) rfl <| Bi (by kernel_rfl) <| As ?_
      refine ⟨_, _, (.cons (ResV.cell Bt rfl rfl rfl rfl) (.cons (ResV.cell Bt rfl rfl rfl rfl) .nil)), (.t1 (.a1 .b (.a1 .n .a0)) (.t1 (.a1 .b (.a1 .n .a0)) .t0)), ?_⟩
      rw [hf]
  · have hr0 : v.natAbs % w.natAbs = 0 := Nk.1 (Decidable.byContradiction fun hn => by rw [decide_eq_false hn] at h1; exact absurd h1 (by decide))
    refine B6 27 rfl rfl rfl (hd 28 rfl) <| B6 27 rfl rfl rfl (hd 29 rfl) <| B6 27 rfl rfl rfl (hd 30 rfl) <| B6 27 rfl rfl rfl (hd 31 rfl) <| B6 27 rfl rfl rfl (hd 32 rfl) <| Ac (B9 rfl rfl) (hd 33 rfl) <| Ab <| Bl rfl <| Am <| Af <| Be (n := 8) _ rfl B2 <| zal 0 (Ao (Ah Bt rfl rfl rfl rfl) (hd 37 rfl)) rfl <| Ax 1 [5, 6, 7] (Ao (Ah Bt rfl rfl rfl rfl) (hd 38 rfl)) rfl ?_; refine Ax 2 [4, 5, 6, 7] (Ao (Ah Bt rfl rfl rfl rfl) (hd 39 rfl)) rfl <| Ax 3 [4, 5, 6, 7] (Ao (Ah Bt rfl rfl rfl rfl) (hd 40 rfl)) rfl ?_
    refine Bb 4 ?_ rfl (by kernel_rfl)
    refine A4 Try.f31 (Lm _ w (by omega) (by omega)) rfl Try.func31 rfl rfl (Aa rfl (Aa rfl Ad)) (.cons (.a1 .b (.a1 .n .a0)) (.cons (.a1 .b (.a1 .n .a0)) .nil)) (hd 41 rfl) ?_ (fun ch hp => by simp at hp)
    rintro y hy; injection hy with hy; subst hy
    refine Bb 5 ?_ rfl (by kernel_rfl)
    refine A4 Try.f30 (Kr v _ (by omega) (by omega)) rfl Try.func30 rfl rfl (Aa rfl (Aa rfl Ad)) (.cons (.a1 .b (.a1 .n .a0)) (.cons (.a1 .b (.a1 .n .a0)) .nil)) (hd 42 rfl) ?_ (fun ch hp => by simp at hp)
    rintro y hy; injection hy with hy; subst hy
    refine Bb 6 ?_ rfl (by kernel_rfl)
    refine A7 (Ae rfl rfl rfl Ca rfl rfl (zlb rfl)) rfl ?_
    refine Bb 7 ?_ rfl (by kernel_rfl)
    refine A7 (Ae rfl rfl rfl Ca rfl rfl (zlb rfl)) rfl <| Bi (by kernel_rfl) <| As ?_
    refine ⟨_, _, (.cons (ResV.cell Bt rfl rfl rfl rfl) (.cons (ResV.cell Bt rfl rfl rfl rfl) .nil)), (.t1 (.a1 .b (.a1 .n .a0)) (.t1 (.a1 .b (.a1 .n .a0)) .t0)), ?_⟩
    rw [Acz (.inr hr0)]

theorem Zk (v w : Int) (hv : (dg v).length < 4294967296) (hw : (dg w).length < 4294967296) (h0 : w ≠ 0) : Spec Try.prog 70 [.a [.b (decide (v < 0)), .n false .u64 (dg v)], .a [.b (decide (w < 0)), .n false .u64 (dg w)]] (fun o => o = .ret (.t [.a [.b (decide ((cei v w) < 0)), .n false .u64 (dg (cei v w))], .a [.b (decide ((v - (cei v w) * w) < 0)), .n false .u64 (dg (v - (cei v w) * w))]])) := by
  refine Az [(0, .a [.b (decide (v < 0)), .n false .u64 (dg v)]), (1, .a [.b (decide (w < 0)), .n false .u64 (dg w)])] rfl Try.func70 rfl (zlb rfl) fun Γ hN hds hL hR => ?_
  have hd := B5 28 hN
  have h1 := Adf
  have hF : (dg (flo v w)).length ≤ (dg v).length := E8 (Rh (k := 1) (v := v) h0).1
  have hR : (dg (v - flo v w * w)).length ≤ (dg w).length := E8 (Rh (k := 1) (v := v) h0).2
  have hF1 := Li (flo v w) 1
  have hM := Fd (flo v w) w
  have hM1 := Fd (flo v w + 1) w
  refine zsr <| Ay (Br (id := 0) (n := 2) rfl rfl rfl (by decide) rfl) (hd 2 rfl) <| Ay (Br (id := 1) (n := 2) rfl rfl rfl (by decide) rfl) (hd 3 rfl) <| Ay (An (id := 2) Bx (by decide) rfl (by decide) rfl) (hd 4 rfl) <| Ay (An (id := 3) Bx (by decide) rfl (by decide) rfl) (hd 5 rfl) <| Ab <| zsr <| Ac (Ah Bt rfl rfl rfl rfl) (hd 9 rfl) <| Ac (Ah Bt rfl rfl rfl rfl) (hd 10 rfl) ?_
  refine Aj Try.f29 (If v w hv hw h0) rfl Try.func29 rfl rfl (Aa rfl (Aa rfl Ad)) (.cons (.a1 .b (.a1 .n .a0)) (.cons (.a1 .b (.a1 .n .a0)) .nil)) (hd 11 rfl) ?_ (fun ch hp => by simp at hp)
  rintro _ ⟨⟩; refine zmv rfl (hd 8 rfl) <| Ac (Ak rfl rfl) (hd 12 rfl) <| Ac (Ak rfl rfl) (hd 13 rfl) <| Ay (An (id := 4) Bx (by decide) rfl (by decide) rfl) (hd 6 rfl) <| Ay (An (id := 5) Bx (by decide) rfl (by decide) rfl) (hd 7 rfl) <| A1 (Ae rfl rfl rfl Ca rfl rfl (zlb rfl)) <| A1 (Ae rfl rfl rfl Ca rfl rfl (zlb rfl)) <| Ab <| Af <| zsr <| Ac (Ah Bt rfl rfl rfl rfl) (hd 14 rfl) ?_
  refine Aj Try.f11 (H3 (v - flo v w * w)) rfl Try.func11 rfl rfl (Aa rfl Ad) (.cons (.a1 .b (.a1 .n .a0)) .nil) (hd 15 rfl) ?_ (fun ch hp => by simp at hp)
  rintro _ ⟨⟩; refine Ac (Dy rfl rfl) (hd 16 rfl) <| Ab ?_
  refine Bu rfl (fun h1 => ?_) (fun h1 => ?_)
  · have hc : cei v w = flo v w := if_pos (Ex.1 h1)
    refine Af <| Be (n := 4) _ rfl B2 <| zal 0 (Ao (Ah Bt rfl rfl rfl rfl) (hd 17 rfl)) rfl ?_
    refine Ct 1 2 ?_ ?_ rfl rfl (by kernel_rfl)
    · refine C4 (Ah Bt rfl rfl rfl rfl) (hd 18 rfl) ?_
      refine Bb 2 ?_ rfl (by kernel_rfl)
      refine A7 (Ae rfl rfl rfl Ca rfl rfl (zlb rfl)) rfl ?_
      refine Bb 3 ?_ rfl (by kernel_rfl)
      refine A7 (Ae rfl rfl rfl Ca rfl rfl (zlb rfl)) rfl <| Bi (by kernel_rfl) <| As ?_
      refine ⟨_, _, (.cons (ResV.cell Bt rfl rfl rfl rfl) (.cons (ResV.cell Bt rfl rfl rfl rfl) .nil)), (.t1 (.a1 .b (.a1 .n .a0)) (.t1 (.a1 .b (.a1 .n .a0)) .t0)), ?_⟩
      rw [hc]
    · refine A7 (Ae rfl rfl rfl Ca rfl rfl (zlb rfl)) rfl <| zal 1 (Ao (Ah Bt rfl rfl rfl rfl) (hd 18 rfl)) rfl ?_
      refine Bb 3 ?_ rfl (by kernel_rfl)
      refine A7 (Ae rfl rfl rfl Ca rfl rfl (zlb rfl)) rfl <| Bi (by kernel_rfl) <| As ?_
      refine ⟨_, _, (.cons (ResV.cell Bt rfl rfl rfl rfl) (.cons (ResV.cell Bt rfl rfl rfl rfl) .nil)), (.t1 (.a1 .b (.a1 .n .a0)) (.t1 (.a1 .b (.a1 .n .a0)) .t0)), ?_⟩
      rw [hc]
  · have hc : cei v w = flo v w + 1 := if_neg (fun h => h1 (Ex.2 h))
    refine Am <| Af <| Be (n := 4) _ rfl B2 <| zal 0 (Ao (Ah Bt rfl rfl rfl rfl) (hd 19 rfl)) rfl ?_
    refine Bb 1 ?_ rfl (by kernel_rfl)
    refine A4 Try.f28 (Nq 1 (by unfold inI; omega)) rfl Try.func28 rfl rfl (Aa rfl Ad) (.cons .i .nil) (hd 20 rfl) ?_ (fun ch hp => by simp at hp)
    rintro y hy; injection hy with hy; subst hy
    refine Bb 2 ?_ rfl (by kernel_rfl)
    refine A4 Try.f54 (Yd (flo v w) 1 (by omega) (by omega)) rfl Try.func54 rfl rfl (Aa rfl (Aa rfl Ad)) (.cons (.a1 .b (.a1 .n .a0)) (.cons (.a1 .b (.a1 .n .a0)) .nil)) (hd 21 rfl) ?_ (fun ch hp => by simp at hp)
    rintro y hy; injection hy with hy; subst hy
    refine Bb 3 ?_ rfl (by kernel_rfl)
    refine A7 (Ae rfl rfl rfl Ca rfl rfl (zlb rfl)) rfl <| Bi (by kernel_rfl) <| Af <| Be (n := 8) _ rfl B2 <| zal 0 (Ao (Ah Bt rfl rfl rfl rfl) (hd 22 rfl)) rfl <| Ax 1 [5, 6, 7] (Ao (Ah Bt rfl rfl rfl rfl) (hd 23 rfl)) rfl <| Ax 2 [4, 5, 6, 7] (Ao (Ah Bt rfl rfl rfl rfl) (hd 24 rfl)) rfl <| Ax 3 [4, 5, 6, 7] (Ao (Ah Bt rfl rfl rfl rfl) (hd 25 rfl)) rfl ?_
    refine Bb 4 ?_ rfl (by kernel_rfl)
    refine A4 Try.f31 (Lm (flo v w + 1) w (by omega) (by omega)) rfl Try.func31 rfl rfl (Aa rfl (Aa rfl Ad)) (.cons (.a1 .b (.a1 .n .a0)) (.cons (.a1 .b (.a1 .n .a0)) .nil)) (hd 26 rfl) ?_ (fun ch hp => by simp at hp)
    rintro y hy; injection hy with hy; subst hy
    refine Bb 5 ?_ rfl (by kernel_rfl)
    refine A4 Try.f30 (Kr v ((flo v w + 1) * w) (by omega) (by omega)) rfl Try.func30 rfl rfl (Aa rfl (Aa rfl Ad)) (.cons (.a1 .b (.a1 .n .a0)) (.cons (.a1 .b (.a1 .n .a0)) .nil)) (hd 27 rfl) ?_ (fun ch hp => by simp at hp)
    rintro y hy; injection hy with hy; subst hy
    refine Bb 6 ?_ rfl (by kernel_rfl)
    refine A7 (Ae rfl rfl rfl Ca rfl rfl (zlb rfl)) rfl ?_
    refine Bb 7 ?_ rfl (by kernel_rfl)
    refine A7 (Ae rfl rfl rfl Ca rfl rfl (zlb rfl)) rfl <| Bi (by kernel_rfl) <| As ?_
    refine ⟨_, _, (.cons (ResV.cell Bt rfl rfl rfl rfl) (.cons (ResV.cell Bt rfl rfl rfl rfl) .nil)), (.t1 (.a1 .b (.a1 .n .a0)) (.t1 (.a1 .b (.a1 .n .a0)) .t0)), ?_⟩
    rw [hc]

theorem M1 (v w : Int) (hv : (dg v).length < 4294967296) (hw : (dg w).length < 4294967296) (h0 : w ≠ 0) : Spec Try.prog 47 [.a [.b (decide (v < 0)), .n false .u64 (dg v)], .a [.b (decide (w < 0)), .n false .u64 (dg w)]] (fun o => o = .ret (.t [.a [.b (decide ((wq 4 v w) < 0)), .n false .u64 (dg (wq 4 v w))], .a [.b (decide ((v - (wq 4 v w) * w) < 0)), .n false .u64 (dg (v - (wq 4 v w) * w))]])) := by
  refine Az [(0, .a [.b (decide (v < 0)), .n false .u64 (dg v)]), (1, .a [.b (decide (w < 0)), .n false .u64 (dg w)])] rfl Try.func47 rfl (zlb rfl) fun Γ hN hds hL hR => ?_
  have hd := B5 18 hN
  refine zsr <| Ay (Br (id := 0) (n := 2) rfl rfl rfl (by decide) rfl) (hd 2 rfl) <| Ay (Br (id := 1) (n := 2) rfl rfl rfl (by decide) rfl) (hd 3 rfl) <| Ay (An (id := 2) Bx (by decide) rfl (by decide) rfl) (hd 4 rfl) <| Ay (An (id := 3) Bx (by decide) rfl (by decide) rfl) (hd 5 rfl) <| Ab <| Af <| zsr <| Ac (Bd Ep rfl rfl rfl) (hd 6 rfl) <| Ac (A8 C5 rfl rfl rfl) (hd 7 rfl) <| Ab ?_
  refine Bu rfl (fun h1 => ?_) (fun h1 => ?_)
  · have hc : wq 4 v w = cei v w := if_pos h1
    refine zsr <| Ac (Ah Bt rfl rfl rfl rfl) (hd 8 rfl) <| Ac (Ah Bt rfl rfl rfl rfl) (hd 9 rfl) ?_
    refine Aj Try.f70 (Zk v w hv hw h0) rfl Try.func70 rfl rfl (Aa rfl (Aa rfl Ad)) (.cons (.a1 .b (.a1 .n .a0)) (.cons (.a1 .b (.a1 .n .a0)) .nil)) (hd 10 rfl) ?_ (fun ch hp => by simp at hp)
    rintro _ ⟨⟩; refine Ac (Ak rfl rfl) (hd 11 rfl) <| Ac (Ak rfl rfl) (hd 12 rfl) <| A1 (Ae rfl rfl rfl Ca rfl rfl (zlb rfl)) <| A1 (Ae rfl rfl rfl Ca rfl rfl (zlb rfl)) <| Ab <| As ?_
    refine ⟨_, _, (.cons (ResV.cell Bt rfl rfl rfl rfl) (.cons (ResV.cell Bt rfl rfl rfl rfl) .nil)), (.t1 (.a1 .b (.a1 .n .a0)) (.t1 (.a1 .b (.a1 .n .a0)) .t0)), ?_⟩
    rw [hc]
  · have hc : wq 4 v w = flo v w := if_neg h1
    refine Am <| zsr <| Ac (Ah Bt rfl rfl rfl rfl) (hd 13 rfl) <| Ac (Ah Bt rfl rfl rfl rfl) (hd 14 rfl) ?_
    refine Aj Try.f29 (If v w hv hw h0) rfl Try.func29 rfl rfl (Aa rfl (Aa rfl Ad)) (.cons (.a1 .b (.a1 .n .a0)) (.cons (.a1 .b (.a1 .n .a0)) .nil)) (hd 15 rfl) ?_ (fun ch hp => by simp at hp)
    rintro _ ⟨⟩; refine Ac (Ak rfl rfl) (hd 16 rfl) <| Ac (Ak rfl rfl) (hd 17 rfl) <| A1 (Ae rfl rfl rfl Ca rfl rfl (zlb rfl)) <| A1 (Ae rfl rfl rfl Ca rfl rfl (zlb rfl)) <| Ab <| As ?_
    refine ⟨_, _, (.cons (ResV.cell Bt rfl rfl rfl rfl) (.cons (ResV.cell Bt rfl rfl rfl rfl) .nil)), (.t1 (.a1 .b (.a1 .n .a0)) (.t1 (.a1 .b (.a1 .n .a0)) .t0)), ?_⟩
    rw [hc]



theorem short2b {H : Type} {d0 d1 : DataW H} {r : List (DataW H)} {l0 l1 : List Int} (hk : Rows.uptoSmall H (d0 :: d1 :: r) = true) (h0 : l0.length + 2 ≤ Rows.uptoBulk d0) (h1 : l1.length + 2 ≤ Rows.uptoBulk d1) : l0.length + l1.length ≤ 1048572 := by
  have h : Rows.uptoBulkAll (d0 :: d1 :: r) ≤ 1048576 := of_decide_eq_true hk
  simp only [Rows.uptoBulkAll] at h
  omega

def xr5 (x : Int) : Int := G2 .xor .u64 x 5
def Afy (l : List Int) : List Int := l.map xr5
def Agt (l : List Int) (i : Nat) : List Int := Afy (l.take i) ++ l.drop i
def cpI (l : List Int) (i : Nat) : List Int := Cv (l.take i) l.length
theorem Wb (a b : Int) : Bm (a + b) ≤ max (Bm a) (Bm b) + 1 := by
  have h := Jx a (-b)
  rw [Int.sub_neg] at h
  have e : Bm (-b) = Bm b := by unfold Bm; rw [Int.natAbs_neg]
  rwa [e] at h


def Af9 (b m x : Nat) : List Int := Bj b x ++ List.replicate (m - (Bj b x).length) 0
def hdg (b m x : Nat) : List Int := (Af9 b m x).reverse


def Agx (B : List Int) (i : Nat) : List Int := List.replicate (B.length - i) 0 ++ (B.take i).reverse

def pwV (b k : Nat) : V := .n true .u64 (lm ((b ^ 2 ^ k : Nat) : Int))
def pwR (b K : Nat) : List (List V) := (List.range K).map fun k => [pwV b k]

def Acn : ByteArray := ⟨#[48, 49, 50, 51, 52, 53, 54, 55, 56, 57, 97, 98, 99, 100, 101, 102, 103, 104, 105, 106, 107, 108, 109, 110, 111, 112, 113, 114, 115, 116, 117, 118, 119, 120, 121, 122]⟩
def ltr (x : Int) : Int := Kq Acn x.toNat
def Agc (x : Int) : UInt8 := UInt8.ofNat (ltr x).toNat
def txt (l : List Int) : ByteArray := ⟨(l.map Agc).toArray⟩

def hv (b : Nat) (l : List Int) : Int := vb b l.reverse
def dgv (c : Int) : Int := if 48 ≤ c ∧ c ≤ 57 then c - 48 else if 97 ≤ c ∧ c ≤ 122 then c - 97 + 10 else 36
def dgs (s : ByteArray) : List Int := (Adk s).map dgv

def Ag0 (s t : ByteArray) : Int := if s.size < t.size ∨ (s.size = t.size ∧ Op.bytesLess s.toList t.toList = true) then -1 else if s = t then 0 else 1

def PW (v n : Nat) : Int := ((v ^ n : Nat) : Int)
def cF (b n : Nat) : V := .n false .u64 (lm (PW b n))


def Agz (l : List Int) (j : Nat) : List Int := List.replicate j 0 ++ l
def Afw (m i : Nat) : List Int := List.replicate i 48 ++ List.replicate (m - i) 0
def ptx (s : ByteArray) (k : Nat) : ByteArray := s.extract 0 (s.size - k) ++ ⟨#[46]⟩ ++ s.extract (s.size - k) s.size


def Agu (v : Int) : ByteArray := if v < 0 then (⟨#[45]⟩ : ByteArray) ++ txt (hdg 10 1 v.natAbs) else txt (hdg 10 1 v.natAbs)

def nwt (a x n : Nat) : Nat := (n * x + a / x ^ n) / (n + 1)
structure RootIs (a k r : Nat) : Prop where
  le : r ^ k ≤ a
  lt : a < (r + 1) ^ k
theorem RootIs.is {a k r x : Nat} (h : RootIs a k r) (h1 : r ≤ x) (h2 : x ^ k ≤ a) : x = r := by
  rcases Nat.lt_or_ge r x with h3 | h3
  · have h4 := Nat.pow_le_pow_left h3 k
    have h5 := h.lt
    have h6 : (r + 1) ^ k ≤ a := Nat.le_trans h4 h2
    omega
  · omega
def Af1 (n : Nat) : List Int := List.replicate (n / 64) 0 ++ [((2 ^ (n % 64) : Nat) : Int), 0]
def Agv (n i : Nat) : List Int := if i = 0 then List.replicate (n / 64 + 2) 0 else Af1 n

def Afb (K : Nat) (rows : List (List Int)) : Bool := rows.all fun l => decide (Bm (vl l) ≤ K)
theorem Wi {x y : Nat} : Nat.gcd y (x % y) = Nat.gcd x y := by
  rw [Nat.gcd_comm y, ← Nat.gcd_rec, Nat.gcd_comm]
theorem CoE.gcd {v w g x : Int} (h : CoE v w g x) : g = ((Nat.gcd v.natAbs w.natAbs : Nat) : Int) := by
  have h1 := (h.gc g).1 (Int.dvd_refl g)
  have h2 : g.natAbs ∣ Nat.gcd v.natAbs w.natAbs := Nat.dvd_gcd (Int.natAbs_dvd_natAbs.2 h1.1) (Int.natAbs_dvd_natAbs.2 h1.2)
  have h3 : ((Nat.gcd v.natAbs w.natAbs : Nat) : Int) ∣ g := (h.gc _).2 ⟨Int.ofNat_dvd_left.2 (Nat.gcd_dvd_left _ _), Int.ofNat_dvd_left.2 (Nat.gcd_dvd_right _ _)⟩
  have h4 := Nat.dvd_antisymm h2 (Int.ofNat_dvd_left.1 h3)
  have := h.g0
  omega

def tz (x : Nat) : Nat := if h : x = 0 ∨ x % 2 = 1 then 0 else tz (x / 2) + 1
termination_by x
decreasing_by omega
def od (x : Nat) : Nat := x / 2 ^ tz x
def fl8 (m : Nat) (s : Int) : Int := if m % 8 = 3 ∨ m % 8 = 5 then -s else s
def fl4 (x m : Nat) (s : Int) : Int := if x % 4 = 3 ∧ m % 4 = 3 then -s else s
def flt (x m : Nat) (s : Int) : Int := if tz x % 2 = 1 then fl8 m s else s
def Ad6 : List Int := [0, 1, 56, 2, 57, 49, 28, 3, 61, 58, 42, 50, 38, 29, 17, 4, 62, 47, 59, 36, 45, 43, 51, 22, 53, 39, 33, 30, 24, 18, 12, 5, 63, 55, 48, 27, 60, 41, 37, 16, 46, 35, 44, 21, 52, 32, 23, 11, 54, 26, 40, 15, 34, 20, 31, 10, 25, 14, 19, 9, 13, 8, 7, 6]
abbrev Ad7 : List V := A2 .u8 Ad6

def dgl (z j : Nat) : Int := ((z / 2 ^ (64 * j) % 2 ^ 64 : Nat) : Int)
def dll (z m : Nat) : List Int := (List.range m).map (dgl z)
def tw (v : Int) : Nat := if v < 0 then (-v - 1).toNat else v.toNat
def Ag5 (v w : Int) : Int :=
  if v < 0 then (if w < 0 then -((tw v ||| tw w : Nat) : Int) - 1 else ((tw w ^^^ (tw w &&& tw v) : Nat) : Int))
  else (if w < 0 then ((tw v ^^^ (tw v &&& tw w) : Nat) : Int) else ((tw v &&& tw w : Nat) : Int))
def orI (v w : Int) : Int :=
  if v < 0 then (if w < 0 then -((tw v &&& tw w : Nat) : Int) - 1 else -((tw v ^^^ (tw v &&& tw w) : Nat) : Int) - 1)
  else (if w < 0 then -((tw w ^^^ (tw w &&& tw v) : Nat) : Int) - 1 else ((tw v ||| tw w : Nat) : Int))
def xoI (v w : Int) : Int := if (decide (v < 0) != decide (w < 0)) = true then -((tw v ^^^ tw w : Nat) : Int) - 1 else ((tw v ^^^ tw w : Nat) : Int)
def Ag4 (v : Int) (i : Nat) : Int := if v < 0 then 1 - ((tw v / 2 ^ i % 2 : Nat) : Int) else ((tw v / 2 ^ i % 2 : Nat) : Int)

def Rw (l : List Int) (x : Nat) : Prop := A3 l ∧ vl l = (x : Int) ∧ l.length ≤ 1048576
theorem Rw.u {l : List Int} {x : Nat} (h : Rw l x) : A3 l := h.1
theorem Rw.v {l : List Int} {x : Nat} (h : Rw l x) : vl l = (x : Int) := h.2.1
theorem Rw.l {l : List Int} {x : Nat} (h : Rw l x) : l.length ≤ 1048576 := h.2.2
theorem Rw.t {l : List Int} {x : Nat} (h : Rw l x) : trm l = lm (x : Int) := Ka h.1 h.2.1
theorem Rw.b {l : List Int} {x : Nat} (h : Rw l x) : Bm (x : Int) ≤ 67108864 := by
  have h1 := Oh (s := false) h.1
  rw [show sv false l = (x : Int) from h.2.1] at h1
  have := h.2.2
  omega
theorem Rw.n {l : List Int} {x : Nat} (h : Rw l x) : Dp l = Bm (x : Int) := Nd h.1 h.2.1
theorem Rw.of {x : Nat} (h : Bm (x : Int) ≤ 67108864) : Rw (lm (x : Int)) x := ⟨Cq _, by rw [Og, Int.natAbs_natCast], Bf h⟩
theorem Rw.nil : Rw [] 0 := ⟨fun x hx => (by cases hx), rfl, Nat.zero_le _⟩
theorem Mc {x y : Nat} (h : x ≤ y) : Bm (x : Int) ≤ Bm (y : Int) := A5 (by omega)
def rn0 (x y : Nat) : Nat := x / Nat.gcd x y
def rd0 (x y : Nat) : Nat := y / Nat.gcd x y
def sgq (s : Bool) (x : Nat) : Bool := s && decide (x ≠ 0)
theorem Iu {x y : Nat} (hy : y ≠ 0) : 0 < Nat.gcd x y := Nat.gcd_pos_of_pos_right _ (by omega)
theorem Abu {x y : Nat} : rn0 x y ≤ x := Nat.div_le_self _ _
theorem Aby {x y : Nat} : rd0 x y ≤ y := Nat.div_le_self _ _
theorem Oc {x y : Nat} (hy : y ≠ 0) : 0 < rd0 x y := Nat.div_pos (Nat.le_of_dvd (by omega) (Nat.gcd_dvd_right _ _)) (Iu hy)
theorem Lz {x y : Nat} : rn0 x y * Nat.gcd x y = x := Nat.div_mul_cancel (Nat.gcd_dvd_left _ _)
theorem L3 {x y : Nat} : rd0 x y * Nat.gcd x y = y := Nat.div_mul_cancel (Nat.gcd_dvd_right _ _)
theorem Si {x y : Nat} (hy : y ≠ 0) : Nat.gcd (rn0 x y) (rd0 x y) = 1 := by
  have h := Nat.gcd_mul_right (rn0 x y) (Nat.gcd x y) (rd0 x y)
  rw [Lz, L3] at h
  have h1 := Iu (x := x) hy
  have h2 : Nat.gcd (rn0 x y) (rd0 x y) * Nat.gcd x y = 1 * Nat.gcd x y := by omega
  exact Nat.eq_of_mul_eq_mul_right h1 h2

theorem Wq (a b : List Int) (la : a.length < 4294967296) (lb : b.length < 4294967296) (ua : A3 a) (ub : A3 b) (ta : tpd a) (tb : tpd b) (hb : b ≠ []) : SpecM Try.prog 65 [.n false .u64 a, .n false .u64 b] [] (fun o G => o = .ret (.t [.o 0 0 0 (lm (vl a / vl b)).length, .n false .u64 (lm (vl a % vl b))]) ∧ G = [⟨79, 1, 0, true, A2 .u64 (lm (vl a / vl b))⟩]) := by
  refine Cy [(0, .n false .u64 a), (1, .n false .u64 b)] rfl Try.func65 rfl (zlb rfl) fun Γ hN hds hL hR => ?_
  have hd := B5 104 hN
  have hcv := Gh ua ub
  have hb0 := Rl ub tb hb
  have hva := Bq ua
  refine zsr <| zas rfl (hd 4 rfl) <| zas rfl (hd 5 rfl) <| Ab <| Af <| zsr <| zmv rfl (hd 15 rfl) <| zmv rfl (hd 16 rfl) ?_
  refine Aj Try.f71 (E6 a b la lb) rfl Try.func71 rfl rfl (Aa rfl (Aa rfl Ad)) (.cons .n (.cons .n .nil)) (hd 17 rfl) ?_ (fun ch hp => by simp at hp)
  rintro _ ⟨⟩; refine Ac (Ch rfl rfl) (hd 18 rfl) <| Ab ?_
  refine Bu rfl (fun h1 => ?_) (fun h1 => ?_)
  · have hlt : vl a < vl b := by rcases hcv with ⟨c, v⟩ | ⟨c, v⟩ | ⟨c, v⟩ <;> omega
    refine zsr <| zmv rfl (hd 19 rfl) <| zas rfl (hd 4 rfl) <| zas rfl (hd 5 rfl) <| Ab <| Ol 4 79 1 rfl rfl <| As ?_
    refine ⟨[0], _, (.t [.o 0 0 0 0, .n false .u64 a]), (.cons rfl (.cons rfl .nil)), rfl, rfl, (by decide), (by first | exact Al Bc Ar | exact Al rfl Ar), ?_⟩
    rw [Int.ediv_eq_zero_of_lt hva hlt, Int.emod_eq_of_lt hva hlt, Xt, Acq ua ta]
    exact ⟨rfl, rfl⟩
  · have hge : vl b ≤ vl a := by rcases hcv with ⟨c, v⟩ | ⟨c, v⟩ | ⟨c, v⟩ <;> omega
    have hlen := X0 ua ub tb hb hge
    refine Am <| Af <| zsr <| zmv rfl (hd 20 rfl) <| Ac (Av Bo rfl) (hd 21 rfl) <| Ac (Dy rfl rfl) (hd 22 rfl) <| Ab ?_
    refine Bu rfl (fun h2 => ?_) (fun h2 => ?_)
    · obtain ⟨d, rfl⟩ : ∃ d, b = [d] := List.length_eq_one_iff.1 (by omega)
      have hdb := ub d (List.mem_singleton.2 rfl)
      have hd0 := N0 tb
      have hdp : 0 < d := by omega
      have hvd : vl [d] = d := by simp [vl]
      refine zsr <| zmv rfl (hd 23 rfl) <| Ac (Av Bo rfl) (hd 24 rfl) <| Ay (Fp (m := a.length) Ky rfl rfl rfl (by show 8 * a.length ≤ _; omega) (by unfold maxLen; omega) rfl) (hd 25 rfl) <| zas rfl (hd 6 rfl) <| zas rfl (hd 7 rfl) <| Ab <| Af <| zsr <| zmv rfl (hd 26 rfl) <| Ac (Av Bo rfl) (hd 27 rfl) ?_; refine Ac (B1 rfl rfl (Ap (by omega) (by omega))) (hd 28 rfl) <| zas rfl (hd 8 rfl) <| Ab <| Aw <| Cs (H' := [⟨79, 1, 0, true, A2 .u64 (List.replicate a.length 0 ++ (dvN a d (a.length - a.length)).1)⟩]) (by rw [Nat.sub_self]; show _ = [(⟨79, 1, 0, true, A2 .u64 (List.replicate a.length 0 ++ [])⟩ : Ob)]; rw [List.append_nil]; rfl) ?_
      refine B4 (G := Nat) (fun k => k ≤ a.length) (fun k => [(7, .i .u64 (dvN a d (a.length - k)).2), (8, .i .i64 ((k : Int) - 1)), (29, .u), (30, .u), (31, .u), (32, .u), (33, .u), (34, .u), (35, .u), (36, .u), (37, .u), (38, .u), (39, .u), (40, .u), (41, .u), (42, .u), (43, .u), (44, .u), (45, .u), (46, .u), (47, .u)]) (fun k => [⟨79, 1, 0, true, A2 .u64 (List.replicate k 0 ++ (dvN a d (a.length - k)).1)⟩]) (fun k => k) a.length ?_ ?_ rfl ?_
      · exact Nat.le_refl _
      · exact (.cons (by show some (V.i .u64 0) = some (V.i .u64 (dvN a d (a.length - a.length)).2); rw [Nat.sub_self]; rfl) (.cons rfl (.v9 (.v5 (.u (.u (.u (.u .nil))))))))
      · rintro k hc1
        have hr := Wn (a := a) hdp (a.length - k)
        have hx := Bg ua (k - 1)
        refine Af <| zsr <| zmv rfl (hd 29 rfl) <| Ac (Eu rfl rfl) (hd 30 rfl) <| Ab ?_
        refine Bu rfl (fun h3 => ?_) (fun h3 => ?_)
        · refine Am <| Af <| Aw <| Be (n := 17) _ rfl B2 <| zal 0 (Ao (A0 rfl) (hd 34 rfl)) rfl <| zal 1 (Ao (A0 rfl) (hd 35 rfl)) rfl <| Ax 2 [10, 11, 12, 13, 14, 15, 16] (Ao (A0 rfl) (hd 36 rfl)) rfl <| Ax 3 [5, 6, 10, 11, 12, 13, 14, 15, 16] (Ao (A0 rfl) (hd 37 rfl)) rfl <| Ax 4 [5, 6, 10, 11, 12, 13, 14, 15, 16] (Ao (A0 rfl) (hd 38 rfl)) rfl <| Ax 5 [6, 10, 11, 12, 13, 14, 15, 16] (Ao (B8 (i := k - 1) Bo rfl rfl (by omega) (by omega)) (hd 39 rfl)) rfl <| Ax 6 [10, 11, 12, 13, 14, 15, 16] (Ao (B7 Bw rfl rfl) (hd 40 rfl)) rfl <| Ax 7 [8, 9, 10, 11, 12, 13, 14, 15, 16] (Ao (A0 rfl) (hd 41 rfl)) rfl <| Ax 8 [9, 10, 11, 12, 13, 14, 15, 16] (Ao (B8 (i := 0) Bo rfl rfl rfl (by simp)) (hd 42 rfl)) rfl ?_; refine Ax 9 [10, 11, 12, 13, 14, 15, 16] (Ao (B7 Bw rfl rfl) (hd 43 rfl)) rfl ?_
          refine Bb 10 ?_ rfl (by kernel_rfl)
          refine A4 Try.f78 (O1 (dvN a d (a.length - k)).2 (a.getD (k - 1) 0) d hr.1 hr.2 hx.1 hx.2 hdb.2) rfl Try.func78 rfl rfl (Aa rfl (Aa rfl (Aa rfl Ad))) (.cons .i (.cons .i (.cons .i .nil))) (hd 44 rfl) ?_ (fun ch hp => by simp at hp)
          rintro _ ⟨⟩; refine zal 11 (Ao (A0 rfl) (hd 33 rfl)) rfl <| zal 12 (Ao (Ak rfl rfl) (hd 45 rfl)) rfl <| zal 13 (Gy rfl rfl (hd 46 rfl)) rfl <| zal 14 (Ao (Ci (i := k - 1) Bo rfl rfl rfl (by omega) (by omega) rfl) (hd 47 rfl)) rfl ?_
          refine Bb 15 ?_ rfl (by kernel_rfl)
          refine A7 (Cc rfl rfl rfl Bw (by simp only [List.length_append, List.length_replicate, Gg]; omega)) rfl <| zal 16 (Ao (Cr rfl) (hd 7 rfl)) rfl <| Bi (by kernel_rfl) <| Ag <| zmv rfl (hd 31 rfl) <| Ac (B1 rfl rfl (Ap (by omega) (by omega))) (hd 32 rfl) <| zas rfl (hd 8 rfl) <| Ab ?_
          refine ⟨k - 1, ?_, ?_, (by show [(⟨79, 1, 0, true, A2 .u64 _⟩ : Ob)] = [⟨79, 1, 0, true, A2 .u64 _⟩]; rw [Nj (by omega), Mi (by omega) hc1]), Ba 42 rfl rfl ?_⟩
          · omega
          · omega
          · exact (.cons (by show some (V.i .u64 _) = some (V.i .u64 _); rw [Mi (by omega) hc1]) (.cons (by show some (V.i .i64 _) = some (V.i .i64 _); congr 2; omega) (.v9 (.v5 (.u (.u (.u (.u .nil))))))))
        · obtain rfl : k = 0 := by omega
          refine By <| zsr <| Gz (k := .u64) (l := List.replicate 0 0 ++ (dvN a d (a.length - 0)).1) (l' := (dvN a d a.length).1) 6 rfl rfl (by simp [Gg]) (by rw [Nat.sub_zero, List.drop_zero]; show List.take _ (dvN a d a.length).1 = _; rw [List.take_of_length_le (by rw [Gg]; exact Nat.le_refl _)]) hL <| zmv rfl (hd 48 rfl) ?_
          refine C9 Try.f48 (U6 (dvN a d a.length).1 (by rw [Gg]; omega)) (fun o G ⟨_, h⟩ => h ▸ Al Bc Ar) rfl Try.func48 rfl rfl (Aa rfl Ad) (.cons .n .nil) (hd 49 rfl) ?_ (fun ch G hp => by simp at hp)
          rintro y G ⟨hy, rfl⟩; injection hy with hy; subst hy
          show JO _ _ _ _ ((49, .o 1 0 0 (trm (dvN a d a.length).1).length) :: _) _ _
          refine zmv rfl (hd 50 rfl) ?_
          refine Aj Try.f63 (Jk (dvN a d (a.length - 0)).2) rfl Try.func63 rfl rfl (Aa rfl Ad) (.cons .i .nil) (hd 51 rfl) ?_ (fun ch hp => by simp at hp)
          rintro _ ⟨⟩; refine zas rfl (hd 4 rfl) <| zas rfl (hd 5 rfl) <| Ab <| P1 5 rfl <| As ?_
          refine ⟨[1], _, (.t [.o 0 0 0 (trm (dvN a d a.length).1).length, .n false .u64 (if (dvN a d (a.length - 0)).2 = 0 then [] else [(dvN a d (a.length - 0)).2])]), (.cons rfl (.cons rfl .nil)), rfl, rfl, (by decide), (by first | exact Al Bc Ar | exact Al rfl Ar), ?_⟩
          have hde := X4 ua hdp
          rw [Nat.sub_zero, hde.2, Aab (Int.emod_nonneg _ (by omega)) (by have := Int.emod_lt_of_pos (vl a) hdp; omega), hde.1, hvd]
          exact ⟨rfl, rfl⟩
    · have hbl : 0 < b.length := List.length_pos_iff.2 hb
      obtain ⟨n, hn⟩ : ∃ n, b.length = n + 2 := ⟨b.length - 2, by omega⟩
      have htb := tb hb
      rw [hn, show n + 2 - 1 = n + 1 by omega] at htb
      have hbt := Bg ub (n + 1)
      obtain ⟨s, hs⟩ : ∃ s : Nat, 64 - bl 64 (b.getD (n + 1) 0).toNat = s := ⟨_, rfl⟩
      have hz := S6 (show 0 < b.getD (n + 1) 0 by omega) hbt.2
      rw [hs] at hz
      obtain ⟨s64, y0, y1⟩ := hz
      obtain ⟨v, hv⟩ : ∃ v, (upL b s).take b.length = v := ⟨_, rfl⟩
      have hv2 := W7 s64 ub (by rw [hn]; exact y1) hb
      have uv : A3 v := hv ▸ D4 (Vr s64 ub) _
      have hlv : v.length = n + 2 := by rw [← hv, List.length_take, Gn]; omega
      rw [hv] at hv2
      have htop := Xz ub uv tb hn hlv hv2
      have hul := Gn a s
      refine Am <| zsr <| zmv rfl (hd 52 rfl) <| zmv rfl (hd 53 rfl) <| Ac (Av Bo rfl) (hd 54 rfl) <| Ac (B1 rfl rfl (r := ((n + 1 : Nat) : Int)) (by rw [Ap (by omega) (by omega)]; omega)) (hd 55 rfl) <| Ac (B8 (i := n + 1) Bo rfl rfl (by first | rfl | omega) (by omega)) (hd 56 rfl) <| Ac (B0 (B7 Bw rfl rfl) (show V.i .u64 _ = V.i .u64 (((b.getD (n + 1) 0).toNat : Int)) from congrArg (V.i .u64) (Int.toNat_of_nonneg hbt.1).symm)) (hd 57 rfl) ?_
      refine Aj Try.f79 (Ae4 (b.getD (n + 1) 0).toNat (by omega)) rfl Try.func79 rfl rfl (Aa rfl Ad) (.cons .i .nil) (hd 58 rfl) ?_ (fun ch hp => by simp at hp)
      rintro _ ⟨⟩; refine Ac (D1 Mt Ru rfl (r := (s : Int)) (by rw [hs]; exact Bh (by omega) (by omega))) (hd 59 rfl) <| zas rfl (hd 9 rfl) <| Ab <| Af <| Be (n := 11) _ rfl B2 <| Ax 0 [2, 5, 8, 9, 10] (Ao (A0 rfl) (hd 60 rfl)) rfl <| Ax 1 [2, 5, 8, 9, 10] (Ao (A0 rfl) (hd 61 rfl)) rfl <| Ax 3 [5, 8, 9, 10] (Ao (A0 rfl) (hd 63 rfl)) rfl <| Ax 4 [5, 8, 9, 10] (Ao (A0 rfl) (hd 64 rfl)) rfl <| Ax 6 [7, 8, 10] (Ao (A0 rfl) (hd 66 rfl)) rfl <| zal 7 (Ao (Av Bo rfl) (hd 67 rfl)) rfl ?_
      refine Bb 2 ?_ rfl (by kernel_rfl)
      refine Fa Try.f80 (Ae7 s a (by omega) s64 ua) (fun o G ⟨_, h⟩ => h ▸ Al Bc Ar) rfl Try.func80 rfl rfl (Aa rfl (Aa rfl Ad)) (.cons .n (.cons .i .nil)) (hd 62 rfl) ?_ (fun ch G hp => by simp at hp)
      rintro y G ⟨hy, rfl⟩; injection hy with hy; subst hy
      show JA _ _ _ _ _ ((62, .o 0 0 0 (a.length + 1)) :: _) _ _
      refine Bb 5 ?_ rfl (by kernel_rfl)
      refine A4 Try.f80 (Ae6 s b (by omega) s64 ub) rfl Try.func80 rfl rfl (Aa rfl (Aa rfl Ad)) (.cons .n (.cons .i .nil)) (hd 65 rfl) ?_ (fun ch hp => by simp at hp)
      rintro _ ⟨⟩; refine zal 8 (Ao (B0 (Il Bo rfl Gi (C8 rfl rfl) (.inl rfl) (by omega) (by rw [Gn]; omega)) (show V.n _ .u64 _ = V.n _ .u64 v by rw [List.drop_zero, hv])) (hd 68 rfl)) rfl <| zal 9 (Ao (Cr rfl) (hd 10 rfl)) rfl <| zal 10 (Ao (Cr rfl) (hd 11 rfl)) rfl <| Bi (by kernel_rfl) <| zsr <| zmv rfl (hd 69 rfl) <| Ac (Av Bo rfl) (hd 70 rfl) <| zas rfl (hd 12 rfl) <| Ab <| zsr <| zmv rfl (hd 71 rfl) ?_; refine Ac (Av Bo rfl) (hd 72 rfl) <| zmv rfl (hd 73 rfl) <| Ac (B1 rfl rfl (r := ((a.length - v.length : Nat) : Int)) (by rw [Ap (by omega) (by omega)]; omega)) (hd 74 rfl) <| Ac (A9 rfl rfl (r := ((a.length - v.length + 1 : Nat) : Int)) (by rw [Ap (by omega) (by omega)]; omega)) (hd 75 rfl) <| Ay (Fp (m := a.length - v.length + 1) Ky rfl rfl rfl (by show 8 * (a.length - v.length + 1) ≤ _; omega) (by unfold maxLen; omega) rfl) (hd 76 rfl) <| zas rfl (hd 13 rfl) <| Ab <| Af <| zsr <| zmv rfl (hd 77 rfl) <| Ac (Av Bo rfl) (hd 78 rfl) <| zmv rfl (hd 79 rfl) ?_; refine Ac (B1 rfl rfl (r := ((a.length - v.length : Nat) : Int)) (by rw [Ap (by omega) (by omega)]; omega)) (hd 80 rfl) <| zas rfl (hd 14 rfl) <| Ab <| Aw <| Cs (H' := [⟨79, 1, 0, true, A2 .u64 (upL a s)⟩, ⟨79, 1, 0, true, A2 .u64 (List.replicate (a.length - b.length + 1) 0 ++ [])⟩]) (by rw [List.append_nil, hn, ← hlv]; rfl) ?_
      refine B4 (G := Nat × List Int × List Int) (fun g => g.1 ≤ a.length - b.length + 1 ∧ Kn (vl a * 2 ^ s) v (a.length + 1) g.1 g.2.1 g.2.2 ∧ g.2.2.length = a.length - b.length + 1 - g.1) (fun g => [(14, .i .i64 ((g.1 : Int) - 1)), (81, .u), (82, .u), (83, .u), (84, .u), (85, .u), (86, .u), (87, .u), (88, .u), (89, .u), (90, .u), (91, .u), (92, .u), (93, .u), (94, .u), (95, .u), (96, .u)]) (fun g => [⟨79, 1, 0, true, A2 .u64 g.2.1⟩, ⟨79, 1, 0, true, A2 .u64 (List.replicate g.1 0 ++ g.2.2)⟩]) (fun g => g.1) (a.length - b.length + 1, upL a s, []) ?_ ?_ rfl ?_
      · exact ⟨Nat.le_refl _, Py s64 ua ub tb hb hv2 hlen, by show 0 = _; omega⟩
      · exact (.cons (by show some (V.i .i64 _) = some (V.i .i64 _); congr 2; omega) (.v9 (.v5 (.u .nil))))
      · rintro ⟨k, U, Qs⟩ ⟨hk, hK, hQl⟩
        dsimp only at hk hK hQl
        refine Af <| zsr <| zmv rfl (hd 81 rfl) <| Ac (Eu rfl rfl) (hd 82 rfl) <| Ab ?_
        refine Bu rfl (fun h4 => ?_) (fun h4 => ?_)
        · obtain ⟨k, rfl⟩ : ∃ m, k = m + 1 := ⟨k - 1, by omega⟩
          have hG := hK.gup uv hlv htop (by omega)
          have hKl := hK.lu
          refine Am <| Af <| Aw <| Ag <| zmv rfl (hd 85 rfl) <| zmv rfl (hd 86 rfl) <| zmv rfl (hd 87 rfl) <| zmv rfl (hd 88 rfl) <| zmv rfl (hd 89 rfl) <| zmv rfl (hd 90 rfl) <| Ac (A9 rfl rfl (r := ((k + v.length : Nat) : Int)) (by rw [Ap (by omega) (by omega)]; omega)) (hd 91 rfl) <| Ac (A9 rfl rfl (r := ((k + v.length + 1 : Nat) : Int)) (by rw [Ap (by omega) (by omega)]; omega)) (hd 92 rfl) <| Ac (S7 (l := k) (h := k + (n + 3)) (r := k) (n := n + 3) Bo rfl rfl (C8 rfl (by omega)) (C8 rfl (by omega)) (by omega) (by omega) (by omega) (by omega)) (hd 93 rfl) ?_; refine zmv rfl (hd 94 rfl) ?_
          refine Fy Try.f81 (Tx U (slJ U k (n + 3)) v (List.replicate (k + 1) 0 ++ Qs) k n (by omega) (by omega) hK.uu rfl hG) rfl Try.func81 rfl rfl (Aa rfl (Aa rfl Ad)) (.cons (.same rfl) (.cons .n .nil)) (Cx Dz (Cx Dz Dj)) (hd 95 rfl) ?_ (fun ch H2 hp => by simp at hp)
          rintro y H2 ⟨hy, r, rfl, hrl, hru, hrv⟩; injection hy with hy; subst hy; refine Ac (Ci (i := k) Bo rfl rfl rfl (by omega) (by omega) rfl) (hd 96 rfl) <| A1 (Cc rfl rfl rfl Bw (by simp only [List.length_append, List.length_replicate]; omega)) <| Ab <| Ag <| zmv rfl (hd 83 rfl) <| Ac (B1 rfl rfl (Ap (by omega) (by omega))) (hd 84 rfl) <| zas rfl (hd 14 rfl) <| Ab ?_
          refine ⟨(k, rwJ U k r, vl (slJ U k (n + 3)) / vl v :: Qs), ?_, ?_, (by show [_, (⟨79, 1, 0, true, A2 .u64 _⟩ : Ob)] = [_, ⟨79, 1, 0, true, A2 .u64 _⟩]; rw [Ub]), Ba 34 rfl rfl ?_⟩
          · exact ⟨by show k ≤ _; omega, hK.next hG (by omega) hrl hru hrv, by show (_ :: Qs).length = _; rw [List.length_cons]; omega⟩
          · show k < k + 1
            omega
          · exact (.cons (by show some (V.i .i64 _) = some (V.i .i64 _); congr 2; omega) (.v9 (.v5 (.u .nil))))
        · obtain rfl : k = 0 := by omega
          have hKl := hK.lu
          obtain ⟨hf1, hf2, hf3⟩ := hK.fin s64 hv2 hb0 ua uv (by omega)
          refine By <| Af <| Ir (k := .u64) (l := List.replicate 0 0 ++ Qs) (l' := Qs) 13 rfl rfl (by simp only [List.length_append, List.length_replicate]; omega) (by rw [List.drop_zero]; show List.take _ Qs = _; rw [List.take_of_length_le (by omega)]) hL <| Ir (k := .u64) (l := U) (l' := U) 10 rfl rfl (by omega) (by rw [List.drop_zero, List.take_of_length_le (by omega)]) hL <| Be (n := 9) _ rfl B2 <| Ax 0 [1, 6, 7, 8] (Ao (A0 rfl) (hd 97 rfl)) rfl <| Ax 2 [4, 6, 7, 8] (Ao (A0 rfl) (hd 99 rfl)) rfl <| Ax 3 [4, 6, 7, 8] (Ao (A0 rfl) (hd 100 rfl)) rfl <| Ax 4 [6, 7, 8] (Ao (B0 (Il Bo rfl Gi (C8 rfl rfl) (.inl rfl) (by omega) (by omega)) (show V.n _ .u64 _ = V.n _ .u64 (U.take v.length) by rw [List.drop_zero])) (hd 101 rfl)) rfl <| Ax 5 [6, 7, 8] (Ao (A0 rfl) (hd 102 rfl)) rfl ?_
          refine Bb 1 ?_ rfl (by kernel_rfl)
          refine Fa Try.f48 (U6 Qs (by omega)) (fun o G ⟨_, h⟩ => h ▸ Al Bc Ar) rfl Try.func48 rfl rfl (Aa rfl Ad) (.cons .n .nil) (hd 98 rfl) ?_ (fun ch G hp => by simp at hp)
          rintro y G ⟨hy, rfl⟩; injection hy with hy; subst hy
          show JA _ _ _ _ _ ((98, .o 2 0 0 (trm Qs).length) :: _) _ _
          refine Bb 6 ?_ rfl (by kernel_rfl)
          refine A4 Try.f82 (Lf s (U.take v.length) (by rw [List.length_take]; omega) s64 (D4 hK.uu _)) rfl Try.func82 rfl rfl (Aa rfl (Aa rfl Ad)) (.cons .n (.cons .i .nil)) (hd 103 rfl) ?_ (fun ch hp => by simp at hp)
          rintro _ ⟨⟩; refine zal 7 (Ao (Cr rfl) (hd 4 rfl)) rfl <| zal 8 (Ao (Cr rfl) (hd 5 rfl)) rfl <| Bi (by kernel_rfl) <| P1 5 rfl <| As ?_
          refine ⟨[2], _, (.t [.o 0 0 0 (trm Qs).length, .n false .u64 (trm (dnN (U.take v.length) s (U.take v.length).length))]), (.cons rfl (.cons rfl .nil)), rfl, rfl, (by decide), (by first | exact Al Bc Ar | exact Al rfl Ar), ?_⟩
          rw [hf1, hf3]
          exact ⟨rfl, rfl⟩

theorem Yk (x g : Nat) (hx : Bm (x : Int) ≤ 67108864) (hg9 : Bm (g : Int) ≤ 67108864) (h0 : g ≠ 0) : SpecM Try.prog 38 [.n false .u64 (lm (x : Int)), .n false .u64 (lm (g : Int))] [] (fun o G => o = .ret (.t [.o 0 0 0 (lm ((x / g : Nat) : Int)).length, .i .i64 0]) ∧ G = [⟨79, 1, 0, true, A2 .u64 (lm ((x / g : Nat) : Int))⟩]) := by
  refine Cy [(0, .n false .u64 (lm (x : Int))), (1, .n false .u64 (lm (g : Int)))] rfl Try.func38 rfl (zlb rfl) fun Γ hN hds hL hR => ?_
  have hd := B5 25 hN
  have hlv := Bf hx
  have hlw := Bf hg9
  have hle : Bm ((x / g : Nat) : Int) ≤ Bm (x : Int) := Mc (Nat.div_le_self _ _)
  have hlq := Bf (v := ((x / g : Nat) : Int)) (by omega)
  have hne := Nb (show (g : Int) ≠ 0 by omega)
  have hDq : SpecM Try.prog 65 [.n false .u64 (lm (x : Int)), .n false .u64 (lm (g : Int))] [] (fun o G => o = .ret (.t [.o 0 0 0 (lm ((x / g : Nat) : Int)).length, .n false .u64 (lm ((x % g : Nat) : Int))]) ∧ G = [⟨79, 1, 0, true, A2 .u64 (lm ((x / g : Nat) : Int))⟩]) := by
    have h := Wq (lm (x : Int)) (lm (g : Int)) (by omega) (by omega) (Cq _) (Cq _) (Acp _) (Acp _) hne
    rw [Vp (Int.natCast_nonneg _), Vp (Int.natCast_nonneg _), ← Int.natCast_ediv, ← Int.natCast_emod] at h
    exact h
  refine zsr <| zas rfl (hd 4 rfl) <| zas rfl (hd 5 rfl) <| Ab <| zsr <| zmv rfl (hd 8 rfl) ?_
  refine Aj Try.f48 (Ql (x : Int) (by omega)) rfl Try.func48 rfl rfl (Aa rfl Ad) (.cons .n .nil) (hd 9 rfl) ?_ (fun ch hp => by simp at hp)
  rintro _ ⟨⟩; refine zmv rfl (hd 10 rfl) ?_
  refine Aj Try.f48 (Ql (g : Int) (by omega)) rfl Try.func48 rfl rfl (Aa rfl Ad) (.cons .n .nil) (hd 11 rfl) ?_ (fun ch hp => by simp at hp)
  rintro _ ⟨⟩; refine zas rfl (hd 0 rfl) <| zas rfl (hd 1 rfl) <| Ab <| Af <| zsr <| zmv rfl (hd 12 rfl) <| Ac (Av Bo rfl) (hd 13 rfl) <| Ac (Cd (Dy rfl rfl) (fun h => hne (List.eq_nil_of_length_eq_zero (by omega)))) (hd 14 rfl) <| Ab <| Bl rfl <| Am <| Af ?_; refine Ag <| zmv rfl (hd 16 rfl) <| zmv rfl (hd 17 rfl) ?_
  refine C9 Try.f65 (hDq) (fun o G ⟨_, h⟩ => h ▸ Al Bc Ar) rfl Try.func65 rfl rfl (Aa rfl (Aa rfl Ad)) (.cons .n (.cons .n .nil)) (hd 18 rfl) ?_ (fun ch G hp => by simp at hp)
  rintro y G ⟨hy, rfl⟩; injection hy with hy; subst hy
  show JO _ _ _ _ ((18, .t [.o 0 0 0 (lm ((x / g : Nat) : Int)).length, .n false .u64 (lm ((x % g : Nat) : Int))]) :: _) _ _
  refine zmv rfl (hd 15 rfl) <| Ac (Ak rfl rfl) (hd 19 rfl) <| Ac (Ak rfl rfl) (hd 20 rfl) <| zas rfl (hd 6 rfl) <| zas rfl (hd 7 rfl) <| Ab <| Af <| zsr <| zmv rfl (hd 21 rfl) ?_
  refine Fz Try.f33 (Ek ((x / g : Nat) : Int) (by omega)) rfl Try.func33 rfl rfl (Aa rfl Ad) (.a1 (.o rfl (by simp) (by rw [List.drop_zero, List.take_length])) .a0) (.cons .n .nil) hL (fun y hy => by injection hy with hy; subst hy; rfl) (hd 22 rfl) ?_ (fun ch hp => by simp at hp)
  rintro _ ⟨⟩; refine Ac (Cd (C0 rfl rfl) (by omega)) (hd 23 rfl) <| Ab <| Bl rfl <| Am <| zsr <| zmv rfl (hd 24 rfl) <| zas rfl (hd 4 rfl) <| zas rfl (hd 5 rfl) <| Ab <| As ?_
  refine ⟨[0], _, (.t [.o 0 0 0 (lm ((x / g : Nat) : Int)).length, .i .i64 0]), (.cons rfl (.cons rfl .nil)), rfl, rfl, (by decide), (by first | exact Al Bc Ar | exact Al rfl Ar), ?_⟩
  exact ⟨rfl, rfl⟩

def rtV (r : Bool × List Int × List Int) : List V := [.b r.1, .n false .u64 r.2.1, .n false .u64 r.2.2]
def Agw (rs : List (Bool × List Int × List Int)) : List (List V) := rs.map rtV
def Agy (rs : List (Bool × List Int × List Int)) (i : Nat) : Bool × List Int × List Int := rs.getD i (false, [], [])
def lkO (tg : TypeId) (rs : List (Bool × List Int × List Int)) : Out := if rs.all (fun r => decide (vl r.2.2 ≠ 0)) then .ret (.t []) else .pan (Agg tg 70 false)
def ntx (x : Nat) : ByteArray := txt (hdg 10 1 x)
def Afd (s : Bool) (x : Nat) : ByteArray := if s then (⟨#[45]⟩ : ByteArray) ++ ntx x else ntx x
def rtx (s : Bool) (x y : Nat) : ByteArray := if y = 1 then Afd s x else Afd s x ++ ((⟨#[47]⟩ : ByteArray) ++ ntx y)

theorem V9 {a b c d : Nat} (h1 : Nat.gcd a b = 1) (h2 : Nat.gcd c d = 1) (hb : b ≠ 0) (hd : d ≠ 0) (h : a * d = c * b) : a = c ∧ b = d := by
  have e1 : b ∣ d := by
    have hc : Nat.Coprime b a := by rw [Nat.coprime_comm]; exact h1
    exact hc.dvd_of_dvd_mul_left (h ▸ Nat.dvd_mul_left b c)
  have e2 : d ∣ b := by
    have hc : Nat.Coprime d c := by rw [Nat.coprime_comm]; exact h2
    exact hc.dvd_of_dvd_mul_left (h ▸ Nat.dvd_mul_left d a)
  have e := Nat.dvd_antisymm e1 e2
  subst e
  exact ⟨Nat.eq_of_mul_eq_mul_right (Nat.pos_of_ne_zero hb) h, rfl⟩
def nn (z : Int) (Y : Nat) : Nat := rn0 z.natAbs Y
def dd (z : Int) (Y : Nat) : Nat := rd0 z.natAbs Y
theorem Aco {a b : Nat} {z : Int} {Y : Nat} (h1 : Nat.gcd a b = 1) (hb : b ≠ 0) (hY : Y ≠ 0) (h : a * Y = z.natAbs * b) : a = nn z Y ∧ b = dd z Y := by
  refine V9 h1 (Si hY) hb (Nat.pos_iff_ne_zero.1 (Oc hY)) ?_
  have e1 : nn z Y * Nat.gcd z.natAbs Y = z.natAbs := @Lz z.natAbs Y
  have e2 : dd z Y * Nat.gcd z.natAbs Y = Y := @L3 z.natAbs Y
  have hg := Iu (x := z.natAbs) hY
  refine Nat.eq_of_mul_eq_mul_right hg ?_
  show a * dd z Y * _ = nn z Y * b * _
  rw [Nat.mul_assoc, e2, h, Nat.mul_right_comm, e1]
theorem Aa0 {s : Bool} {x k : Nat} : zs s (x * k) = zs s x * (k : Int) := by
  unfold zs
  cases s <;> simp [Int.neg_mul]
theorem Aa1 (z : Int) : zs (decide (z < 0)) z.natAbs = z := by
  unfold zs
  by_cases h : z < 0
  · rw [if_pos (decide_eq_true h)]; omega
  · rw [if_neg (by rw [decide_eq_false h]; decide)]; omega
def Qe (s : Bool) (x y : Nat) (z : Int) (Y : Nat) : Prop := y ≠ 0 ∧ Y ≠ 0 ∧ zs s x * (Y : Int) = z * (y : Int)
theorem Qe.abs {s : Bool} {x y : Nat} {z : Int} {Y : Nat} (h : Qe s x y z Y) : x * Y = z.natAbs * y := by
  have := congrArg Int.natAbs h.2.2
  rwa [Int.natAbs_mul, Int.natAbs_mul, Int.natAbs_natCast, Int.natAbs_natCast, Rd] at this
theorem Qe.low {s : Bool} {x y : Nat} {z : Int} {Y : Nat} (h : Qe s x y z Y) : rn0 x y = nn z Y ∧ rd0 x y = dd z Y := by
  refine Aco (Si h.1) (Nat.pos_iff_ne_zero.1 (Oc h.1)) h.2.1 ?_
  have hg := Iu (x := x) h.1
  refine Nat.eq_of_mul_eq_mul_right hg ?_
  rw [Nat.mul_right_comm, Lz, Nat.mul_assoc, L3, h.abs]
theorem Qe.can (z : Int) {Y : Nat} (hY : Y ≠ 0) : Qe (decide (z < 0)) (nn z Y) (dd z Y) z Y := by
  refine ⟨Nat.pos_iff_ne_zero.1 (Oc hY), hY, ?_⟩
  have e1 := @Lz z.natAbs Y
  have e2 := @L3 z.natAbs Y
  have hg := Iu (x := z.natAbs) hY
  have e3 : (nn z Y : Nat) * Nat.gcd z.natAbs Y = z.natAbs := e1
  have e4 : (dd z Y : Nat) * Nat.gcd z.natAbs Y = Y := e2
  have h1 : zs (decide (z < 0)) (nn z Y) * ((Nat.gcd z.natAbs Y : Nat) : Int) = z := by rw [← Aa0, e3, Aa1]
  have h2 : (Y : Int) = (dd z Y : Int) * ((Nat.gcd z.natAbs Y : Nat) : Int) := by exact_mod_cast e4.symm
  rw [h2]
  generalize (Nat.gcd z.natAbs Y : Nat) = G at *
  generalize zs (decide (z < 0)) (nn z Y) = A at *
  generalize (dd z Y : Int) = D at *
  rw [← h1]
  simp only [Int.mul_assoc, Int.mul_comm, Int.mul_left_comm]
theorem Qe.add {s t : Bool} {x y x2 y2 : Nat} {z w : Int} {Y X : Nat} (h1 : Qe s x y z Y) (h2 : Qe t x2 y2 w X) : (zs s x * (y2 : Int) + zs t x2 * (y : Int)) * ((Y * X : Nat) : Int) = (z * (X : Int) + w * (Y : Int)) * ((y * y2 : Nat) : Int) := by
  have e1 := h1.2.2
  have e2 := h2.2.2
  rw [Int.natCast_mul, Int.natCast_mul]
  generalize zs s x = A at *
  generalize zs t x2 = B at *
  have : (A * (y2 : Int) + B * (y : Int)) * ((Y : Int) * (X : Int)) = (A * (Y : Int)) * ((y2 : Int) * (X : Int)) + (B * (X : Int)) * ((y : Int) * (Y : Int)) := by
    rw [Int.add_mul]; congr 1 <;> simp only [Int.mul_assoc, Int.mul_comm, Int.mul_left_comm]
  rw [this, e1, e2, Int.add_mul]
  congr 1 <;> simp only [Int.mul_assoc, Int.mul_comm, Int.mul_left_comm]

theorem Pv (v : Int) : lm ((v.natAbs : Nat) : Int) = lm v := by unfold lm; rw [Int.natAbs_natCast]
theorem Hb (v : Int) : Bm ((v.natAbs : Nat) : Int) = Bm v := by unfold Bm; rw [Int.natAbs_natCast]
theorem Rw.sv {s : Bool} {l : List Int} {x : Nat} (h : Rw l x) : sv s l = zs s x := by unfold Vc.sv zs; rw [h.v]
def cN (a b c d : Nat) : Int := Du ((a * d : Nat) : Int) ((c * b : Nat) : Int)

theorem Afh {z : Int} {Y : Nat} : Bm ((nn z Y : Nat) : Int) ≤ Bm z := by rw [← Hb z]; exact Mc Abu
theorem Afp {z : Int} {Y : Nat} : Bm ((dd z Y : Nat) : Int) ≤ Bm (Y : Int) := Mc Aby
structure Qr (s : Bool) (l d : List Int) (x y : Nat) (z : Int) (Y b : Nat) : Prop where
  hx : Rw l x
  hy : Rw d y
  q : Qe s x y z Y
  bx : Bm (x : Int) ≤ b
  bd : Bm (y : Int) ≤ b
  bz : Bm z ≤ b
  bY : Bm (Y : Int) ≤ b
theorem Qr.can {z : Int} {Y b : Nat} (h0 : Y ≠ 0) (h1 : Bm z ≤ b) (h2 : Bm (Y : Int) ≤ b) (hb : b ≤ 67108864) : Qr (decide (z < 0)) (lm ((nn z Y : Nat) : Int)) (lm ((dd z Y : Nat) : Int)) (nn z Y) (dd z Y) z Y b :=
  ⟨Rw.of (Nat.le_trans Afh (Nat.le_trans h1 hb)), Rw.of (Nat.le_trans Afp (Nat.le_trans h2 hb)), Qe.can z h0, Nat.le_trans Afh h1, Nat.le_trans Afp h2, h1, h2⟩
variable {s t : Bool} {l d l2 d2 : List Int} {x y x2 y2 : Nat} {z w : Int} {Y X b c : Nat}
theorem Qr.add (h1 : Qr s l d x y z Y b) (h2 : Qr t l2 d2 x2 y2 w X c) (hb : b + c + 1 ≤ 67108864) {Z : Int} {W : Nat} (eZ : Z = z * (X : Int) + w * (Y : Int)) (eW : W = Y * X) :
    Qr (decide (Z < 0)) (lm ((nn Z W : Nat) : Int)) (lm ((dd Z W : Nat) : Int)) (nn Z W) (dd Z W) Z W (b + c + 1) := by
  subst eZ eW
  have b1 := h1.bz
  have b2 := h1.bY
  have b3 := h2.bz
  have b4 := h2.bY
  refine Qr.can (Nat.mul_ne_zero h1.q.2.1 h2.q.2.1) ?_ ?_ hb
  · have h8 := G9 z (X : Int)
    have h9 := G9 w (Y : Int)
    have h7 := Wb (z * (X : Int)) (w * (Y : Int))
    omega
  · rw [Int.natCast_mul]
    have h8 := G9 (Y : Int) (X : Int)
    omega
theorem Qr.low (h : Qr s l d x y z Y b) (hb : b ≤ 67108864) : Qr (decide (z < 0)) (lm ((nn z Y : Nat) : Int)) (lm ((dd z Y : Nat) : Int)) (nn z Y) (dd z Y) z Y b := Qr.can h.q.2.1 h.bz h.bY hb
def okR (r : Bool × List Int × List Int) : Prop := vl r.2.2 ≠ 0 ∧ Bm (vl r.2.2) ≤ 1048576 ∧ Bm (vl r.2.1) ≤ 1048576
instance (r : Bool × List Int × List Int) : Decidable (okR r) := by unfold okR; exact inferInstance
def Afa (rs : List (Bool × List Int × List Int)) : Bool := rs.all fun r => decide (okR r)
end Go.Proofs.Ythbbbopbglbagaa.Vc

namespace Go.Proofs.Ythbbbopbglbagaa.Vc
open Go Go.RowKit




theorem Ac2 (s : Bool) (l : List Int) (v : Int) (hl : l.length < 1099511627776) (hu : A3 l) (hv : sv s l = v) : Spec Try.prog 90 [.a [.b s, .n false .u64 l]] (fun o => ∃ (s2 : Bool) (r : List Int) (e : Int), o = .ret (.t [.a [.b s2, .n true .u64 r], .i .i64 e]) ∧ Res (v) s2 r e) := by
  refine Az [(0, .a [.b s, .n false .u64 l])] rfl Try.func90 rfl (zlb rfl) fun Γ hN hds hL hR => ?_
  have hd := B5 11 hN
  refine zsr <| Ay (Br (id := 0) (n := 2) rfl rfl rfl (by decide) rfl) (hd 1 rfl) <| Ay (An (id := 1) At (by decide) rfl (by decide) rfl) (hd 2 rfl) <| zas rfl (hd 3 rfl) <| Ab <| Af <| zsr <| Ac (Bd Bp rfl rfl rfl) (hd 4 rfl) <| Ac (A8 Ce rfl rfl rfl) (hd 5 rfl) ?_
  refine Aj Try.f33 (Ed l hl hu) rfl Try.func33 rfl rfl (Aa rfl Ad) (.cons .n .nil) (hd 6 rfl) ?_ (fun ch hp => by simp at hp)
  rintro _ ⟨⟩; refine Ac (C0 rfl rfl) (hd 7 rfl) <| Ab ?_
  refine Bu rfl (fun h1 => ?_) (fun h1 => ?_)
  · refine zsr <| Ac (B3 (is := []) (xs := []) (pls := []) At Gu rfl Ad rfl trivial (Cj rfl) rfl) (hd 8 rfl) <| A1 (Ae rfl rfl rfl Au rfl rfl (zlb rfl)) <| zas rfl (hd 3 rfl) <| Ab <| As ?_
    refine ⟨_, _, (.cons (ResV.cell Aq rfl rfl rfl rfl) (.cons rfl .nil)), (.t1 (.a1 .b (.a1 (.nil (fr := true) (k := .u64)) .a0)) (.t1 .i .t0)), ?_⟩
    exact ⟨false, [], 3, rfl, Sk hu hv (by omega)⟩
  · refine Am <| zsr <| Ac (Ah Aq rfl rfl rfl rfl) (hd 9 rfl) ?_
    refine Aj Try.f32 (Hn s l hl) rfl Try.func32 rfl rfl (Aa rfl Ad) (.cons (.a1 .b (.a1 .n .a0)) .nil) (hd 10 rfl) ?_ (fun ch hp => by simp at hp)
    rintro _ ⟨⟩; refine A1 (Ae rfl rfl rfl Au rfl rfl (zlb rfl)) <| zas rfl (hd 3 rfl) <| Ab <| As ?_
    refine ⟨_, _, (.cons (ResV.cell Aq rfl rfl rfl rfl) (.cons rfl .nil)), (.t1 (.a1 .b (.a1 .n .a0)) (.t1 .i .t0)), ?_⟩
    exact ⟨_, _, 0, rfl, Xk hu hv (by omega)⟩

theorem Jt (s : Bool) (l : List Int) (e v : Int) (hRs : Ae1 v s l e) : Spec Try.prog 68 [.b s, .n false .u64 l, .i .i64 e] (fun o => ∃ (s2 : Bool) (r : List Int) (e : Int), o = .ret (.t [.a [.b s2, .n true .u64 r], .i .i64 e]) ∧ Res (v) s2 r e) := by
  refine Az [(0, .b s), (1, .n false .u64 l), (2, .i .i64 e)] rfl Try.func68 rfl (zlb rfl) fun Γ hN hds hL hR => ?_
  have hd := B5 18 hN
  refine zsr <| Ay (An (id := 0) At (by decide) rfl (by decide) rfl) (hd 6 rfl) <| zas rfl (hd 7 rfl) <| Ab <| Af <| zsr <| zmv rfl (hd 8 rfl) <| Ac (Cm rfl rfl) (hd 9 rfl) <| Ab ?_
  refine Bu rfl (fun h1 => ?_) (fun h1 => ?_)
  · have hE : e = 3 ∧ 67108864 < Bm v := by
      rcases hRs with ⟨h, _⟩ | h
      · omega
      · exact h
    refine zsr <| Ac (B3 (is := []) (xs := []) (pls := []) At Gu rfl Ad rfl trivial (Cj rfl) rfl) (hd 10 rfl) <| zmv rfl (hd 11 rfl) <| A1 (Ae rfl rfl rfl Au rfl rfl (zlb rfl)) <| zas rfl (hd 7 rfl) <| Ab <| As ?_
    refine ⟨_, _, (.cons (ResV.cell Aq rfl rfl rfl rfl) (.cons rfl .nil)), (.t1 (.a1 .b (.a1 (.nil (fr := true) (k := .u64)) .a0)) (.t1 .i .t0)), ?_⟩
    exact ⟨false, [], e, rfl, .inr ⟨hE.2, rfl, rfl, hE.1⟩⟩
  · have hE : A3 l ∧ l.length < 1099511627776 ∧ sv s l = v := by
      rcases hRs with ⟨_, h⟩ | ⟨h, _⟩
      · exact h
      · omega
    refine Am <| zsr <| zmv rfl (hd 12 rfl) <| zmv rfl (hd 13 rfl) <| Ac (B3 (is := [0, 1]) (xs := [.tmp 12, .tmp 13]) At Dx rfl (Aa rfl (Aa rfl Ad)) rfl (by first | (simp [Ck, cellsV]; done) | (simp [Ck, cellsV, old]; done)) (Cj rfl) rfl) (hd 14 rfl) ?_
    refine Aj Try.f90 (Ac2 s l v hE.2.1 hE.1 hE.2.2) rfl Try.func90 rfl rfl (Aa rfl Ad) (.cons (.a1 .b (.a1 .n .a0)) .nil) (hd 15 rfl) ?_ (fun ch hp => by simp at hp)
    rintro y ⟨sf, rf, ef, hy, hf⟩; injection hy with hy; subst hy; refine Ac (Ak rfl rfl) (hd 16 rfl) <| Ac (Ak rfl rfl) (hd 17 rfl) <| A1 (Ae rfl rfl rfl Au rfl rfl (zlb rfl)) <| zas rfl (hd 7 rfl) <| Ab <| As ?_
    refine ⟨_, _, (.cons (ResV.cell Aq rfl rfl rfl rfl) (.cons rfl .nil)), (.t1 (.a1 .b (.a1 .n .a0)) (.t1 .i .t0)), ?_⟩
    exact ⟨sf, rf, ef, rfl, hf⟩

theorem Ads (s t : Bool) (a b : List Int) (hla : a.length < 4294967296) (hlb : b.length < 4294967296) (ua : A3 a) (ub : A3 b) : Spec Try.prog 40 [.a [.b s, .n false .u64 a], .a [.b t, .n false .u64 b]] (fun o => ∃ (s2 : Bool) (r : List Int) (e : Int), o = .ret (.t [.a [.b s2, .n true .u64 r], .i .i64 e]) ∧ Res (sv s a * sv t b) s2 r e) := by
  refine Az [(0, .a [.b s, .n false .u64 a]), (1, .a [.b t, .n false .u64 b])] rfl Try.func40 rfl (zlb rfl) fun Γ hN hds hL hR => ?_
  have hd := B5 26 hN
  have ha0 := Bq ua
  have hb0 := Bq ub
  refine zsr <| Ay (Br (id := 0) (n := 2) rfl rfl rfl (by decide) rfl) (hd 2 rfl) <| Ay (Br (id := 1) (n := 2) rfl rfl rfl (by decide) rfl) (hd 3 rfl) <| Ay (An (id := 2) At (by decide) rfl (by decide) rfl) (hd 4 rfl) <| zas rfl (hd 5 rfl) <| Ab <| zsr <| Ac (Bd Bp rfl rfl rfl) (hd 9 rfl) <| Ac (A8 Ce rfl rfl rfl) (hd 10 rfl) <| Ac (Bd Bp rfl rfl rfl) (hd 11 rfl) <| Ac (A8 Ce rfl rfl rfl) (hd 12 rfl) ?_
  refine Aj Try.f67 (Yh a b hla hlb ua ub) rfl Try.func67 rfl rfl (Aa rfl (Aa rfl Ad)) (.cons .n (.cons .n .nil)) (hd 13 rfl) ?_ (fun ch hp => by simp at hp)
  rintro y ⟨rp, ep, hy, hp⟩; injection hy with hy; subst hy; refine zmv rfl (hd 8 rfl) <| Ac (Ak rfl rfl) (hd 14 rfl) <| Ac (Ak rfl rfl) (hd 15 rfl) <| zas rfl (hd 6 rfl) <| zas rfl (hd 7 rfl) <| Ab <| zsr <| Ac (Bd Cf rfl rfl rfl) (hd 16 rfl) <| Ac (A8 C5 rfl rfl rfl) (hd 17 rfl) <| Ac (Bd Cf rfl rfl rfl) (hd 18 rfl) <| Ac (A8 C5 rfl rfl rfl) (hd 19 rfl) <| Ac (Im Qo rfl rfl) (hd 20 rfl) ?_; refine zmv rfl (hd 21 rfl) <| zmv rfl (hd 22 rfl) ?_
  refine Aj Try.f68 (Jt (!(s == t)) rp ep (sv s a * sv t b) (Gr hp (Int.mul_nonneg ha0 hb0) (fun q uq hq => W9 hq))) rfl Try.func68 rfl rfl (Aa rfl (Aa rfl (Aa rfl Ad))) (.cons .b (.cons .n (.cons .i .nil))) (hd 23 rfl) ?_ (fun ch hp => by simp at hp)
  rintro y ⟨sr, rr, er, hy, hr⟩; injection hy with hy; subst hy; refine Ac (Ak rfl rfl) (hd 24 rfl) <| Ac (Ak rfl rfl) (hd 25 rfl) <| A1 (Ae rfl rfl rfl Au rfl rfl (zlb rfl)) <| zas rfl (hd 5 rfl) <| Ab <| As ?_
  refine ⟨_, _, (.cons (ResV.cell Aq rfl rfl rfl rfl) (.cons rfl .nil)), (.t1 (.a1 .b (.a1 .n .a0)) (.t1 .i .t0)), ?_⟩
  exact ⟨sr, rr, er, rfl, hr⟩

theorem Adv (s t : Bool) (a b : List Int) (hla : a.length < 4294967296) (hlb : b.length < 4294967296) (ua : A3 a) (ub : A3 b) : Spec Try.prog 69 [.a [.b s, .n false .u64 a], .a [.b t, .n false .u64 b]] (fun o => ∃ (s2 : Bool) (r : List Int) (e : Int), o = .ret (.t [.a [.b s2, .n true .u64 r], .i .i64 e]) ∧ Res (sv s a + sv t b) s2 r e) := by
  refine Az [(0, .a [.b s, .n false .u64 a]), (1, .a [.b t, .n false .u64 b])] rfl Try.func69 rfl (zlb rfl) fun Γ hN hds hL hR => ?_
  have hd := B5 57 hN
  have hma := C7 a
  have hmb := C7 b
  have hcv := Gh (Bk ua) (Bk ub)
  rw [Ez, Ez] at hcv
  have ea1 := I4 (s := s) ua
  have eb1 := I4 (s := t) ub
  have ha0 := Bq (Bk ua)
  have hb0 := Bq (Bk ub)
  refine zsr <| Ay (Br (id := 0) (n := 2) rfl rfl rfl (by decide) rfl) (hd 2 rfl) <| Ay (Br (id := 1) (n := 2) rfl rfl rfl (by decide) rfl) (hd 3 rfl) <| Ay (An (id := 2) At (by decide) rfl (by decide) rfl) (hd 4 rfl) <| zas rfl (hd 5 rfl) <| Ab <| Af <| Be (n := 6) _ rfl B2 <| Ax 0 [1, 3, 4, 5] (Ao (Ah Aq rfl rfl rfl rfl) (hd 10 rfl)) rfl <| Ax 2 [3, 4, 5] (Ao (Ah Aq rfl rfl rfl rfl) (hd 12 rfl)) rfl ?_
  refine Bb 1 ?_ rfl (by kernel_rfl)
  refine A4 Try.f32 (Hn s a (by omega)) rfl Try.func32 rfl rfl (Aa rfl Ad) (.cons (.a1 .b (.a1 .n .a0)) .nil) (hd 11 rfl) ?_ (fun ch hp => by simp at hp)
  rintro y hy; injection hy with hy; subst hy
  refine Bb 3 ?_ rfl (by kernel_rfl)
  refine A4 Try.f32 (Hn t b (by omega)) rfl Try.func32 rfl rfl (Aa rfl Ad) (.cons (.a1 .b (.a1 .n .a0)) .nil) (hd 13 rfl) ?_ (fun ch hp => by simp at hp)
  rintro y hy; injection hy with hy; subst hy
  refine Bb 4 ?_ rfl (by kernel_rfl)
  refine A7 (Ae rfl rfl rfl Au rfl rfl (zlb rfl)) rfl ?_
  refine Bb 5 ?_ rfl (by kernel_rfl)
  refine A7 (Ae rfl rfl rfl Au rfl rfl (zlb rfl)) rfl <| Bi (by kernel_rfl) <| Af <| zsr <| Ac (Bd Cf rfl rfl rfl) (hd 14 rfl) <| Ac (A8 C5 rfl rfl rfl) (hd 15 rfl) <| Ac (Bd Cf rfl rfl rfl) (hd 16 rfl) <| Ac (A8 C5 rfl rfl rfl) (hd 17 rfl) <| Ac (Pt Qo rfl rfl) (hd 18 rfl) <| Ab ?_
  refine E7 rfl (fun h1 => ?_) (fun h1 => ?_)
  · refine zsr <| Ac (Bd Bp rfl rfl rfl) (hd 20 rfl) <| Ac (A8 Ce rfl rfl rfl) (hd 21 rfl) <| Ac (Bd Bp rfl rfl rfl) (hd 22 rfl) <| Ac (A8 Ce rfl rfl rfl) (hd 23 rfl) ?_
    refine Aj Try.f85 (Yl (trm a) (trm b) (by omega) (by omega) (Bk ua) (Bk ub)) rfl Try.func85 rfl rfl (Aa rfl (Aa rfl Ad)) (.cons .n (.cons .n .nil)) (hd 24 rfl) ?_ (fun ch hp => by simp at hp)
    rintro y ⟨ra, ea, hy, ha⟩; injection hy with hy; subst hy; refine zmv rfl (hd 19 rfl) <| Ac (Ak rfl rfl) (hd 25 rfl) <| Ac (Ak rfl rfl) (hd 26 rfl) <| zas rfl (hd 6 rfl) <| zas rfl (hd 7 rfl) <| Ab <| zsr <| Ac (Bd Cf rfl rfl rfl) (hd 27 rfl) <| Ac (A8 C5 rfl rfl rfl) (hd 28 rfl) <| zmv rfl (hd 29 rfl) <| zmv rfl (hd 30 rfl) ?_
    refine Aj Try.f68 (Jt (s && decide (0 < ((trm a).length : Int))) ra ea (sv s a + sv t b) (Gr ha (by omega) (fun q uq hq => U1 (by assumption) hq ea1 eb1))) rfl Try.func68 rfl rfl (Aa rfl (Aa rfl (Aa rfl Ad))) (.cons .b (.cons .n (.cons .i .nil))) (hd 31 rfl) ?_ (fun ch hp => by simp at hp)
    rintro y ⟨sr, rr, er, hy, hr⟩; injection hy with hy; subst hy; refine Ac (Ak rfl rfl) (hd 32 rfl) <| Ac (Ak rfl rfl) (hd 33 rfl) <| A1 (Ae rfl rfl rfl Au rfl rfl (zlb rfl)) <| zas rfl (hd 5 rfl) <| Ab <| As ?_
    refine ⟨_, _, (.cons (ResV.cell Aq rfl rfl rfl rfl) (.cons rfl .nil)), (.t1 (.a1 .b (.a1 .n .a0)) (.t1 .i .t0)), ?_⟩
    exact ⟨sr, rr, er, rfl, hr⟩
  · refine Am <| Af <| zsr <| Ac (Bd Bp rfl rfl rfl) (hd 34 rfl) <| Ac (A8 Ce rfl rfl rfl) (hd 35 rfl) <| Ac (Bd Bp rfl rfl rfl) (hd 36 rfl) <| Ac (A8 Ce rfl rfl rfl) (hd 37 rfl) ?_
    refine Aj Try.f71 (E6 (trm a) (trm b) (by omega) (by omega)) rfl Try.func71 rfl rfl (Aa rfl (Aa rfl Ad)) (.cons .n (.cons .n .nil)) (hd 38 rfl) ?_ (fun ch hp => by simp at hp)
    rintro _ ⟨⟩; refine Ac (Ch rfl rfl) (hd 39 rfl) <| Ab ?_
    refine Bu rfl (fun h2 => ?_) (fun h2 => ?_)
    · rw [Ez, Ez] at h2
      refine Ag <| Ac (Ah Aq rfl rfl rfl rfl) (hd 40 rfl) <| Ac (Ah Aq rfl rfl rfl rfl) (hd 41 rfl) <| A1 (Ae rfl rfl rfl Au rfl rfl (zlb rfl)) <| A1 (Ae rfl rfl rfl Au rfl rfl (zlb rfl)) <| Ab <| zsr <| Ac (Bd Bp rfl rfl rfl) (hd 43 rfl) <| Ac (A8 Ce rfl rfl rfl) (hd 44 rfl) <| Ac (Bd Bp rfl rfl rfl) (hd 45 rfl) <| Ac (A8 Ce rfl rfl rfl) (hd 46 rfl) ?_
      refine Aj Try.f86 (Qk (trm b) (trm a) (by omega) (by omega) (Bk ub) (Bk ua) (by rcases hcv with ⟨c, v⟩ | ⟨c, v⟩ | ⟨c, v⟩ <;> omega)) rfl Try.func86 rfl rfl (Aa rfl (Aa rfl Ad)) (.cons .n (.cons .n .nil)) (hd 47 rfl) ?_ (fun ch hp => by simp at hp)
      rintro y ⟨ra, ea, hy, ha⟩; injection hy with hy; subst hy; refine zmv rfl (hd 42 rfl) <| Ac (Ak rfl rfl) (hd 48 rfl) <| Ac (Ak rfl rfl) (hd 49 rfl) <| zas rfl (hd 8 rfl) <| zas rfl (hd 9 rfl) <| Ab <| zsr <| Ac (Bd Cf rfl rfl rfl) (hd 50 rfl) <| Ac (A8 C5 rfl rfl rfl) (hd 51 rfl) <| zmv rfl (hd 52 rfl) <| zmv rfl (hd 53 rfl) ?_
      refine Aj Try.f68 (Jt (t && decide (0 < ((trm b).length : Int))) ra ea (sv s a + sv t b) (Gr ha (by rcases hcv with ⟨c, v⟩ | ⟨c, v⟩ | ⟨c, v⟩ <;> omega) (fun q uq hq => (Lv (by rw [Bool.beq_comm]; assumption) hq eb1 ea1).trans (Int.add_comm _ _)))) rfl Try.func68 rfl rfl (Aa rfl (Aa rfl (Aa rfl Ad))) (.cons .b (.cons .n (.cons .i .nil))) (hd 54 rfl) ?_ (fun ch hp => by simp at hp)
      rintro y ⟨sr, rr, er, hy, hr⟩; injection hy with hy; subst hy; refine Ac (Ak rfl rfl) (hd 55 rfl) <| Ac (Ak rfl rfl) (hd 56 rfl) <| A1 (Ae rfl rfl rfl Au rfl rfl (zlb rfl)) <| zas rfl (hd 5 rfl) <| Ab <| As ?_
      refine ⟨_, _, (.cons (ResV.cell Aq rfl rfl rfl rfl) (.cons rfl .nil)), (.t1 (.a1 .b (.a1 .n .a0)) (.t1 .i .t0)), ?_⟩
      exact ⟨sr, rr, er, rfl, hr⟩
    · rw [Ez, Ez] at h2
      refine Am <| zsr <| Ac (Bd Bp rfl rfl rfl) (hd 43 rfl) <| Ac (A8 Ce rfl rfl rfl) (hd 44 rfl) <| Ac (Bd Bp rfl rfl rfl) (hd 45 rfl) <| Ac (A8 Ce rfl rfl rfl) (hd 46 rfl) ?_
      refine Aj Try.f86 (Qk (trm a) (trm b) (by omega) (by omega) (Bk ua) (Bk ub) (by rcases hcv with ⟨c, v⟩ | ⟨c, v⟩ | ⟨c, v⟩ <;> omega)) rfl Try.func86 rfl rfl (Aa rfl (Aa rfl Ad)) (.cons .n (.cons .n .nil)) (hd 47 rfl) ?_ (fun ch hp => by simp at hp)
      rintro y ⟨ra, ea, hy, ha⟩; injection hy with hy; subst hy; refine zmv rfl (hd 42 rfl) <| Ac (Ak rfl rfl) (hd 48 rfl) <| Ac (Ak rfl rfl) (hd 49 rfl) <| zas rfl (hd 8 rfl) <| zas rfl (hd 9 rfl) <| Ab <| zsr <| Ac (Bd Cf rfl rfl rfl) (hd 50 rfl) <| Ac (A8 C5 rfl rfl rfl) (hd 51 rfl) <| zmv rfl (hd 52 rfl) <| zmv rfl (hd 53 rfl) ?_
      refine Aj Try.f68 (Jt (s && decide (0 < ((trm a).length : Int))) ra ea (sv s a + sv t b) (Gr ha (by rcases hcv with ⟨c, v⟩ | ⟨c, v⟩ | ⟨c, v⟩ <;> omega) (fun q uq hq => Lv (by assumption) hq ea1 eb1))) rfl Try.func68 rfl rfl (Aa rfl (Aa rfl (Aa rfl Ad))) (.cons .b (.cons .n (.cons .i .nil))) (hd 54 rfl) ?_ (fun ch hp => by simp at hp)
      rintro y ⟨sr, rr, er, hy, hr⟩; injection hy with hy; subst hy; refine Ac (Ak rfl rfl) (hd 55 rfl) <| Ac (Ak rfl rfl) (hd 56 rfl) <| A1 (Ae rfl rfl rfl Au rfl rfl (zlb rfl)) <| zas rfl (hd 5 rfl) <| Ab <| As ?_
      refine ⟨_, _, (.cons (ResV.cell Aq rfl rfl rfl rfl) (.cons rfl .nil)), (.t1 (.a1 .b (.a1 .n .a0)) (.t1 .i .t0)), ?_⟩
      exact ⟨sr, rr, er, rfl, hr⟩

theorem Adq (s t : Bool) (a b : List Int) (hla : a.length < 4294967296) (hlb : b.length < 4294967296) (ua : A3 a) (ub : A3 b) : Spec Try.prog 42 [.a [.b s, .n false .u64 a], .a [.b t, .n false .u64 b]] (fun o => ∃ (s2 : Bool) (r : List Int) (e : Int), o = .ret (.t [.a [.b s2, .n true .u64 r], .i .i64 e]) ∧ Res (sv s a - sv t b) s2 r e) := by
  refine Az [(0, .a [.b s, .n false .u64 a]), (1, .a [.b t, .n false .u64 b])] rfl Try.func42 rfl (zlb rfl) fun Γ hN hds hL hR => ?_
  have hd := B5 12 hN
  have hmb := C7 b
  have hx : ∀ (x : Int), x + sv (!t && decide (0 < ((trm b).length : Int))) (trm b) = x - sv t b := fun x => by rw [I4 ub, Pa]; omega
  refine zsr <| Ay (Br (id := 0) (n := 2) rfl rfl rfl (by decide) rfl) (hd 2 rfl) <| Ay (Br (id := 1) (n := 2) rfl rfl rfl (by decide) rfl) (hd 3 rfl) <| Ay (An (id := 2) At (by decide) rfl (by decide) rfl) (hd 4 rfl) <| zas rfl (hd 5 rfl) <| Ab <| Af <| Be (n := 8) _ rfl B2 <| Ax 0 [3, 4, 5, 6, 7] (Ao (Ah Aq rfl rfl rfl rfl) (hd 6 rfl)) rfl <| Ax 1 [2, 3, 4, 5, 6, 7] (Ao (Ah Aq rfl rfl rfl rfl) (hd 7 rfl)) rfl ?_
  refine Bb 2 ?_ rfl (by kernel_rfl)
  refine A4 Try.f64 (T2 t b (by omega) ub) rfl Try.func64 rfl rfl (Aa rfl Ad) (.cons (.a1 .b (.a1 .n .a0)) .nil) (hd 8 rfl) ?_ (fun ch hp => by simp at hp)
  rintro y hy; injection hy with hy; subst hy
  refine Bb 3 ?_ rfl (by kernel_rfl)
  refine A4 Try.f69 (Adv s (!t && decide (0 < ((trm b).length : Int))) a (trm b) (by omega) (by omega) ua (Bk ub)) rfl Try.func69 rfl rfl (Aa rfl (Aa rfl Ad)) (.cons (.a1 .b (.a1 .n .a0)) (.cons (.a1 .b (.a1 .n .a0)) .nil)) (hd 9 rfl) ?_ (fun ch hp => by simp at hp)
  rintro y ⟨sr, rr, er, hy, hr⟩; injection hy with hy; subst hy; refine zal 4 (Ao (Ak rfl rfl) (hd 10 rfl)) rfl <| zal 5 (Ao (Ak rfl rfl) (hd 11 rfl)) rfl ?_
  refine Bb 6 ?_ rfl (by kernel_rfl)
  refine A7 (Ae rfl rfl rfl Au rfl rfl (zlb rfl)) rfl <| zal 7 (Ao (Cr rfl) (hd 5 rfl)) rfl <| Bi (by kernel_rfl) <| As ?_
  refine ⟨_, _, (.cons (ResV.cell Aq rfl rfl rfl rfl) (.cons rfl .nil)), (.t1 (.a1 .b (.a1 .n .a0)) (.t1 .i .t0)), ?_⟩
  exact ⟨sr, rr, er, rfl, by rw [hx] at hr; exact hr⟩

theorem Ns (v w : Int) (hv : (lm v).length < 4294967296) (hw : (lm w).length < 4294967296) (h : Bm (v * w) ≤ 67108864) : Spec Try.prog 40 [.a [.b (decide (v < 0)), .n false .u64 (lm v)], .a [.b (decide (w < 0)), .n false .u64 (lm w)]] (fun o => o = .ret (.t [.a [.b (decide ((v * w) < 0)), .n true .u64 (lm (v * w))], .i .i64 0])) :=
  (Ads (decide (v < 0)) (decide (w < 0)) (lm v) (lm w) hv hw (Cq v) (Cq w)).mono fun o ⟨s2, r, e, ho, hR⟩ => by
    rw [Cn, Cn] at hR
    rcases hR with ⟨_, h1, h2, h3⟩ | ⟨hb, _⟩
    · subst h1; subst h2; subst h3; exact ho
    · omega

theorem Nr (v w : Int) (hv : (lm v).length < 4294967296) (hw : (lm w).length < 4294967296) (h : Bm (v - w) ≤ 67108864) : Spec Try.prog 42 [.a [.b (decide (v < 0)), .n false .u64 (lm v)], .a [.b (decide (w < 0)), .n false .u64 (lm w)]] (fun o => o = .ret (.t [.a [.b (decide ((v - w) < 0)), .n true .u64 (lm (v - w))], .i .i64 0])) :=
  (Adq (decide (v < 0)) (decide (w < 0)) (lm v) (lm w) hv hw (Cq v) (Cq w)).mono fun o ⟨s2, r, e, ho, hR⟩ => by
    rw [Cn, Cn] at hR
    rcases hR with ⟨_, h1, h2, h3⟩ | ⟨hb, _⟩
    · subst h1; subst h2; subst h3; exact ho
    · omega


theorem Agq  : Spec Try.prog 35 [.i .i64 0] (fun o => o = .ret (.a [.b false, .n true .u64 []])) := by
  refine Az [(0, .i .i64 0)] rfl Try.func35 rfl (zlb rfl) fun Γ hN hds hL hR => ?_
  have hd := B5 14 hN
  have rF : Spec Try.prog 63 [.i .u64 0] (fun o => o = .ret (.n true .u64 [])) := by have h := Jk 0; rwa [if_pos rfl] at h
  refine zsr <| Ay (An (id := 0) At (by decide) rfl (by decide) rfl) (hd 2 rfl) <| Ab <| Af <| zsr <| zmv rfl (hd 3 rfl) <| Ac (Cd (Ch rfl rfl) (by decide)) (hd 4 rfl) <| Ab <| Bl rfl <| Am <| Af ?_; refine Ag <| zmv rfl (hd 10 rfl) <| Ac (D1 Mt H7 rfl (r := 0) rfl) (hd 11 rfl) ?_
  refine Aj Try.f63 (rF) rfl Try.func63 rfl rfl (Aa rfl Ad) (.cons .i .nil) (hd 12 rfl) ?_ (fun ch hp => by simp at hp)
  rintro _ ⟨⟩; refine Ac (B3 (is := [1]) (xs := [.tmp 12]) At F1 rfl (Aa rfl Ad) rfl (by first | (simp [Ck, cellsV]; done) | (simp [Ck, cellsV, old]; done)) (Cj rfl) rfl) (hd 13 rfl) <| A1 (Ae rfl rfl rfl Au rfl rfl (zlb rfl)) <| Ab <| As ?_
  refine ⟨_, _, (.cons (ResV.cell Aq rfl rfl rfl rfl) .nil), (.a1 .b (.a1 .n .a0)), ?_⟩
  exact rfl

theorem Wz (v : Int) (h : inI v) : Spec Try.prog 35 [.i .i64 v] (fun o => o = .ret (.a [.b (decide (v < 0)), .n true .u64 (lm v)])) := by
  have e := Aek h
  obtain ⟨h1, h2⟩ := h
  rw [e]
  unfold fl
  rcases Int.lt_trichotomy v 0 with hv | hv | hv
  · rw [decide_eq_true hv, if_neg (by omega), show ((v.natAbs : Nat) : Int) = -v by omega]
    exact Yg v hv h1
  · subst hv
    exact Agq
  · rw [decide_eq_false (by omega), if_neg (by omega), show ((v.natAbs : Nat) : Int) = v by omega]
    exact Yf v hv h2
theorem T1 (v : Int) (hl : (lm v).length < 4294967296) : Spec Try.prog 64 [.a [.b (decide (v < 0)), .n false .u64 (lm v)]] (fun o => o = .ret (.a [.b (decide ((-v) < 0)), .n true .u64 (lm (-v))])) := by
  have h := T2 (decide (v < 0)) (lm v) (by omega) (Cq v)
  have e := E1 (s := !decide (v < 0)) (l := lm v) (v := -v) (Cq v) (by rw [Pa, Cn])
  rw [e.1, e.2.1] at h
  exact h
theorem Ec (v : Int) (hl : (lm v).length < 4294967296) : Spec Try.prog 36 [.a [.b (decide (v < 0)), .n false .u64 (lm v)]] (fun o => o = .ret (.i .i64 (Cb v))) := by
  have h := Ou (decide (v < 0)) (lm v) hl (Cq v)
  rwa [Cn] at h

abbrev qz (v : Int) : V := .a [.b (decide (v < 0)), .n false .u64 (dg v)]
abbrev qf (v : Int) : V := .a [.b (decide (v < 0)), .n false .u64 (lm v)]
abbrev qt (v : Int) : V := .a [.b (decide (v < 0)), .n true .u64 (lm v)]
abbrev qo (i : Nat) (v : Int) : V := .a [.b (decide (v < 0)), .o i 0 0 (lm v).length]
abbrev oqz (k : Nat) (v : Int) : Ob := ⟨32, 2, k, true, [.b (decide (v < 0)), .n false .u64 (dg v)]⟩
abbrev oqf (k : Nat) (v : Int) : Ob := ⟨27, 2, k, true, [.b (decide (v < 0)), .n false .u64 (lm v)]⟩
abbrev oqt (k : Nat) (v : Int) : Ob := ⟨27, 2, k, true, [.b (decide (v < 0)), .n true .u64 (lm v)]⟩
abbrev oqo (k i : Nat) (v : Int) : Ob := ⟨27, 2, k, true, [.b (decide (v < 0)), .o i 0 0 (lm v).length]⟩
abbrev oqr (v : Int) : Ob := ⟨79, 1, 0, true, A2 .u64 (lm v)⟩
abbrev oqn (k : Nat) : Ob := ⟨32, 2, k, true, [.b false, .c (.slice none 0 0)]⟩
abbrev oqm (k : Nat) : Ob := ⟨27, 2, k, true, [.b false, .c (.slice none 0 0)]⟩
abbrev oqh : Ob := ⟨0, 1, 0, true, []⟩
abbrev oqb (s : Bool) (l : List Int) : Ob := ⟨24, 2, 0, true, [.b s, .n false .u64 l]⟩
theorem Ai {P : Program} {Γ : Ctx} {ops : Array Oper} {fuel : Nat} {listed listed' : Array Bool} {F' m F0 : Fr} {H H' : List Ob} {Q : Exit → Fr → List Ob → Prop} (S : JA P ops fuel listed' Γ (m ++ F0) H Q) (n : Nat) (h : Says F' m) (hA : F'.drop n = F0 := by exact rfl) (hk : Lb (F'.take n) m = true := by exact rfl) (hl : listed = listed' := by decide) (hH : H' = H := by exact rfl) : JA P ops fuel listed Γ F' H' Q := D2 hl hH (Ba n hA hk h) S
end Go.Proofs.Ythbbbopbglbagaa.Vc
