/- surdlaw06.WholeDivisors answers true for every two numbers of bulk at most 1048576, and leaves its input as it was: the greatest common divisor with its factors, inverses Texts joined: Wz, Ya, Yb, Ye, Yg, Yh, Yi, Yj, Yk, Yl. -/
import Derived.Test.YthbbbopbglbagaaK5
set_option linter.unusedVariables false
set_option linter.unusedSimpArgs false
set_option maxHeartbeats 4000000
namespace Go.Proofs.Ythbbbopbglbagaa.Vc
open Go Go.RowKit
theorem U6 (l : List Int) (hl : l.length < 1099511627776) : SpecM Try.prog 48 [.n false .u64 l] [] (fun o G => o = .ret (.o 0 0 0 (trm l).length) ∧ G = [⟨79, 1, 0, true, A2 .u64 (trm l)⟩]) := by
  refine Cy [(0, .n false .u64 l)] rfl Try.func48 rfl (zlb rfl) fun Γ hN hds hL hR => ?_
  have hd := B5 6 hN
  have hm := C7 l
  refine zsr <| zas rfl (hd 2 rfl) <| Ab <| zsr <| zmv rfl (hd 3 rfl) ?_
  refine Aj Try.f61 (Fh l hl) rfl Try.func61 rfl rfl (Aa rfl Ad) (.cons .n .nil) (hd 4 rfl) ?_ (fun ch hp => by simp at hp)
  rintro _ ⟨⟩; refine Ay (Ts (id := 0) Ky rfl rfl Abl (by omega) (by unfold maxLen; omega) rfl) (hd 5 rfl) <| zas rfl (hd 2 rfl) <| Ab <| As ?_
  refine ⟨[0], _, (.o 0 0 0 (trm l).length), (.cons rfl .nil), rfl, rfl, (by decide), (by first | exact Al Bc Ar | exact Al rfl Ar), ?_⟩
  exact ⟨rfl, rfl⟩

theorem Pr (s : Bool) (l : List Int) (hl : l.length < 1099511627776) : SpecM Try.prog 32 [.a [.b s, .n false .u64 l]] [] (fun o G => o = .ret (.a [.b (s && decide (0 < ((trm l).length : Int))), .o 0 0 0 (trm l).length]) ∧ G = [⟨79, 1, 0, true, A2 .u64 (trm l)⟩]) := by
  refine Cy [(0, .a [.b s, .n false .u64 l])] rfl Try.func32 rfl (zlb rfl) fun Γ hN hds hL hR => ?_
  have hd := B5 16 hN
  refine zsr <| Ay (Br (id := 0) (n := 2) rfl rfl rfl (by decide) rfl) (hd 1 rfl) <| Ay (An (id := 1) At (by decide) rfl (by decide) rfl) (hd 2 rfl) <| Ab <| zsr <| Ac (Bd Bp rfl rfl rfl) (hd 4 rfl) <| Ac (A8 Ce rfl rfl rfl) (hd 5 rfl) ?_
  refine C9 Try.f48 (U6 l hl) (fun o G ⟨_, h⟩ => h ▸ Al Bc Ar) rfl Try.func48 rfl rfl (Aa rfl Ad) (.cons .n .nil) (hd 6 rfl) ?_ (fun ch G hp => by simp at hp)
  rintro y G ⟨hy, rfl⟩; injection hy with hy; subst hy
  show JO _ _ _ _ ((6, .o 2 0 0 (trm l).length) :: _) _ _
  refine zas rfl (hd 3 rfl) <| Ab <| zsr <| Ac (Bd Cf rfl rfl rfl) (hd 7 rfl) <| Ac (A8 C5 rfl rfl rfl) (hd 8 rfl) <| zmv rfl (hd 9 rfl) ?_
  refine Io 9 rfl (fun h1 => ?_) (fun h1 => ?_)
  · refine Bn 9 rfl rfl (A0 rfl) (hd 10 rfl) <| Bn 9 rfl rfl (Eo Bo rfl rfl) (hd 11 rfl) <| Bn 9 rfl rfl (C0 rfl rfl) (hd 12 rfl) <| Ac (Cg rfl rfl) (hd 13 rfl) <| zmv rfl (hd 14 rfl) <| Ac (B3 (is := [0, 1]) (xs := [.tmp 13, .tmp 14]) At Dx rfl (Aa rfl (Aa rfl Ad)) rfl (by first | (simp [Ck, cellsV]; done) | (simp [Ck, cellsV, old]; done)) (Cj rfl) rfl) (hd 15 rfl) <| A1 (Ae rfl rfl rfl Au rfl rfl (zlb rfl)) <| Ab <| As ?_
    refine ⟨[2], _, (.a [.b (decide (0 < ((trm l).length : Int))), .o 0 0 0 (trm l).length]), (.cons (ResV.cell Aq rfl rfl rfl rfl) .nil), rfl, rfl, (by decide), (by first | exact Al Bc Ar | exact Al rfl Ar), ?_⟩
    exact ⟨by simp_all, rfl⟩
  · refine B6 9 rfl rfl rfl (hd 10 rfl) <| B6 9 rfl rfl rfl (hd 11 rfl) <| B6 9 rfl rfl rfl (hd 12 rfl) <| Ac (B9 rfl rfl) (hd 13 rfl) <| zmv rfl (hd 14 rfl) <| Ac (B3 (is := [0, 1]) (xs := [.tmp 13, .tmp 14]) At Dx rfl (Aa rfl (Aa rfl Ad)) rfl (by first | (simp [Ck, cellsV]; done) | (simp [Ck, cellsV, old]; done)) (Cj rfl) rfl) (hd 15 rfl) <| A1 (Ae rfl rfl rfl Au rfl rfl (zlb rfl)) <| Ab <| As ?_
    refine ⟨[2], _, (.a [.b false, .o 0 0 0 (trm l).length]), (.cons (ResV.cell Aq rfl rfl rfl rfl) .nil), rfl, rfl, (by decide), (by first | exact Al Bc Ar | exact Al rfl Ar), ?_⟩
    exact ⟨by simp_all, rfl⟩

theorem Ac1 (s : Bool) (l : List Int) (v : Int) (hl : l.length < 1099511627776) (hu : A3 l) (hv : sv s l = v) : SpecM Try.prog 90 [.a [.b s, .n false .u64 l]] [] (fun o G => ∃ (s2 : Bool) (r : List Int) (e : Int), o = .ret (.t [.a [.b s2, .o 0 0 0 r.length], .i .i64 e]) ∧ G = [⟨79, 1, 0, true, A2 .u64 r⟩] ∧ Res (v) s2 r e) := by
  refine Cy [(0, .a [.b s, .n false .u64 l])] rfl Try.func90 rfl (zlb rfl) fun Γ hN hds hL hR => ?_
  have hd := B5 11 hN
  refine zsr <| Ay (Br (id := 0) (n := 2) rfl rfl rfl (by decide) rfl) (hd 1 rfl) <| Ay (An (id := 1) At (by decide) rfl (by decide) rfl) (hd 2 rfl) <| zas rfl (hd 3 rfl) <| Ab <| Af <| zsr <| Ac (Bd Bp rfl rfl rfl) (hd 4 rfl) <| Ac (A8 Ce rfl rfl rfl) (hd 5 rfl) ?_
  refine Aj Try.f33 (Ed l hl hu) rfl Try.func33 rfl rfl (Aa rfl Ad) (.cons .n .nil) (hd 6 rfl) ?_ (fun ch hp => by simp at hp)
  rintro _ ⟨⟩; refine Ac (C0 rfl rfl) (hd 7 rfl) <| Ab ?_
  refine Bu rfl (fun h1 => ?_) (fun h1 => ?_)
  · refine zsr <| Ac (B3 (is := []) (xs := []) (pls := []) At Gu rfl Ad rfl trivial (Cj rfl) rfl) (hd 8 rfl) <| A1 (Ae rfl rfl rfl Au rfl rfl (zlb rfl)) <| zas rfl (hd 3 rfl) <| Ab <| Ip (id := 1) 1 79 1 rfl rfl rfl <| As ?_
    refine ⟨[2], _, (.t [.a [.b false, .o 0 0 0 0], .i .i64 3]), (.cons (ResV.cell Aq rfl rfl rfl rfl) (.cons rfl .nil)), rfl, rfl, (by decide), (by first | exact Al Bc Ar | exact Al rfl Ar), ?_⟩
    exact ⟨false, [], 3, rfl, rfl, Sk hu hv (by omega)⟩
  · refine Am <| zsr <| Ac (Ah Aq rfl rfl rfl rfl) (hd 9 rfl) ?_
    refine C9 Try.f32 (Pr s l hl) (fun o G ⟨_, h⟩ => h ▸ Al Bc Ar) rfl Try.func32 rfl rfl (Aa rfl Ad) (.cons (.a1 .b (.a1 .n .a0)) .nil) (hd 10 rfl) ?_ (fun ch G hp => by simp at hp)
    rintro y G ⟨hy, rfl⟩; injection hy with hy; subst hy
    show JO _ _ _ _ ((10, .a [.b (s && decide (0 < ((trm l).length : Int))), .o 2 0 0 (trm l).length]) :: _) _ _
    refine A1 (Ae rfl rfl rfl Au rfl rfl (zlb rfl)) <| zas rfl (hd 3 rfl) <| Ab <| As ?_
    refine ⟨[2], _, (.t [.a [.b (s && decide (0 < ((trm l).length : Int))), .o 0 0 0 (trm l).length], .i .i64 0]), (.cons (ResV.cell Aq rfl rfl rfl rfl) (.cons rfl .nil)), rfl, rfl, (by decide), (by first | exact Al Bc Ar | exact Al rfl Ar), ?_⟩
    exact ⟨_, _, 0, rfl, rfl, Xk hu hv (by omega)⟩

theorem Ie (s : Bool) (l : List Int) (e v : Int) (hRs : Ae1 v s l e) : SpecM Try.prog 68 [.b s, .n false .u64 l, .i .i64 e] [] (fun o G => ∃ (s2 : Bool) (r : List Int) (e : Int), o = .ret (.t [.a [.b s2, .o 0 0 0 r.length], .i .i64 e]) ∧ G = [⟨79, 1, 0, true, A2 .u64 r⟩] ∧ Res (v) s2 r e) := by
  refine Cy [(0, .b s), (1, .n false .u64 l), (2, .i .i64 e)] rfl Try.func68 rfl (zlb rfl) fun Γ hN hds hL hR => ?_
  have hd := B5 18 hN
  refine zsr <| Ay (An (id := 0) At (by decide) rfl (by decide) rfl) (hd 6 rfl) <| zas rfl (hd 7 rfl) <| Ab <| Af <| zsr <| zmv rfl (hd 8 rfl) <| Ac (Cm rfl rfl) (hd 9 rfl) <| Ab ?_
  refine Bu rfl (fun h1 => ?_) (fun h1 => ?_)
  · have hE : e = 3 ∧ 67108864 < Bm v := by
      rcases hRs with ⟨h, _⟩ | h
      · omega
      · exact h
    refine zsr <| Ac (B3 (is := []) (xs := []) (pls := []) At Gu rfl Ad rfl trivial (Cj rfl) rfl) (hd 10 rfl) <| zmv rfl (hd 11 rfl) <| A1 (Ae rfl rfl rfl Au rfl rfl (zlb rfl)) <| zas rfl (hd 7 rfl) <| Ab <| Ip (id := 0) 1 79 1 rfl rfl rfl <| As ?_
    refine ⟨[1], _, (.t [.a [.b false, .o 0 0 0 0], .i .i64 e]), (.cons (ResV.cell Aq rfl rfl rfl rfl) (.cons rfl .nil)), rfl, rfl, (by decide), (by first | exact Al Bc Ar | exact Al rfl Ar), ?_⟩
    exact ⟨false, [], e, rfl, rfl, .inr ⟨hE.2, rfl, rfl, hE.1⟩⟩
  · have hE : A3 l ∧ l.length < 1099511627776 ∧ sv s l = v := by
      rcases hRs with ⟨_, h⟩ | ⟨h, _⟩
      · exact h
      · omega
    refine Am <| zsr <| zmv rfl (hd 12 rfl) <| zmv rfl (hd 13 rfl) <| Ac (B3 (is := [0, 1]) (xs := [.tmp 12, .tmp 13]) At Dx rfl (Aa rfl (Aa rfl Ad)) rfl (by first | (simp [Ck, cellsV]; done) | (simp [Ck, cellsV, old]; done)) (Cj rfl) rfl) (hd 14 rfl) ?_
    refine C9 Try.f90 (Ac1 s l v hE.2.1 hE.1 hE.2.2) (fun o G ⟨_, _, _, _, h, _⟩ => h ▸ Al Bc Ar) rfl Try.func90 rfl rfl (Aa rfl Ad) (.cons (.a1 .b (.a1 .n .a0)) .nil) (hd 15 rfl) ?_ (fun ch G hp => by simp at hp)
    rintro y G ⟨sf, rf, ef, hy, rfl, hf⟩; injection hy with hy; subst hy
    show JO _ _ _ _ ((15, .t [.a [.b sf, .o 1 0 0 rf.length], .i .i64 ef]) :: _) _ _
    refine Ac (Ak rfl rfl) (hd 16 rfl) <| Ac (Ak rfl rfl) (hd 17 rfl) <| A1 (Ae rfl rfl rfl Au rfl rfl (zlb rfl)) <| zas rfl (hd 7 rfl) <| Ab <| As ?_
    refine ⟨[1], _, (.t [.a [.b sf, .o 0 0 0 rf.length], .i .i64 ef]), (.cons (ResV.cell Aq rfl rfl rfl rfl) (.cons rfl .nil)), rfl, rfl, (by decide), (by first | exact Al Bc Ar | exact Al rfl Ar), ?_⟩
    exact ⟨sf, rf, ef, rfl, rfl, hf⟩

theorem Adr (s t : Bool) (a b : List Int) (hla : a.length < 4294967296) (hlb : b.length < 4294967296) (ua : A3 a) (ub : A3 b) : SpecM Try.prog 40 [.a [.b s, .n false .u64 a], .a [.b t, .n false .u64 b]] [] (fun o G => ∃ (s2 : Bool) (r : List Int) (e : Int), o = .ret (.t [.a [.b s2, .o 0 0 0 r.length], .i .i64 e]) ∧ G = [⟨79, 1, 0, true, A2 .u64 r⟩] ∧ Res (sv s a * sv t b) s2 r e) := by
  refine Cy [(0, .a [.b s, .n false .u64 a]), (1, .a [.b t, .n false .u64 b])] rfl Try.func40 rfl (zlb rfl) fun Γ hN hds hL hR => ?_
  have hd := B5 26 hN
  have ha0 := Bq ua
  have hb0 := Bq ub
  refine zsr <| Ay (Br (id := 0) (n := 2) rfl rfl rfl (by decide) rfl) (hd 2 rfl) <| Ay (Br (id := 1) (n := 2) rfl rfl rfl (by decide) rfl) (hd 3 rfl) <| Ay (An (id := 2) At (by decide) rfl (by decide) rfl) (hd 4 rfl) <| zas rfl (hd 5 rfl) <| Ab <| zsr <| Ac (Bd Bp rfl rfl rfl) (hd 9 rfl) <| Ac (A8 Ce rfl rfl rfl) (hd 10 rfl) <| Ac (Bd Bp rfl rfl rfl) (hd 11 rfl) <| Ac (A8 Ce rfl rfl rfl) (hd 12 rfl) ?_
  refine Aj Try.f67 (Yh a b hla hlb ua ub) rfl Try.func67 rfl rfl (Aa rfl (Aa rfl Ad)) (.cons .n (.cons .n .nil)) (hd 13 rfl) ?_ (fun ch hp => by simp at hp)
  rintro y ⟨rp, ep, hy, hp⟩; injection hy with hy; subst hy; refine zmv rfl (hd 8 rfl) <| Ac (Ak rfl rfl) (hd 14 rfl) <| Ac (Ak rfl rfl) (hd 15 rfl) <| zas rfl (hd 6 rfl) <| zas rfl (hd 7 rfl) <| Ab <| zsr <| Ac (Bd Cf rfl rfl rfl) (hd 16 rfl) <| Ac (A8 C5 rfl rfl rfl) (hd 17 rfl) <| Ac (Bd Cf rfl rfl rfl) (hd 18 rfl) <| Ac (A8 C5 rfl rfl rfl) (hd 19 rfl) <| Ac (Im Qo rfl rfl) (hd 20 rfl) ?_; refine zmv rfl (hd 21 rfl) <| zmv rfl (hd 22 rfl) ?_
  refine C9 Try.f68 (Ie (!(s == t)) rp ep (sv s a * sv t b) (Gr hp (Int.mul_nonneg ha0 hb0) (fun q uq hq => W9 hq))) (fun o G ⟨_, _, _, _, h, _⟩ => h ▸ Al Bc Ar) rfl Try.func68 rfl rfl (Aa rfl (Aa rfl (Aa rfl Ad))) (.cons .b (.cons .n (.cons .i .nil))) (hd 23 rfl) ?_ (fun ch G hp => by simp at hp)
  rintro y G ⟨sr, rr, er, hy, rfl, hr⟩; injection hy with hy; subst hy
  show JO _ _ _ _ ((23, .t [.a [.b sr, .o 3 0 0 rr.length], .i .i64 er]) :: _) _ _
  refine Ac (Ak rfl rfl) (hd 24 rfl) <| Ac (Ak rfl rfl) (hd 25 rfl) <| A1 (Ae rfl rfl rfl Au rfl rfl (zlb rfl)) <| zas rfl (hd 5 rfl) <| Ab <| As ?_
  refine ⟨[3], _, (.t [.a [.b sr, .o 0 0 0 rr.length], .i .i64 er]), (.cons (ResV.cell Aq rfl rfl rfl rfl) (.cons rfl .nil)), rfl, rfl, (by decide), (by first | exact Al Bc Ar | exact Al rfl Ar), ?_⟩
  exact ⟨sr, rr, er, rfl, rfl, hr⟩

theorem Adu (s t : Bool) (a b : List Int) (hla : a.length < 4294967296) (hlb : b.length < 4294967296) (ua : A3 a) (ub : A3 b) : SpecM Try.prog 69 [.a [.b s, .n false .u64 a], .a [.b t, .n false .u64 b]] [] (fun o G => ∃ (s2 : Bool) (r : List Int) (e : Int), o = .ret (.t [.a [.b s2, .o 0 0 0 r.length], .i .i64 e]) ∧ G = [⟨79, 1, 0, true, A2 .u64 r⟩] ∧ Res (sv s a + sv t b) s2 r e) := by
  refine Cy [(0, .a [.b s, .n false .u64 a]), (1, .a [.b t, .n false .u64 b])] rfl Try.func69 rfl (zlb rfl) fun Γ hN hds hL hR => ?_
  have hd := B5 57 hN
  have hma := C7 a
  have hmb := C7 b
  have hcv := Gh (Bk ua) (Bk ub)
  rw [Ez, Ez] at hcv
  have ea1 := I4 (s := s) ua
  have eb1 := I4 (s := t) ub
  have ha0 := Bq (Bk ua)
  have hb0 := Bq (Bk ub)
  refine zsr <| Ay (Br (id := 0) (n := 2) rfl rfl rfl (by decide) rfl) (hd 2 rfl) <| Ay (Br (id := 1) (n := 2) rfl rfl rfl (by decide) rfl) (hd 3 rfl) <| Ay (An (id := 2) At (by decide) rfl (by decide) rfl) (hd 4 rfl) <| zas rfl (hd 5 rfl) <| Ab <| Af <| Be (n := 6) _ rfl B2 <| Ax 0 [1, 3, 4, 5] (Ao (Ah Aq rfl rfl rfl rfl) (hd 10 rfl)) rfl <| Ax 2 [3, 4, 5] (Ao (Ah Aq rfl rfl rfl rfl) (hd 12 rfl)) rfl ?_
  refine Bb 1 ?_ rfl (by kernel_rfl)
  refine A4 Try.f32 (Hn s a (by omega)) rfl Try.func32 rfl rfl (Aa rfl Ad) (.cons (.a1 .b (.a1 .n .a0)) .nil) (hd 11 rfl) ?_ (fun ch hp => by simp at hp)
  rintro y hy; injection hy with hy; subst hy
  refine Bb 3 ?_ rfl (by kernel_rfl)
  refine A4 Try.f32 (Hn t b (by omega)) rfl Try.func32 rfl rfl (Aa rfl Ad) (.cons (.a1 .b (.a1 .n .a0)) .nil) (hd 13 rfl) ?_ (fun ch hp => by simp at hp)
  rintro y hy; injection hy with hy; subst hy
  refine Bb 4 ?_ rfl (by kernel_rfl)
  refine A7 (Ae rfl rfl rfl Au rfl rfl (zlb rfl)) rfl ?_
  refine Bb 5 ?_ rfl (by kernel_rfl)
  refine A7 (Ae rfl rfl rfl Au rfl rfl (zlb rfl)) rfl <| Bi (by kernel_rfl) <| Af <| zsr <| Ac (Bd Cf rfl rfl rfl) (hd 14 rfl) <| Ac (A8 C5 rfl rfl rfl) (hd 15 rfl) <| Ac (Bd Cf rfl rfl rfl) (hd 16 rfl) <| Ac (A8 C5 rfl rfl rfl) (hd 17 rfl) <| Ac (Pt Qo rfl rfl) (hd 18 rfl) <| Ab ?_
  refine E7 rfl (fun h1 => ?_) (fun h1 => ?_)
  · refine zsr <| Ac (Bd Bp rfl rfl rfl) (hd 20 rfl) <| Ac (A8 Ce rfl rfl rfl) (hd 21 rfl) <| Ac (Bd Bp rfl rfl rfl) (hd 22 rfl) <| Ac (A8 Ce rfl rfl rfl) (hd 23 rfl) ?_
    refine Aj Try.f85 (Yl (trm a) (trm b) (by omega) (by omega) (Bk ua) (Bk ub)) rfl Try.func85 rfl rfl (Aa rfl (Aa rfl Ad)) (.cons .n (.cons .n .nil)) (hd 24 rfl) ?_ (fun ch hp => by simp at hp)
    rintro y ⟨ra, ea, hy, ha⟩; injection hy with hy; subst hy; refine zmv rfl (hd 19 rfl) <| Ac (Ak rfl rfl) (hd 25 rfl) <| Ac (Ak rfl rfl) (hd 26 rfl) <| zas rfl (hd 6 rfl) <| zas rfl (hd 7 rfl) <| Ab <| zsr <| Ac (Bd Cf rfl rfl rfl) (hd 27 rfl) <| Ac (A8 C5 rfl rfl rfl) (hd 28 rfl) <| zmv rfl (hd 29 rfl) <| zmv rfl (hd 30 rfl) ?_
    refine C9 Try.f68 (Ie (s && decide (0 < ((trm a).length : Int))) ra ea (sv s a + sv t b) (Gr ha (by omega) (fun q uq hq => U1 (by assumption) hq ea1 eb1))) (fun o G ⟨_, _, _, _, h, _⟩ => h ▸ Al Bc Ar) rfl Try.func68 rfl rfl (Aa rfl (Aa rfl (Aa rfl Ad))) (.cons .b (.cons .n (.cons .i .nil))) (hd 31 rfl) ?_ (fun ch G hp => by simp at hp)
    rintro y G ⟨sr, rr, er, hy, rfl, hr⟩; injection hy with hy; subst hy
    show JO _ _ _ _ ((31, .t [.a [.b sr, .o 3 0 0 rr.length], .i .i64 er]) :: _) _ _
    refine Ac (Ak rfl rfl) (hd 32 rfl) <| Ac (Ak rfl rfl) (hd 33 rfl) <| A1 (Ae rfl rfl rfl Au rfl rfl (zlb rfl)) <| zas rfl (hd 5 rfl) <| Ab <| As ?_
    refine ⟨[3], _, (.t [.a [.b sr, .o 0 0 0 rr.length], .i .i64 er]), (.cons (ResV.cell Aq rfl rfl rfl rfl) (.cons rfl .nil)), rfl, rfl, (by decide), (by first | exact Al Bc Ar | exact Al rfl Ar), ?_⟩
    exact ⟨sr, rr, er, rfl, rfl, hr⟩
  · refine Am <| Af <| zsr <| Ac (Bd Bp rfl rfl rfl) (hd 34 rfl) <| Ac (A8 Ce rfl rfl rfl) (hd 35 rfl) <| Ac (Bd Bp rfl rfl rfl) (hd 36 rfl) <| Ac (A8 Ce rfl rfl rfl) (hd 37 rfl) ?_
    refine Aj Try.f71 (E6 (trm a) (trm b) (by omega) (by omega)) rfl Try.func71 rfl rfl (Aa rfl (Aa rfl Ad)) (.cons .n (.cons .n .nil)) (hd 38 rfl) ?_ (fun ch hp => by simp at hp)
    rintro _ ⟨⟩; refine Ac (Ch rfl rfl) (hd 39 rfl) <| Ab ?_
    refine Bu rfl (fun h2 => ?_) (fun h2 => ?_)
    · rw [Ez, Ez] at h2
      refine Ag <| Ac (Ah Aq rfl rfl rfl rfl) (hd 40 rfl) <| Ac (Ah Aq rfl rfl rfl rfl) (hd 41 rfl) <| A1 (Ae rfl rfl rfl Au rfl rfl (zlb rfl)) <| A1 (Ae rfl rfl rfl Au rfl rfl (zlb rfl)) <| Ab <| zsr <| Ac (Bd Bp rfl rfl rfl) (hd 43 rfl) <| Ac (A8 Ce rfl rfl rfl) (hd 44 rfl) <| Ac (Bd Bp rfl rfl rfl) (hd 45 rfl) <| Ac (A8 Ce rfl rfl rfl) (hd 46 rfl) ?_
      refine Aj Try.f86 (Qk (trm b) (trm a) (by omega) (by omega) (Bk ub) (Bk ua) (by rcases hcv with ⟨c, v⟩ | ⟨c, v⟩ | ⟨c, v⟩ <;> omega)) rfl Try.func86 rfl rfl (Aa rfl (Aa rfl Ad)) (.cons .n (.cons .n .nil)) (hd 47 rfl) ?_ (fun ch hp => by simp at hp)
      rintro y ⟨ra, ea, hy, ha⟩; injection hy with hy; subst hy; refine zmv rfl (hd 42 rfl) <| Ac (Ak rfl rfl) (hd 48 rfl) <| Ac (Ak rfl rfl) (hd 49 rfl) <| zas rfl (hd 8 rfl) <| zas rfl (hd 9 rfl) <| Ab <| zsr <| Ac (Bd Cf rfl rfl rfl) (hd 50 rfl) <| Ac (A8 C5 rfl rfl rfl) (hd 51 rfl) <| zmv rfl (hd 52 rfl) <| zmv rfl (hd 53 rfl) ?_
      refine C9 Try.f68 (Ie (t && decide (0 < ((trm b).length : Int))) ra ea (sv s a + sv t b) (Gr ha (by rcases hcv with ⟨c, v⟩ | ⟨c, v⟩ | ⟨c, v⟩ <;> omega) (fun q uq hq => (Lv (by rw [Bool.beq_comm]; assumption) hq eb1 ea1).trans (Int.add_comm _ _)))) (fun o G ⟨_, _, _, _, h, _⟩ => h ▸ Al Bc Ar) rfl Try.func68 rfl rfl (Aa rfl (Aa rfl (Aa rfl Ad))) (.cons .b (.cons .n (.cons .i .nil))) (hd 54 rfl) ?_ (fun ch G hp => by simp at hp)
      rintro y G ⟨sr, rr, er, hy, rfl, hr⟩; injection hy with hy; subst hy
      show JO _ _ _ _ ((54, .t [.a [.b sr, .o 3 0 0 rr.length], .i .i64 er]) :: _) _ _
      refine Ac (Ak rfl rfl) (hd 55 rfl) <| Ac (Ak rfl rfl) (hd 56 rfl) <| A1 (Ae rfl rfl rfl Au rfl rfl (zlb rfl)) <| zas rfl (hd 5 rfl) <| Ab <| As ?_
      refine ⟨[3], _, (.t [.a [.b sr, .o 0 0 0 rr.length], .i .i64 er]), (.cons (ResV.cell Aq rfl rfl rfl rfl) (.cons rfl .nil)), rfl, rfl, (by decide), (by first | exact Al Bc Ar | exact Al rfl Ar), ?_⟩
      exact ⟨sr, rr, er, rfl, rfl, hr⟩
    · rw [Ez, Ez] at h2
      refine Am <| zsr <| Ac (Bd Bp rfl rfl rfl) (hd 43 rfl) <| Ac (A8 Ce rfl rfl rfl) (hd 44 rfl) <| Ac (Bd Bp rfl rfl rfl) (hd 45 rfl) <| Ac (A8 Ce rfl rfl rfl) (hd 46 rfl) ?_
      refine Aj Try.f86 (Qk (trm a) (trm b) (by omega) (by omega) (Bk ua) (Bk ub) (by rcases hcv with ⟨c, v⟩ | ⟨c, v⟩ | ⟨c, v⟩ <;> omega)) rfl Try.func86 rfl rfl (Aa rfl (Aa rfl Ad)) (.cons .n (.cons .n .nil)) (hd 47 rfl) ?_ (fun ch hp => by simp at hp)
      rintro y ⟨ra, ea, hy, ha⟩; injection hy with hy; subst hy; refine zmv rfl (hd 42 rfl) <| Ac (Ak rfl rfl) (hd 48 rfl) <| Ac (Ak rfl rfl) (hd 49 rfl) <| zas rfl (hd 8 rfl) <| zas rfl (hd 9 rfl) <| Ab <| zsr <| Ac (Bd Cf rfl rfl rfl) (hd 50 rfl) <| Ac (A8 C5 rfl rfl rfl) (hd 51 rfl) <| zmv rfl (hd 52 rfl) <| zmv rfl (hd 53 rfl) ?_
      refine C9 Try.f68 (Ie (s && decide (0 < ((trm a).length : Int))) ra ea (sv s a + sv t b) (Gr ha (by rcases hcv with ⟨c, v⟩ | ⟨c, v⟩ | ⟨c, v⟩ <;> omega) (fun q uq hq => Lv (by assumption) hq ea1 eb1))) (fun o G ⟨_, _, _, _, h, _⟩ => h ▸ Al Bc Ar) rfl Try.func68 rfl rfl (Aa rfl (Aa rfl (Aa rfl Ad))) (.cons .b (.cons .n (.cons .i .nil))) (hd 54 rfl) ?_ (fun ch G hp => by simp at hp)
      rintro y G ⟨sr, rr, er, hy, rfl, hr⟩; injection hy with hy; subst hy
      show JO _ _ _ _ ((54, .t [.a [.b sr, .o 3 0 0 rr.length], .i .i64 er]) :: _) _ _
      refine Ac (Ak rfl rfl) (hd 55 rfl) <| Ac (Ak rfl rfl) (hd 56 rfl) <| A1 (Ae rfl rfl rfl Au rfl rfl (zlb rfl)) <| zas rfl (hd 5 rfl) <| Ab <| As ?_
      refine ⟨[3], _, (.t [.a [.b sr, .o 0 0 0 rr.length], .i .i64 er]), (.cons (ResV.cell Aq rfl rfl rfl rfl) (.cons rfl .nil)), rfl, rfl, (by decide), (by first | exact Al Bc Ar | exact Al rfl Ar), ?_⟩
      exact ⟨sr, rr, er, rfl, rfl, hr⟩

theorem Adp (s t : Bool) (a b : List Int) (hla : a.length < 4294967296) (hlb : b.length < 4294967296) (ua : A3 a) (ub : A3 b) : SpecM Try.prog 42 [.a [.b s, .n false .u64 a], .a [.b t, .n false .u64 b]] [] (fun o G => ∃ (s2 : Bool) (r : List Int) (e : Int), o = .ret (.t [.a [.b s2, .o 0 0 0 r.length], .i .i64 e]) ∧ G = [⟨79, 1, 0, true, A2 .u64 r⟩] ∧ Res (sv s a - sv t b) s2 r e) := by
  refine Cy [(0, .a [.b s, .n false .u64 a]), (1, .a [.b t, .n false .u64 b])] rfl Try.func42 rfl (zlb rfl) fun Γ hN hds hL hR => ?_
  have hd := B5 12 hN
  have hmb := C7 b
  have hx : ∀ (x : Int), x + sv (!t && decide (0 < ((trm b).length : Int))) (trm b) = x - sv t b := fun x => by rw [I4 ub, Pa]; omega
  refine zsr <| Ay (Br (id := 0) (n := 2) rfl rfl rfl (by decide) rfl) (hd 2 rfl) <| Ay (Br (id := 1) (n := 2) rfl rfl rfl (by decide) rfl) (hd 3 rfl) <| Ay (An (id := 2) At (by decide) rfl (by decide) rfl) (hd 4 rfl) <| zas rfl (hd 5 rfl) <| Ab <| Af <| Be (n := 8) _ rfl B2 <| Ax 0 [3, 4, 5, 6, 7] (Ao (Ah Aq rfl rfl rfl rfl) (hd 6 rfl)) rfl <| Ax 1 [2, 3, 4, 5, 6, 7] (Ao (Ah Aq rfl rfl rfl rfl) (hd 7 rfl)) rfl ?_
  refine Bb 2 ?_ rfl (by kernel_rfl)
  refine A4 Try.f64 (T2 t b (by omega) ub) rfl Try.func64 rfl rfl (Aa rfl Ad) (.cons (.a1 .b (.a1 .n .a0)) .nil) (hd 8 rfl) ?_ (fun ch hp => by simp at hp)
  rintro y hy; injection hy with hy; subst hy
  refine Bb 3 ?_ rfl (by kernel_rfl)
  refine Fa Try.f69 (Adu s (!t && decide (0 < ((trm b).length : Int))) a (trm b) (by omega) (by omega) ua (Bk ub)) (fun o G ⟨_, _, _, _, h, _⟩ => h ▸ Al Bc Ar) rfl Try.func69 rfl rfl (Aa rfl (Aa rfl Ad)) (.cons (.a1 .b (.a1 .n .a0)) (.cons (.a1 .b (.a1 .n .a0)) .nil)) (hd 9 rfl) ?_ (fun ch G hp => by simp at hp)
  rintro y G ⟨sr, rr, er, hy, rfl, hr⟩; injection hy with hy; subst hy
  show JA _ _ _ _ _ ((9, .t [.a [.b sr, .o 3 0 0 rr.length], .i .i64 er]) :: _) _ _
  refine zal 4 (Ao (Ak rfl rfl) (hd 10 rfl)) rfl <| zal 5 (Ao (Ak rfl rfl) (hd 11 rfl)) rfl ?_
  refine Bb 6 ?_ rfl (by kernel_rfl)
  refine A7 (Ae rfl rfl rfl Au rfl rfl (zlb rfl)) rfl <| zal 7 (Ao (Cr rfl) (hd 5 rfl)) rfl <| Bi (by kernel_rfl) <| As ?_
  refine ⟨[3], _, (.t [.a [.b sr, .o 0 0 0 rr.length], .i .i64 er]), (.cons (ResV.cell Aq rfl rfl rfl rfl) (.cons rfl .nil)), rfl, rfl, (by decide), (by first | exact Al Bc Ar | exact Al rfl Ar), ?_⟩
  exact ⟨sr, rr, er, rfl, rfl, by rw [hx] at hr; exact hr⟩

theorem Aex (x i d : Nat) (hx : (Bj B32 x).length < 1099511627776) (hi : x / B32 ^ i % B32 = d) : Spec Try.prog 91 [.n false .u64 (Bj B32 x), .i .i64 (i : Int)] (fun o => o = .ret (.i .u64 (d : Int))) := by
  refine Az [(0, .n false .u64 (Bj B32 x)), (1, .i .i64 (i : Int))] rfl Try.func91 rfl (zlb rfl) fun Γ hN hds hL hR => ?_
  have hd := B5 13 hN
  have hv := Mm (b := B32) (by decide) i x
  have ht := Gb (b := B32) (by decide) (Gc (by decide) x) i
  refine zsr <| zas rfl (hd 4 rfl) <| Ab <| Af <| zsr <| zmv rfl (hd 5 rfl) <| zmv rfl (hd 6 rfl) <| Ac (Av Dc rfl) (hd 7 rfl) <| Ac (Ch rfl rfl) (hd 8 rfl) <| Ab ?_
  refine Bu rfl (fun h1 => ?_) (fun h1 => ?_)
  · refine zsr <| zmv rfl (hd 9 rfl) <| zmv rfl (hd 10 rfl) <| Ac (B8 (i := i) Dc rfl rfl (by first | rfl | omega) (by omega)) (hd 11 rfl) <| Ac (B7 Bw rfl rfl) (hd 12 rfl) <| zas rfl (hd 4 rfl) <| Ab <| As ?_
    refine ⟨_, _, (.cons rfl .nil), .i, ?_⟩
    rw [hv, hi]
  · refine Am <| zsr <| zas rfl (hd 4 rfl) <| Ab <| As ?_
    refine ⟨_, _, (.cons rfl .nil), .i, ?_⟩
    rw [← hi]
    have h0 : (Bj B32 x).getD i 0 = 0 := Dw (by omega)
    rw [h0] at hv
    rw [← hv]

theorem M2 (x y : Nat) (hx : (Bj B32 x).length < 1099511627776) (hy : (Bj B32 y).length < 1099511627776) : Spec Try.prog 75 [.n false .u64 (Bj B32 x), .n false .u64 (Bj B32 y)] (fun o => o = .ret (.i .i64 (Du x y))) := by
  refine Az [(0, .n false .u64 (Bj B32 x)), (1, .n false .u64 (Bj B32 y))] rfl Try.func75 rfl (zlb rfl) fun Γ hN hds hL hR => ?_
  have hd := B5 41 hN
  have hcm := Uu (b := B32) (by decide) x y
  unfold Lk at hcm
  refine zsr <| zas rfl (hd 4 rfl) <| Ab <| Af <| zsr <| zmv rfl (hd 6 rfl) <| Ac (Av Dc rfl) (hd 7 rfl) <| zmv rfl (hd 8 rfl) <| Ac (Av Dc rfl) (hd 9 rfl) <| Ac (Cm rfl rfl) (hd 10 rfl) <| Ab ?_
  refine Bu rfl (fun h1 => ?_) (fun h1 => ?_)
  · refine Af <| zsr <| zmv rfl (hd 11 rfl) <| Ac (Av Dc rfl) (hd 12 rfl) <| zmv rfl (hd 13 rfl) <| Ac (Av Dc rfl) (hd 14 rfl) <| Ac (Ch rfl rfl) (hd 15 rfl) <| Ab ?_
    refine Bu rfl (fun h2 => ?_) (fun h2 => ?_)
    · refine zsr <| zas rfl (hd 4 rfl) <| Ab <| As ?_
      refine ⟨_, _, (.cons rfl .nil), .i, ?_⟩
      rw [← hcm, if_pos (by omega)]
    · refine Am <| zsr <| zas rfl (hd 4 rfl) <| Ab <| As ?_
      refine ⟨_, _, (.cons rfl .nil), .i, ?_⟩
      rw [← hcm, if_neg (by omega), if_pos (by omega)]
  · refine Am <| Af <| zsr <| zmv rfl (hd 16 rfl) <| Ac (Av Dc rfl) (hd 17 rfl) <| Ac (B1 rfl rfl (Ap (by omega) (by omega))) (hd 18 rfl) <| zas rfl (hd 5 rfl) <| Ab <| Aw ?_
    refine B4 (G := Nat) (fun k => k ≤ (Bj B32 x).length ∧ Jf (Bj B32 x) (Bj B32 y) k = Jf (Bj B32 x) (Bj B32 y) (Bj B32 x).length) (fun k => [(5, .i .i64 ((k : Int) - 1)), (4, .u), (19, .u), (20, .u), (21, .u), (22, .u), (23, .u), (24, .u), (25, .u), (26, .u), (27, .u), (28, .u), (29, .u), (30, .u), (31, .u), (32, .u), (33, .u), (34, .u), (35, .u), (36, .u), (37, .u), (38, .u), (39, .u), (40, .u)]) (fun _ => _) (fun k => k) (Bj B32 x).length ?_ ?_ rfl ?_
    · exact ⟨Nat.le_refl _, rfl⟩
    · exact (.cons rfl (.v9 (.v9 (.u (.u (.u .nil))))))
    · rintro k ⟨hc1, hc2⟩; refine Af <| zsr <| zmv rfl (hd 19 rfl) <| Ac (Eu rfl rfl) (hd 20 rfl) <| Ab ?_
      refine Bu rfl (fun h3 => ?_) (fun h3 => ?_)
      · refine Am <| Af <| Aw <| Af <| Af <| Be (n := 9) _ rfl B2 <| Ax 0 [2, 3, 8] (Ao (A0 rfl) (hd 23 rfl)) rfl <| Ax 1 [2, 3, 8] (Ao (A0 rfl) (hd 24 rfl)) rfl <| Ax 2 [3, 8] (Ao (B8 (i := k - 1) Dc rfl rfl (by omega) (by omega)) (hd 25 rfl)) rfl <| zal 3 (Ao (B7 Bw rfl rfl) (hd 26 rfl)) rfl <| Ax 4 [6, 7, 8] (Ao (A0 rfl) (hd 27 rfl)) rfl <| Ax 5 [6, 7, 8] (Ao (A0 rfl) (hd 28 rfl)) rfl <| Ax 6 [7, 8] (Ao (B8 (i := k - 1) Dc rfl rfl (by omega) (by omega)) (hd 29 rfl)) rfl ?_; refine zal 7 (Ao (B7 Bw rfl rfl) (hd 30 rfl)) rfl <| zal 8 (Ao (Ch rfl rfl) (hd 31 rfl)) rfl <| Bi (by kernel_rfl) ?_
        refine Bu rfl (fun h4 => ?_) (fun h4 => ?_)
        · refine zsr <| zas rfl (hd 4 rfl) <| Ab <| As ?_
          refine ⟨_, _, (.cons rfl .nil), .i, ?_⟩
          rw [← hcm, if_neg (by omega), if_neg (by omega), ← hc2, Uq (by omega) (by assumption)]
        · refine Am <| Af <| Be (n := 9) _ rfl B2 <| Ax 0 [2, 3, 8] (Ao (A0 rfl) (hd 32 rfl)) rfl <| Ax 1 [2, 3, 8] (Ao (A0 rfl) (hd 33 rfl)) rfl <| Ax 2 [3, 8] (Ao (B8 (i := k - 1) Dc rfl rfl (by omega) (by omega)) (hd 34 rfl)) rfl <| zal 3 (Ao (B7 Bw rfl rfl) (hd 35 rfl)) rfl <| Ax 4 [6, 7, 8] (Ao (A0 rfl) (hd 36 rfl)) rfl <| Ax 5 [6, 7, 8] (Ao (A0 rfl) (hd 37 rfl)) rfl <| Ax 6 [7, 8] (Ao (B8 (i := k - 1) Dc rfl rfl (by omega) (by omega)) (hd 38 rfl)) rfl <| zal 7 (Ao (B7 Bw rfl rfl) (hd 39 rfl)) rfl <| zal 8 (Ao (C0 rfl rfl) (hd 40 rfl)) rfl <| Bi (by kernel_rfl) ?_
          refine Bu rfl (fun h5 => ?_) (fun h5 => ?_)
          · refine zsr <| zas rfl (hd 4 rfl) <| Ab <| As ?_
            refine ⟨_, _, (.cons rfl .nil), .i, ?_⟩
            rw [← hcm, if_neg (by omega), if_neg (by omega), ← hc2, Ur (by omega) (by assumption)]
          · refine Am <| Ag <| zmv rfl (hd 21 rfl) <| Ac (B1 rfl rfl (Ap (by omega) (by omega))) (hd 22 rfl) <| zas rfl (hd 5 rfl) <| Ab ?_
            refine ⟨k - 1, ?_, ?_, rfl, Ba 47 rfl rfl ?_⟩
            · exact ⟨by omega, by rw [← hc2]; exact Us (by omega) (by assumption) (by assumption)⟩
            · omega
            · exact (.cons (by show some (V.i .i64 _) = some (V.i .i64 _); congr 2; omega) (.v9 (.v9 (.u (.u (.u .nil))))))
      · refine By <| zsr <| zas rfl (hd 4 rfl) <| Ab <| As ?_
        refine ⟨_, _, (.cons rfl .nil), .i, ?_⟩
        rw [← hcm, if_neg (by omega), if_neg (by omega), ← hc2]
        obtain rfl : k = 0 := by omega
        rfl

theorem Xm (x y : Nat) (hx : (Bj B32 x).length < 549755813888) (hy : (Bj B32 y).length < 549755813888) : Spec Try.prog 74 [.n false .u64 (Bj B32 x), .n false .u64 (Bj B32 y)] (fun o => o = .ret (.n false .u64 (Bj B32 (x + y)))) := by
  refine Az [(0, .n false .u64 (Bj B32 x)), (1, .n false .u64 (Bj B32 y))] rfl Try.func74 rfl (zlb rfl) fun Γ hN hds hL hR => ?_
  have hd := B5 44 hN
  refine zsr <| zas rfl (hd 4 rfl) <| Ab <| zsr <| zmv rfl (hd 10 rfl) <| Ac (Av Dc rfl) (hd 11 rfl) <| zas rfl (hd 5 rfl) <| Ab ?_
  refine Cu (G := Nat) (fun n => n = max (Bj B32 x).length (Bj B32 y).length) (fun n => [(5, .i .i64 (n : Int)), (12, .u), (13, .u), (14, .u), (15, .u), (16, .u), (17, .u)]) ?_ ?_
  · refine zsr <| zmv rfl (hd 12 rfl) <| Ac (Av Dc rfl) (hd 13 rfl) <| zmv rfl (hd 14 rfl) <| Ac (C0 rfl rfl) (hd 15 rfl) <| Ab ?_
    refine Bu rfl (fun h1 => ?_) (fun h1 => ?_)
    · refine Ag <| zmv rfl (hd 16 rfl) <| Ac (Av Dc rfl) (hd 17 rfl) <| zas rfl (hd 5 rfl) <| Ab ?_
      refine ⟨(Bj B32 y).length, ?_, rfl, Ba 7 rfl rfl ?_⟩
      · omega
      · exact (.cons rfl (.v5 (.u .nil)))
    · refine Am ?_
      refine ⟨(Bj B32 x).length, ?_, rfl, Ba 4 rfl rfl ?_⟩
      · omega
      · exact (.cons rfl (.v5 (.u .nil)))
  · rintro n hn; refine zsr <| zmv rfl (hd 18 rfl) <| Ac (A9 rfl rfl (r := ((n + 1 : Nat) : Int)) (by rw [Ap (by omega) (by omega)]; omega)) (hd 19 rfl) <| Ay (Fp (m := n + 1) Vj rfl rfl rfl (by show 8 * (n + 1) ≤ _; omega) (by unfold maxLen; omega) rfl) (hd 20 rfl) <| zas rfl (hd 6 rfl) <| Ab <| Af <| Cs (H' := [⟨79, 1, 0, true, A2 .u64 (Cv (dvl (x + y) 0) (n + 1))⟩]) (by rw [← Ni]; rfl) <| Ag <| zas rfl (hd 7 rfl) <| Ab <| Af ?_; refine zsr <| zas rfl (hd 8 rfl) <| Ab <| Aw ?_
    refine B4 (G := Nat) (fun i => i ≤ n + 1) (fun i => [(7, .i .u64 (cry x y i : Int)), (8, .i .i64 (i : Int)), (9, .u), (21, .u), (22, .u), (23, .u), (24, .u), (25, .u), (26, .u), (27, .u), (28, .u), (29, .u), (30, .u), (31, .u), (32, .u), (33, .u), (34, .u), (35, .u), (36, .u), (37, .u), (38, .u), (39, .u), (40, .u), (41, .u)]) (fun i => [⟨79, 1, 0, true, A2 .u64 (Cv (dvl (x + y) i) (n + 1))⟩]) (fun i => n + 1 - i) 0 ?_ ?_ rfl ?_
    · exact Nat.zero_le _
    · exact (.cons (by show some (V.i .u64 _) = some (V.i .u64 _); rw [Aeu]; rfl) (.cons rfl (.v9 (.v9 (.u (.u .nil))))))
    · rintro i hc1
      have hfl := P6 (z := x + y) hc1
      have hcl := X7 x y i
      have had := U3 x y i
      obtain ⟨dx, hdx⟩ : ∃ q, x / B32 ^ i % B32 = q := ⟨_, rfl⟩
      obtain ⟨dy, hdy⟩ : ∃ q, y / B32 ^ i % B32 = q := ⟨_, rfl⟩
      have hb1 : x / B32 ^ i % B32 < 4294967296 := Nat.mod_lt _ (by decide)
      have hb2 : y / B32 ^ i % B32 < 4294967296 := Nat.mod_lt _ (by decide)
      rw [hdx] at hb1
      rw [hdy] at hb2
      rw [hdx, hdy] at had
      have hv1 : (dx + dy + cry x y i) % 4294967296 = (x + y) / B32 ^ i % B32 := had.1
      have hv2 : (dx + dy + cry x y i) / 4294967296 = cry x y (i + 1) := had.2
      refine Af <| zsr <| zmv rfl (hd 21 rfl) <| zmv rfl (hd 22 rfl) <| Ac (S9 rfl rfl) (hd 23 rfl) <| Ab ?_
      refine Bu rfl (fun h2 => ?_) (fun h2 => ?_)
      · refine Am <| Af <| Aw <| zsr <| zmv rfl (hd 26 rfl) <| zmv rfl (hd 27 rfl) ?_
        refine Aj Try.f91 (Aex x i dx (by omega) hdx) rfl Try.func91 rfl rfl (Aa rfl (Aa rfl Ad)) (.cons .n (.cons .i .nil)) (hd 28 rfl) ?_ (fun ch hp => by simp at hp)
        rintro _ ⟨⟩; refine zmv rfl (hd 29 rfl) <| zmv rfl (hd 30 rfl) ?_
        refine Aj Try.f91 (Aex y i dy (by omega) hdy) rfl Try.func91 rfl rfl (Aa rfl (Aa rfl Ad)) (.cons .n (.cons .i .nil)) (hd 31 rfl) ?_ (fun ch hp => by simp at hp)
        rintro _ ⟨⟩; refine Ac (A9 rfl rfl (r := ((dx + dy : Nat) : Int)) (by rw [Bh (by omega) (by omega)]; omega)) (hd 32 rfl) <| zmv rfl (hd 33 rfl) <| Ac (A9 rfl rfl (r := ((dx + dy + cry x y i : Nat) : Int)) (by rw [Bh (by omega) (by omega)]; omega)) (hd 34 rfl) <| zas rfl (hd 9 rfl) <| Ab <| zsr <| zmv rfl (hd 35 rfl) <| zmv rfl (hd 36 rfl) <| zmv rfl (hd 37 rfl) <| Ac (B0 (Hq rfl rfl (by decide) rfl) (show V.i .u64 (((dx + dy + cry x y i : Nat) : Int).tmod 4294967296) = V.i .u64 (dgt (x + y) i) by rw [show (((dx + dy + cry x y i : Nat) : Int).tmod 4294967296) = (((dx + dy + cry x y i) % 4294967296 : Nat) : Int) from rfl, hv1]; rfl)) (hd 38 rfl) <| Ac (Ci (i := i) Dc rfl rfl rfl (by first | rfl | omega) (by first | omega | (dsimp only; omega)) rfl) (hd 39 rfl) <| A1 (Cc rfl rfl rfl Bw (by first | omega | (dsimp only; omega))) ?_; refine Ab <| Ag <| zmv rfl (hd 40 rfl) <| Ac (Fx rfl rfl (by decide) (r := ((cry x y (i + 1) : Nat) : Int)) (by rw [show (((dx + dy + cry x y i : Nat) : Int).tdiv 4294967296) = (((dx + dy + cry x y i) / 4294967296 : Nat) : Int) from rfl, hv2]; have := X7 x y (i + 1); rw [Bh (by omega) (by omega)])) (hd 41 rfl) <| zas rfl (hd 7 rfl) <| Ab <| Ag <| zmv rfl (hd 24 rfl) <| Ac (A9 rfl rfl (Ap (by first | omega | (dsimp only; omega)) (by first | omega | (dsimp only; omega)))) (hd 25 rfl) <| zas rfl (hd 8 rfl) <| Ab ?_
        refine ⟨i + 1, ?_, ?_, (by show [(⟨79, 1, 0, true, A2 .u64 _⟩ : Ob)] = [⟨79, 1, 0, true, A2 .u64 _⟩]; rw [P7 (by omega)]), Ba 48 rfl rfl ?_⟩
        · omega
        · omega
        · exact (.cons rfl (.cons rfl (.v9 (.v9 (.u (.u .nil))))))
      · refine By <| Af ?_
        obtain rfl : i = n + 1 := by omega
        refine Ir (k := .u64) (l' := dvl (x + y) (n + 1)) 6 rfl rfl (by rw [J0, Fq]; omega) (by rw [J0, List.drop_zero, List.take_of_length_le (by rw [Fq]; omega)]) hL <| Ag <| zmv rfl (hd 42 rfl) ?_
        refine Aj Try.f53 (Hx (dvl (x + y) (n + 1)) (by rw [Fq]; omega)) rfl Try.func53 rfl rfl (Aa rfl Ad) (.cons .n .nil) (hd 43 rfl) ?_ (fun ch hp => by simp at hp)
        rintro _ ⟨⟩; refine zas rfl (hd 4 rfl) <| Ab <| As ?_
        refine ⟨_, _, (.cons rfl .nil), .n, ?_⟩
        rw [Rx (Xa (by omega) (by omega))]

theorem Po (x y : Nat) (hle : y ≤ x) (hx : (Bj B32 x).length < 1099511627776) (hy : (Bj B32 y).length < 1099511627776) : Spec Try.prog 76 [.n false .u64 (Bj B32 x), .n false .u64 (Bj B32 y)] (fun o => o = .ret (.n false .u64 (Bj B32 (x - y)))) := by
  refine Az [(0, .n false .u64 (Bj B32 x)), (1, .n false .u64 (Bj B32 y))] rfl Try.func76 rfl (zlb rfl) fun Γ hN hds hL hR => ?_
  have hd := B5 39 hN
  refine zsr <| zas rfl (hd 4 rfl) <| Ab <| zsr <| zmv rfl (hd 9 rfl) <| Ac (Av Dc rfl) (hd 10 rfl) <| Ay (Fp (m := (Bj B32 x).length) Vj rfl rfl rfl (by show 8 * (Bj B32 x).length ≤ _; omega) (by unfold maxLen; omega) rfl) (hd 11 rfl) <| zas rfl (hd 5 rfl) <| Ab <| Af <| Cs (H' := [⟨79, 1, 0, true, A2 .u64 (Cv (dvl (x - y) 0) (Bj B32 x).length)⟩]) (by rw [← Ni]; rfl) ?_; refine Ag <| zas rfl (hd 6 rfl) <| Ab <| Af <| zsr <| zmv rfl (hd 12 rfl) <| Ac (Av Dc rfl) (hd 13 rfl) <| zmv rfl (hd 14 rfl) <| Ab <| Aw ?_
  refine B4 (G := Nat) (fun i => i ≤ (Bj B32 x).length) (fun i => [(6, .i .u64 (brw x y i : Int)), (14, .i .i64 (i : Int)), (7, .u), (8, .u), (15, .u), (16, .u), (17, .u), (18, .u), (19, .u), (20, .u), (21, .u), (22, .u), (23, .u), (24, .u), (25, .u), (26, .u), (27, .u), (28, .u), (29, .u), (30, .u), (31, .u), (32, .u), (33, .u), (34, .u), (35, .u), (36, .u)]) (fun i => [⟨79, 1, 0, true, A2 .u64 (Cv (dvl (x - y) i) ((Bj B32 x).length))⟩]) (fun i => (Bj B32 x).length - i) 0 ?_ ?_ rfl ?_
  · exact Nat.zero_le _
  · exact (.cons (by show some (V.i .u64 _) = some (V.i .u64 _); rw [Aev]; rfl) (.cons rfl (.v9 (.v9 (.u (.u (.u (.u .nil))))))))
  · rintro i hc1
    have hfl := P6 (z := x - y) hc1
    have hcl := Ya x y i
    have had := R5 hle i
    have hvx := Mm (b := B32) (by decide) i x
    obtain ⟨dx, hdx⟩ : ∃ q, x / B32 ^ i % B32 = q := ⟨_, rfl⟩
    obtain ⟨dy, hdy⟩ : ∃ q, y / B32 ^ i % B32 = q := ⟨_, rfl⟩
    have hb1 : x / B32 ^ i % B32 < 4294967296 := Nat.mod_lt _ (by decide)
    have hb2 : y / B32 ^ i % B32 < 4294967296 := Nat.mod_lt _ (by decide)
    rw [hdx] at hb1
    rw [hdy] at hb2
    rw [hdx, hdy] at had
    rw [hdx] at hvx
    have hv1 : (dx + 4294967296 - dy - brw x y i) % 4294967296 = (x - y) / B32 ^ i % B32 := had.1
    have hv2 : 1 - (dx + 4294967296 - dy - brw x y i) / 4294967296 = brw x y (i + 1) := had.2
    refine zsr <| Ac (Ch rfl rfl) (hd 15 rfl) <| Ab <| Af ?_
    refine Bu rfl (fun h1 => ?_) (fun h1 => ?_)
    · refine Am <| Af <| Aw <| zsr <| zmv rfl (hd 16 rfl) <| zas rfl (hd 7 rfl) <| Ab <| Af <| Be (n := 12) _ rfl B2 <| Ax 0 [2, 3, 4, 8, 10, 11] (Ao (A0 rfl) (hd 17 rfl)) rfl <| Ax 1 [2, 3, 4, 8, 10, 11] (Ao (A0 rfl) (hd 18 rfl)) rfl <| Ax 2 [3, 4, 8, 10, 11] (Ao (B8 (i := i) Dc rfl rfl (by first | rfl | omega) (by omega)) (hd 19 rfl)) rfl ?_; refine Ax 3 [4, 8, 10, 11] (Ao (B0 (B7 Bw rfl rfl) (by exact congrArg (V.i .u64) hvx)) (hd 20 rfl)) rfl <| Ax 4 [8, 10, 11] (Ao (A9 rfl rfl (r := ((dx + 4294967296 : Nat) : Int)) (by rw [Bh (by omega) (by omega)]; omega)) (hd 21 rfl)) rfl <| Ax 5 [7, 8, 10, 11] (Ao (A0 rfl) (hd 22 rfl)) rfl <| Ax 6 [7, 8, 10, 11] (Ao (A0 rfl) (hd 23 rfl)) rfl <| zal 9 (Ao (A0 rfl) (hd 26 rfl)) rfl ?_
      refine Bb 7 ?_ rfl (by kernel_rfl)
      refine A4 Try.f91 (Aex y i dy hy hdy) rfl Try.func91 rfl rfl (Aa rfl (Aa rfl Ad)) (.cons .n (.cons .i .nil)) (hd 24 rfl) ?_ (fun ch hp => by simp at hp)
      rintro _ ⟨⟩; refine zal 8 (Ao (B1 rfl rfl (r := ((dx + 4294967296 - dy : Nat) : Int)) (by rw [Bh (by omega) (by omega)]; omega)) (hd 25 rfl)) rfl <| zal 10 (Ao (B1 rfl rfl (r := ((dx + 4294967296 - dy - brw x y i : Nat) : Int)) (by rw [Bh (by omega) (by omega)]; omega)) (hd 27 rfl)) rfl <| zal 11 (Ao (Cr rfl) (hd 8 rfl)) rfl <| Bi (by kernel_rfl) <| zsr <| zmv rfl (hd 28 rfl) <| zmv rfl (hd 29 rfl) <| zmv rfl (hd 30 rfl) <| Ac (B0 (Hq rfl rfl (by decide) rfl) (show V.i .u64 (((dx + 4294967296 - dy - brw x y i : Nat) : Int).tmod 4294967296) = V.i .u64 (dgt (x - y) i) by rw [show (((dx + 4294967296 - dy - brw x y i : Nat) : Int).tmod 4294967296) = (((dx + 4294967296 - dy - brw x y i) % 4294967296 : Nat) : Int) from rfl, hv1]; rfl)) (hd 31 rfl) <| Ac (Ci (i := i) Dc rfl rfl rfl (by first | rfl | omega) (by first | omega | (dsimp only; omega)) rfl) (hd 32 rfl) <| A1 (Cc rfl rfl rfl Bw (by first | omega | (dsimp only; omega))) <| Ab ?_; refine Ag <| zmv rfl (hd 33 rfl) <| Ac (Fx rfl rfl (by decide) (r := (((dx + 4294967296 - dy - brw x y i) / 4294967296 : Nat) : Int)) (by rw [show (((dx + 4294967296 - dy - brw x y i : Nat) : Int).tdiv 4294967296) = (((dx + 4294967296 - dy - brw x y i) / 4294967296 : Nat) : Int) from rfl, Bh (by omega) (by omega)])) (hd 34 rfl) <| Ac (B1 rfl rfl (r := ((brw x y (i + 1) : Nat) : Int)) (by rw [← hv2]; rw [Bh (by omega) (by omega)]; omega)) (hd 35 rfl) <| zas rfl (hd 6 rfl) <| Ab <| Ag <| Ac (A9 rfl rfl (Ap (by first | omega | (dsimp only; omega)) (by first | omega | (dsimp only; omega)))) (hd 36 rfl) <| zmv rfl (hd 14 rfl) <| Ab ?_
      refine ⟨i + 1, ?_, ?_, (by show [(⟨79, 1, 0, true, A2 .u64 _⟩ : Ob)] = [⟨79, 1, 0, true, A2 .u64 _⟩]; rw [P7 (by omega)]), Ba 52 rfl rfl ?_⟩
      · omega
      · omega
      · exact (.cons rfl (.cons rfl (.v9 (.v9 (.u (.u (.u (.u .nil))))))))
    · refine By <| Af ?_
      obtain rfl : i = (Bj B32 x).length := by omega
      refine Ir (k := .u64) (l' := dvl (x - y) (Bj B32 x).length) 5 rfl rfl (by rw [J0, Fq]; omega) (by rw [J0, List.drop_zero, List.take_of_length_le (by rw [Fq]; omega)]) hL <| Ag <| zmv rfl (hd 37 rfl) ?_
      refine Aj Try.f53 (Hx (dvl (x - y) (Bj B32 x).length) (by rw [Fq]; omega)) rfl Try.func53 rfl rfl (Aa rfl Ad) (.cons .n .nil) (hd 38 rfl) ?_ (fun ch hp => by simp at hp)
      rintro _ ⟨⟩; refine zas rfl (hd 4 rfl) <| Ab <| As ?_
      refine ⟨_, _, (.cons rfl .nil), .n, ?_⟩
      rw [Rx Ada]

theorem Ab0 (a b : List Int) (hla : a.length < 549755813888) (hlb : b.length < 549755813888) (ra : rng B32 a) (rb : rng B32 b) : Spec Try.prog 60 [.n false .u64 a, .n false .u64 b] (fun o => ∃ r, o = .ret (.n false .u64 (trm r)) ∧ rng B32 r ∧ vb B32 r = vb B32 a * vb B32 b) := by
  refine Az [(0, .n false .u64 a), (1, .n false .u64 b)] rfl Try.func60 rfl (zlb rfl) fun Γ hN hds hL hR => ?_
  have hd := B5 65 hN
  have hB : B32 = 4294967296 := rfl
  refine zsr <| zas rfl (hd 4 rfl) <| Ab <| zsr <| zmv rfl (hd 12 rfl) <| Ac (Av Dc rfl) (hd 13 rfl) <| zmv rfl (hd 14 rfl) <| Ac (Av Dc rfl) (hd 15 rfl) <| Ac (A9 rfl rfl (r := ((a.length + b.length : Nat) : Int)) (by rw [Ap (by omega) (by omega)]; omega)) (hd 16 rfl) <| Ac (A9 rfl rfl (r := ((a.length + b.length + 1 : Nat) : Int)) (by rw [Ap (by omega) (by omega)]; omega)) (hd 17 rfl) <| Ay (Fp (m := a.length + b.length + 1) Vj rfl rfl rfl (by show 8 * (a.length + b.length + 1) ≤ _; omega) (by unfold maxLen; omega) rfl) (hd 18 rfl) ?_; refine zas rfl (hd 5 rfl) <| Ab <| Af <| zsr <| zmv rfl (hd 19 rfl) <| Ac (Av Dc rfl) (hd 20 rfl) <| zmv rfl (hd 21 rfl) <| Ab <| Aw ?_
  refine B4 (G := Nat × List Int) (fun g => g.1 ≤ a.length ∧ g.2.length = a.length + b.length + 1 ∧ rng B32 g.2 ∧ D.vl g.2 = D.vk a g.1 * D.vl b ∧ ∀ j, g.1 + b.length ≤ j → g.2.getD j 0 = 0) (fun g => [(21, .i .i64 (g.1 : Int)), (6, .u), (7, .u), (8, .u), (9, .u), (10, .u), (11, .u), (22, .u), (23, .u), (24, .u), (25, .u), (26, .u), (27, .u), (28, .u), (29, .u), (30, .u), (31, .u), (32, .u), (33, .u), (34, .u), (35, .u), (36, .u), (37, .u), (38, .u), (39, .u), (40, .u), (41, .u), (42, .u), (43, .u), (44, .u), (45, .u), (46, .u), (47, .u), (48, .u), (49, .u), (50, .u), (51, .u), (52, .u), (53, .u), (54, .u), (55, .u), (56, .u), (57, .u), (58, .u), (59, .u), (60, .u), (61, .u), (62, .u)]) (fun g => [⟨79, 1, 0, true, A2 .u64 g.2⟩]) (fun g => a.length - g.1) (0, List.replicate (a.length + b.length + 1) 0) ?_ ?_ rfl ?_
  · exact ⟨Nat.zero_le _, List.length_replicate, fun x hx => by rw [List.eq_of_mem_replicate hx]; exact ⟨Int.le_refl 0, by decide⟩, by show D.vl (List.replicate (a.length + b.length + 1) 0) = D.vk a 0 * _; rw [D.vk_0, Int.zero_mul, ← Aba]; have h9 := O7 4294967296 [] (a.length + b.length + 1); rw [List.nil_append] at h9; exact h9, fun j _ => Le _ j⟩
  · exact (.cons rfl (.v9 (.v9 (.v9 (.v9 (.v5 (.u (.u .nil))))))))
  · rintro ⟨i, r⟩ ⟨hc1, hc2, hc3, hc4, hc5⟩
    dsimp only at hc1 hc2 hc3 hc4 hc5 ⊢
    have hX : 0 ≤ a.getD i 0 ∧ a.getD i 0 < 4294967296 := Gb (by decide) ra i
    refine zsr <| Ac (Ch rfl rfl) (hd 22 rfl) <| Ab <| Af ?_
    refine Bu rfl (fun h1 => ?_) (fun h1 => ?_)
    · refine Am <| Af <| Aw <| zsr <| zmv rfl (hd 23 rfl) <| Ac (B8 (i := i) Dc rfl rfl (by first | rfl | omega) (by first | omega | (dsimp only; omega))) (hd 24 rfl) <| Ac (B7 Bw rfl rfl) (hd 25 rfl) <| zas rfl (hd 6 rfl) <| zas rfl (hd 7 rfl) <| Ab <| Af <| Ag ?_; refine zas rfl (hd 8 rfl) <| Ab <| Af <| zsr <| zmv rfl (hd 26 rfl) <| Ac (Av Dc rfl) (hd 27 rfl) <| zmv rfl (hd 28 rfl) <| Ab <| Aw ?_
      refine B4 (G := Nat × List Int × Int) (fun g => g.1 ≤ b.length ∧ g.2.1.length = a.length + b.length + 1 ∧ rng B32 g.2.1 ∧ (0 ≤ g.2.2 ∧ g.2.2 < 4294967296) ∧ D.vl g.2.1 + g.2.2 * D.pB (i + g.1) = D.vl r + a.getD i 0 * D.pB i * D.vk b g.1 ∧ ∀ j, i + b.length ≤ j → g.2.1.getD j 0 = 0) (fun g => [(8, .i .u64 g.2.2), (28, .i .i64 (g.1 : Int)), (9, .u), (10, .u), (11, .u), (29, .u), (30, .u), (31, .u), (32, .u), (33, .u), (34, .u), (35, .u), (36, .u), (37, .u), (38, .u), (39, .u), (40, .u), (41, .u), (42, .u), (43, .u), (44, .u), (45, .u), (46, .u), (47, .u), (48, .u), (49, .u), (50, .u), (51, .u), (52, .u), (53, .u), (54, .u)]) (fun g => [⟨79, 1, 0, true, A2 .u64 g.2.1⟩]) (fun g => b.length - g.1) (0, r, 0) ?_ ?_ rfl ?_
      · exact ⟨Nat.zero_le _, hc2, hc3, ⟨Int.le_refl 0, by show (0 : Int) < _; decide⟩, by show D.vl r + 0 * _ = _ + _ * D.vk b 0; rw [D.vk_0, Int.mul_zero, Int.zero_mul], hc5⟩
      · exact (.cons rfl (.cons rfl (.v9 (.v9 (.v5 (.u (.u (.u (.u .nil)))))))))
      · rintro ⟨k, q, c⟩ ⟨hd1, hd2, hd3, hd4, hd5, hd6⟩
        dsimp only at hd1 hd2 hd3 hd4 hd5 hd6
        have hY : 0 ≤ b.getD k 0 ∧ b.getD k 0 < 4294967296 := Gb (by decide) rb k
        have hT : 0 ≤ q.getD (i + k) 0 ∧ q.getD (i + k) 0 < 4294967296 := Gb (by decide) hd3 (i + k)
        have hP := Ik (m := 4294967295) hX.1 hY.1 (by omega) (by omega)
        have hP2 : (a.getD i 0 * b.getD k 0) ≤ 18446744065119617025 := by have := hP.2; simpa using this
        have hP1 := hP.1
        refine zsr <| Ac (Ch rfl rfl) (hd 29 rfl) <| Ab <| Af ?_
        refine Bu rfl (fun h2 => ?_) (fun h2 => ?_)
        · refine Am <| Af <| Aw <| zsr <| zmv rfl (hd 30 rfl) <| Ac (B8 (i := k) Dc rfl rfl (by first | rfl | omega) (by first | omega | (dsimp only; omega))) (hd 31 rfl) <| Ac (B7 Bw rfl rfl) (hd 32 rfl) <| zas rfl (hd 9 rfl) <| zas rfl (hd 10 rfl) <| Ab <| Af <| Ag ?_; refine zmv rfl (hd 33 rfl) <| zmv rfl (hd 34 rfl) <| Ac (Dv rfl rfl (r := (a.getD i 0 * b.getD k 0)) (by rw [Bh (by omega) (by omega)])) (hd 35 rfl) <| zmv rfl (hd 36 rfl) <| zmv rfl (hd 37 rfl) <| zmv rfl (hd 38 rfl) <| Ac (A9 rfl rfl (r := ((i + k : Nat) : Int)) (by rw [Ap (by omega) (by omega)]; omega)) (hd 39 rfl) <| Ac (Ci (i := i + k) Dc rfl rfl rfl (by first | rfl | omega) (by first | omega | (dsimp only; omega)) rfl) (hd 40 rfl) <| Ac (B0 (Es Bw rfl rfl (by dsimp only; omega)) (show V.i .u64 (q.getD ((0 + (i + k)) * 1) 0) = V.i .u64 (q.getD (i + k) 0) by rw [Nat.zero_add, Nat.mul_one])) (hd 41 rfl) <| Ac (A9 rfl rfl (r := (a.getD i 0 * b.getD k 0) + q.getD (i + k) 0) (by rw [Bh (by omega) (by omega)])) (hd 42 rfl) <| zmv rfl (hd 43 rfl) <| Ac (A9 rfl rfl (r := ((a.getD i 0 * b.getD k 0) + q.getD (i + k) 0 + c)) (by rw [Bh (by dsimp only; omega) (by dsimp only; omega)])) (hd 44 rfl) <| zas rfl (hd 11 rfl) ?_; refine Ab <| zsr <| zmv rfl (hd 45 rfl) <| zmv rfl (hd 46 rfl) <| zmv rfl (hd 47 rfl) <| Ac (A9 rfl rfl (r := ((i + k : Nat) : Int)) (by rw [Ap (by omega) (by omega)]; omega)) (hd 48 rfl) <| zmv rfl (hd 49 rfl) <| Ac (B0 (Hq rfl rfl (by decide) rfl) (congrArg (V.i .u64) (Int.tmod_eq_emod_of_nonneg (by omega)))) (hd 50 rfl) <| Ac (Ci (i := i + k) Dc rfl rfl rfl (by first | rfl | omega) (by first | omega | (dsimp only; omega)) rfl) (hd 51 rfl) <| A1 (Cc rfl rfl rfl Bw (by dsimp only; omega)) <| Ab <| Ag ?_; refine zmv rfl (hd 52 rfl) <| Ac (Fx rfl rfl (by decide) (r := ((a.getD i 0 * b.getD k 0) + q.getD (i + k) 0 + c) / 4294967296) (by rw [Int.tdiv_eq_ediv_of_nonneg (by omega), Bh (by omega) (by omega)])) (hd 53 rfl) <| zas rfl (hd 8 rfl) <| Ab <| Ag <| Ac (A9 rfl rfl (Ap (by first | omega | (dsimp only; omega)) (by first | omega | (dsimp only; omega)))) (hd 54 rfl) <| zmv rfl (hd 28 rfl) <| Ab ?_
          refine ⟨(k + 1, q.set ((0 + (i + k)) * 1) (((a.getD i 0 * b.getD k 0) + q.getD (i + k) 0 + c) % 4294967296), ((a.getD i 0 * b.getD k 0) + q.getD (i + k) 0 + c) / 4294967296), ?_, ?_, rfl, Ba 62 rfl rfl ?_⟩
          · refine ⟨by show k + 1 ≤ b.length; omega, by rw [List.length_set]; exact hd2, Sh hd3 (by omega) (by show _ < ((4294967296 : Nat) : Int); omega), ⟨by show 0 ≤ ((a.getD i 0 * b.getD k 0) + q.getD (i + k) 0 + c) / 4294967296; omega, by show ((a.getD i 0 * b.getD k 0) + q.getD (i + k) 0 + c) / 4294967296 < 4294967296; omega⟩, ?_, fun j hj => ?_⟩
            · exact D.school_in (by omega) (by rw [Nat.zero_add, Nat.mul_one]) rfl hd5 (by show ((a.getD i 0 * b.getD k 0) + q.getD (i + k) 0 + c) % 4294967296 + 4294967296 * (((a.getD i 0 * b.getD k 0) + q.getD (i + k) 0 + c) / 4294967296) = q.getD (i + k) 0 + (a.getD i 0 * b.getD k 0) + c; omega)
            · rw [Nat.zero_add, Nat.mul_one, Jy (by omega)]; exact hd6 j hj
          · show b.length - (k + 1) < b.length - k
            omega
          · exact (.cons rfl (.cons rfl (.v9 (.v9 (.v5 (.u (.u (.u (.u .nil)))))))))
        · obtain rfl : k = b.length := by omega
          refine By <| Ag <| zmv rfl (hd 55 rfl) <| zmv rfl (hd 56 rfl) <| zmv rfl (hd 57 rfl) <| Ac (Av Dc rfl) (hd 58 rfl) <| Ac (A9 rfl rfl (r := ((i + b.length : Nat) : Int)) (by rw [Ap (by omega) (by omega)]; omega)) (hd 59 rfl) <| zmv rfl (hd 60 rfl) <| Ac (Ci (i := i + b.length) Dc rfl rfl rfl (by first | rfl | omega) (by first | omega | (dsimp only; omega)) rfl) (hd 61 rfl) <| A1 (Cc rfl rfl rfl Bw (by dsimp only; omega)) <| Ab <| Ag <| Ac (A9 rfl rfl (Ap (by first | omega | (dsimp only; omega)) (by first | omega | (dsimp only; omega)))) (hd 62 rfl) ?_; refine zmv rfl (hd 21 rfl) <| Ab ?_
          refine ⟨(i + 1, q.set ((0 + (i + b.length)) * 1) c), ?_, ?_, rfl, Ba 99 rfl rfl ?_⟩
          · exact ⟨by show i + 1 ≤ a.length; omega, by rw [List.length_set]; exact hd2, Sh hd3 hd4.1 hd4.2, D.school_row (by omega) (hd6 _ (Nat.le_refl _)) (by rw [Nat.zero_add, Nat.mul_one]) (by rw [hd5, hc4]), fun j hj => by rw [Nat.zero_add, Nat.mul_one, Jy (by omega)]; exact hd6 j (by omega)⟩
          · show a.length - (i + 1) < a.length - i
            omega
          · exact (.cons rfl (.v9 (.v9 (.v9 (.v9 (.v5 (.u (.u .nil))))))))
    · refine By <| Af ?_
      obtain rfl : i = a.length := by omega
      refine Ir (k := .u64) (l' := r) 5 rfl rfl (by omega) (by rw [List.drop_zero, List.take_of_length_le (by omega)]) hL <| Ag <| zmv rfl (hd 63 rfl) ?_
      refine Aj Try.f53 (Hx r (by omega)) rfl Try.func53 rfl rfl (Aa rfl Ad) (.cons .n .nil) (hd 64 rfl) ?_ (fun ch hp => by simp at hp)
      rintro _ ⟨⟩; refine zas rfl (hd 4 rfl) <| Ab <| As ?_
      refine ⟨_, _, (.cons rfl .nil), .n, ?_⟩
      exact ⟨r, rfl, hc3, by rw [Aba, Aba, Aba, hc4, D.vk_all (Nat.le_refl _)]⟩

theorem Abz (x y : Nat) (hx : (Bj B32 x).length < 549755813888) (hy : (Bj B32 y).length < 549755813888) : Spec Try.prog 60 [.n false .u64 (Bj B32 x), .n false .u64 (Bj B32 y)] (fun o => o = .ret (.n false .u64 (Bj B32 (x * y)))) :=
  (Ab0 _ _ hx hy (Gc (by decide) x) (Gc (by decide) y)).mono fun o ⟨r, ho, h1, h2⟩ => by
    rw [ho, Fu (b := B32) (n := x * y) (by decide) h1 (by rw [h2, I2 (by decide), I2 (by decide), Int.natCast_mul])]

theorem Jb (s : Bool) (n : Nat) : Spec Try.prog 55 [.b s, .n false .u64 (Bj B32 n)] (fun o => o = .ret (.a [.b (decide ((zs s n) < 0)), .n false .u64 (dg (zs s n))])) := by
  have h := L8 s (Bj B32 n)
  rw [Ael] at h
  rw [Aet]
  exact h
theorem Zy (s : Bool) (l : List Int) (hu : A3 l) : Spec Try.prog 55 [.b s, .n false .u64 (trm (dig l))] (fun o => o = .ret (.a [.b (decide ((sv s l) < 0)), .n false .u64 (dg (sv s l))])) := by
  have h := L8 s (trm (dig l))
  rw [Ym hu, I3 (s := s) hu rfl] at h
  rw [I3 (s := s) hu rfl]
  exact h

theorem Aey (s : Bool) (l : List Int) (hl : l.length < 4294967296) (hu : A3 l) : Spec Try.prog 26 [.b s, .n false .u64 l] (fun o => o = .ret (.a [.b (decide ((sv s l) < 0)), .n false .u64 (dg (sv s l))])) := by
  refine Az [(0, .b s), (1, .n false .u64 l)] rfl Try.func26 rfl (zlb rfl) fun Γ hN hds hL hR => ?_
  have hd := B5 9 hN
  refine zsr <| Ay (An (id := 0) Bx (by decide) rfl (by decide) rfl) (hd 4 rfl) <| Ab <| zsr <| zmv rfl (hd 5 rfl) <| zmv rfl (hd 6 rfl) ?_
  refine Aj Try.f20 (Zj l hl hu) rfl Try.func20 rfl rfl (Aa rfl Ad) (.cons .n .nil) (hd 7 rfl) ?_ (fun ch hp => by simp at hp)
  rintro y hy; injection hy with hy; subst hy
  refine Aj Try.f55 (Zy s l hu) rfl Try.func55 rfl rfl (Aa rfl (Aa rfl Ad)) (.cons .b (.cons .n .nil)) (hd 8 rfl) ?_ (fun ch hp => by simp at hp)
  rintro _ ⟨⟩; refine A1 (Ae rfl rfl rfl Ca rfl rfl (zlb rfl)) <| Ab <| As ?_
  refine ⟨_, _, (.cons (ResV.cell Bt rfl rfl rfl rfl) .nil), (.a1 .b (.a1 .n .a0)), ?_⟩
  exact rfl

theorem Xp (s : Bool) (l : List Int) (hl : l.length < 4294967296) (hu : A3 l) : Spec Try.prog 6 [.a [.b s, .n false .u64 l]] (fun o => o = .ret (.a [.b (decide ((sv s l) < 0)), .n false .u64 (dg (sv s l))])) := by
  refine Az [(0, .a [.b s, .n false .u64 l])] rfl Try.func6 rfl (zlb rfl) fun Γ hN hds hL hR => ?_
  have hd := B5 8 hN
  refine zsr <| Ay (Br (id := 0) (n := 2) rfl rfl rfl (by decide) rfl) (hd 1 rfl) <| Ay (An (id := 1) Bx (by decide) rfl (by decide) rfl) (hd 2 rfl) <| Ab <| zsr <| Ac (Bd T4 rfl rfl rfl) (hd 3 rfl) <| Ac (A8 C5 rfl rfl rfl) (hd 4 rfl) <| Ac (Bd Mg rfl rfl rfl) (hd 5 rfl) <| Ac (A8 Od rfl rfl rfl) (hd 6 rfl) ?_
  refine Aj Try.f26 (Aey s l hl hu) rfl Try.func26 rfl rfl (Aa rfl (Aa rfl Ad)) (.cons .b (.cons .n .nil)) (hd 7 rfl) ?_ (fun ch hp => by simp at hp)
  rintro _ ⟨⟩; refine A1 (Ae rfl rfl rfl Ca rfl rfl (zlb rfl)) <| Ab <| As ?_
  refine ⟨_, _, (.cons (ResV.cell Bt rfl rfl rfl rfl) .nil), (.a1 .b (.a1 .n .a0)), ?_⟩
  exact rfl

theorem Ado (v : Int) : Spec Try.prog 59 [.a [.b (decide (v < 0)), .n false .u64 (dg v)]] (fun o => o = .ret (.a [.b (decide ((-v) < 0)), .n false .u64 (dg (-v))])) := by
  refine Az [(0, .a [.b (decide (v < 0)), .n false .u64 (dg v)])] rfl Try.func59 rfl (zlb rfl) fun Γ hN hds hL hR => ?_
  have hd := B5 9 hN
  refine zsr <| Ay (Br (id := 0) (n := 2) rfl rfl rfl (by decide) rfl) (hd 1 rfl) <| Ay (An (id := 1) Bx (by decide) rfl (by decide) rfl) (hd 2 rfl) <| Ab <| zsr <| Ac (Bd Ep rfl rfl rfl) (hd 3 rfl) <| Ac (A8 C5 rfl rfl rfl) (hd 4 rfl) <| Ac (Fn rfl) (hd 5 rfl) <| Ac (Bd Dl rfl rfl rfl) (hd 6 rfl) <| Ac (A8 Fl rfl rfl rfl) (hd 7 rfl) ?_
  refine Aj Try.f55 (Jb (!decide (v < 0)) v.natAbs) rfl Try.func55 rfl rfl (Aa rfl (Aa rfl Ad)) (.cons .b (.cons .n .nil)) (hd 8 rfl) ?_ (fun ch hp => by simp at hp)
  rintro _ ⟨⟩; refine A1 (Ae rfl rfl rfl Ca rfl rfl (zlb rfl)) <| Ab <| As ?_
  refine ⟨_, _, (.cons (ResV.cell Bt rfl rfl rfl rfl) .nil), (.a1 .b (.a1 .n .a0)), ?_⟩
  rw [Afu]

theorem U4 (v : Int) : Spec Try.prog 13 [.a [.b (decide (v < 0)), .n false .u64 (dg v)]] (fun o => o = .ret (.a [.b (decide (((v.natAbs : Nat) : Int) < 0)), .n false .u64 (dg ((v.natAbs : Nat) : Int))])) := by
  refine Az [(0, .a [.b (decide (v < 0)), .n false .u64 (dg v)])] rfl Try.func13 rfl (zlb rfl) fun Γ hN hds hL hR => ?_
  have hd := B5 6 hN
  refine zsr <| Ay (Br (id := 0) (n := 2) rfl rfl rfl (by decide) rfl) (hd 1 rfl) <| Ay (An (id := 1) Bx (by decide) rfl (by decide) rfl) (hd 2 rfl) <| Ab <| zsr <| Ac (Bd Dl rfl rfl rfl) (hd 3 rfl) <| Ac (A8 Fl rfl rfl rfl) (hd 4 rfl) <| Ac (B3 (is := [0, 1]) (xs := [.const (.bool false), .tmp 4]) Bx Ih rfl (Aa rfl (Aa rfl Ad)) rfl (by first | (simp [Ck, cellsV]; done) | (simp [Ck, cellsV, old]; done)) (Cj rfl) rfl) (hd 5 rfl) <| A1 (Ae rfl rfl rfl Ca rfl rfl (zlb rfl)) <| Ab <| As ?_
  refine ⟨_, _, (.cons (ResV.cell Bt rfl rfl rfl rfl) .nil), (.a1 .b (.a1 .n .a0)), ?_⟩
  rw [Aar, X6]

theorem Yd (x y : Int) (hx : (dg x).length < 549755813888) (hy : (dg y).length < 549755813888) : Spec Try.prog 54 [.a [.b (decide (x < 0)), .n false .u64 (dg x)], .a [.b (decide (y < 0)), .n false .u64 (dg y)]] (fun o => o = .ret (.a [.b (decide ((x + y) < 0)), .n false .u64 (dg (x + y))])) := by
  refine Az [(0, .a [.b (decide (x < 0)), .n false .u64 (dg x)]), (1, .a [.b (decide (y < 0)), .n false .u64 (dg y)])] rfl Try.func54 rfl (zlb rfl) fun Γ hN hds hL hR => ?_
  have hd := B5 40 hN
  refine zsr <| Ay (Br (id := 0) (n := 2) rfl rfl rfl (by decide) rfl) (hd 2 rfl) <| Ay (Br (id := 1) (n := 2) rfl rfl rfl (by decide) rfl) (hd 3 rfl) <| Ay (An (id := 2) Bx (by decide) rfl (by decide) rfl) (hd 4 rfl) <| Ab <| Af <| zsr <| Ac (Bd Ep rfl rfl rfl) (hd 5 rfl) <| Ac (A8 C5 rfl rfl rfl) (hd 6 rfl) <| Ac (Bd Ep rfl rfl rfl) (hd 7 rfl) <| Ac (A8 C5 rfl rfl rfl) (hd 8 rfl) ?_; refine Ac (Pt Qo rfl rfl) (hd 9 rfl) <| Ab ?_
  refine E7 rfl (fun h1 => ?_) (fun h1 => ?_)
  · refine Af <| Be (n := 9) _ rfl B2 <| Ax 0 [1, 7, 8] (Ao (Bd Ep rfl rfl rfl) (hd 10 rfl)) rfl <| zal 1 (Ao (A8 C5 rfl rfl rfl) (hd 11 rfl)) rfl <| Ax 2 [3, 6, 7, 8] (Ao (Bd Dl rfl rfl rfl) (hd 12 rfl)) rfl <| Ax 3 [6, 7, 8] (Ao (A8 Fl rfl rfl rfl) (hd 13 rfl)) rfl <| Ax 4 [5, 6, 7, 8] (Ao (Bd Dl rfl rfl rfl) (hd 14 rfl)) rfl <| Ax 5 [6, 7, 8] (Ao (A8 Fl rfl rfl rfl) (hd 15 rfl)) rfl ?_
    refine Bb 6 ?_ rfl (by kernel_rfl)
    refine A4 Try.f74 (Xm x.natAbs y.natAbs hx hy) rfl Try.func74 rfl rfl (Aa rfl (Aa rfl Ad)) (.cons .n (.cons .n .nil)) (hd 16 rfl) ?_ (fun ch hp => by simp at hp)
    rintro y hy; injection hy with hy; subst hy
    refine Bb 7 ?_ rfl (by kernel_rfl)
    refine A4 Try.f55 (Jb (decide (x < 0)) (x.natAbs + y.natAbs)) rfl Try.func55 rfl rfl (Aa rfl (Aa rfl Ad)) (.cons .b (.cons .n .nil)) (hd 17 rfl) ?_ (fun ch hp => by simp at hp)
    rintro y hy; injection hy with hy; subst hy
    refine Bb 8 ?_ rfl (by kernel_rfl)
    refine A7 (Ae rfl rfl rfl Ca rfl rfl (zlb rfl)) rfl <| Bi (by kernel_rfl) <| As ?_
    refine ⟨_, _, (.cons (ResV.cell Bt rfl rfl rfl rfl) .nil), (.a1 .b (.a1 .n .a0)), ?_⟩
    rw [Rf (by assumption)]
  · refine Am <| Af <| zsr <| Ac (Bd Dl rfl rfl rfl) (hd 18 rfl) <| Ac (A8 Fl rfl rfl rfl) (hd 19 rfl) <| Ac (Bd Dl rfl rfl rfl) (hd 20 rfl) <| Ac (A8 Fl rfl rfl rfl) (hd 21 rfl) ?_
    refine Aj Try.f75 (M2 x.natAbs y.natAbs (by show (dg x).length < _; omega) (by show (dg y).length < _; omega)) rfl Try.func75 rfl rfl (Aa rfl (Aa rfl Ad)) (.cons .n (.cons .n .nil)) (hd 22 rfl) ?_ (fun ch hp => by simp at hp)
    rintro _ ⟨⟩; refine Ac (Eu rfl rfl) (hd 23 rfl) <| Ab ?_
    refine Bu rfl (fun h2 => ?_) (fun h2 => ?_)
    · refine Af <| Be (n := 9) _ rfl B2 <| Ax 0 [1, 7, 8] (Ao (Bd Ep rfl rfl rfl) (hd 24 rfl)) rfl <| zal 1 (Ao (A8 C5 rfl rfl rfl) (hd 25 rfl)) rfl <| Ax 2 [3, 6, 7, 8] (Ao (Bd Dl rfl rfl rfl) (hd 26 rfl)) rfl <| Ax 3 [6, 7, 8] (Ao (A8 Fl rfl rfl rfl) (hd 27 rfl)) rfl <| Ax 4 [5, 6, 7, 8] (Ao (Bd Dl rfl rfl rfl) (hd 28 rfl)) rfl <| Ax 5 [6, 7, 8] (Ao (A8 Fl rfl rfl rfl) (hd 29 rfl)) rfl ?_
      refine Bb 6 ?_ rfl (by kernel_rfl)
      refine A4 Try.f76 (Po x.natAbs y.natAbs (Uo (by assumption)) (by show (dg x).length < _; omega) (by show (dg y).length < _; omega)) rfl Try.func76 rfl rfl (Aa rfl (Aa rfl Ad)) (.cons .n (.cons .n .nil)) (hd 30 rfl) ?_ (fun ch hp => by simp at hp)
      rintro y hy; injection hy with hy; subst hy
      refine Bb 7 ?_ rfl (by kernel_rfl)
      refine A4 Try.f55 (Jb (decide (x < 0)) (x.natAbs - y.natAbs)) rfl Try.func55 rfl rfl (Aa rfl (Aa rfl Ad)) (.cons .b (.cons .n .nil)) (hd 31 rfl) ?_ (fun ch hp => by simp at hp)
      rintro y hy; injection hy with hy; subst hy
      refine Bb 8 ?_ rfl (by kernel_rfl)
      refine A7 (Ae rfl rfl rfl Ca rfl rfl (zlb rfl)) rfl <| Bi (by kernel_rfl) <| As ?_
      refine ⟨_, _, (.cons (ResV.cell Bt rfl rfl rfl rfl) .nil), (.a1 .b (.a1 .n .a0)), ?_⟩
      rw [Yp (by assumption) (by assumption)]
    · refine Am <| Af <| Be (n := 9) _ rfl B2 <| Ax 0 [1, 7, 8] (Ao (Bd Ep rfl rfl rfl) (hd 32 rfl)) rfl <| zal 1 (Ao (A8 C5 rfl rfl rfl) (hd 33 rfl)) rfl <| Ax 2 [3, 6, 7, 8] (Ao (Bd Dl rfl rfl rfl) (hd 34 rfl)) rfl <| Ax 3 [6, 7, 8] (Ao (A8 Fl rfl rfl rfl) (hd 35 rfl)) rfl <| Ax 4 [5, 6, 7, 8] (Ao (Bd Dl rfl rfl rfl) (hd 36 rfl)) rfl <| Ax 5 [6, 7, 8] (Ao (A8 Fl rfl rfl rfl) (hd 37 rfl)) rfl ?_
      refine Bb 6 ?_ rfl (by kernel_rfl)
      refine A4 Try.f76 (Po y.natAbs x.natAbs (Adi (by assumption)) (by show (dg y).length < _; omega) (by show (dg x).length < _; omega)) rfl Try.func76 rfl rfl (Aa rfl (Aa rfl Ad)) (.cons .n (.cons .n .nil)) (hd 38 rfl) ?_ (fun ch hp => by simp at hp)
      rintro y hy; injection hy with hy; subst hy
      refine Bb 7 ?_ rfl (by kernel_rfl)
      refine A4 Try.f55 (Jb (decide (y < 0)) (y.natAbs - x.natAbs)) rfl Try.func55 rfl rfl (Aa rfl (Aa rfl Ad)) (.cons .b (.cons .n .nil)) (hd 39 rfl) ?_ (fun ch hp => by simp at hp)
      rintro y hy; injection hy with hy; subst hy
      refine Bb 8 ?_ rfl (by kernel_rfl)
      refine A7 (Ae rfl rfl rfl Ca rfl rfl (zlb rfl)) rfl <| Bi (by kernel_rfl) <| As ?_
      refine ⟨_, _, (.cons (ResV.cell Bt rfl rfl rfl rfl) .nil), (.a1 .b (.a1 .n .a0)), ?_⟩
      rw [Yo (by assumption) (by assumption)]

theorem Kr (x y : Int) (hx : (dg x).length < 549755813888) (hy : (dg y).length < 549755813888) : Spec Try.prog 30 [.a [.b (decide (x < 0)), .n false .u64 (dg x)], .a [.b (decide (y < 0)), .n false .u64 (dg y)]] (fun o => o = .ret (.a [.b (decide ((x - y) < 0)), .n false .u64 (dg (x - y))])) := by
  refine Az [(0, .a [.b (decide (x < 0)), .n false .u64 (dg x)]), (1, .a [.b (decide (y < 0)), .n false .u64 (dg y)])] rfl Try.func30 rfl (zlb rfl) fun Γ hN hds hL hR => ?_
  have hd := B5 9 hN
  refine zsr <| Ay (Br (id := 0) (n := 2) rfl rfl rfl (by decide) rfl) (hd 2 rfl) <| Ay (Br (id := 1) (n := 2) rfl rfl rfl (by decide) rfl) (hd 3 rfl) <| Ay (An (id := 2) Bx (by decide) rfl (by decide) rfl) (hd 4 rfl) <| Ab <| Af <| Be (n := 5) _ rfl B2 <| zal 0 (Ao (Ah Bt rfl rfl rfl rfl) (hd 5 rfl)) rfl <| Ax 1 [2, 3, 4] (Ao (Ah Bt rfl rfl rfl rfl) (hd 6 rfl)) rfl ?_
  refine Bb 2 ?_ rfl (by kernel_rfl)
  refine A4 Try.f59 (Ado y) rfl Try.func59 rfl rfl (Aa rfl Ad) (.cons (.a1 .b (.a1 .n .a0)) .nil) (hd 7 rfl) ?_ (fun ch hp => by simp at hp)
  rintro y hy; injection hy with hy; subst hy
  refine Bb 3 ?_ rfl (by kernel_rfl)
  refine A4 Try.f54 (Yd x (-y) hx (by unfold dg; rw [Int.natAbs_neg]; exact hy)) rfl Try.func54 rfl rfl (Aa rfl (Aa rfl Ad)) (.cons (.a1 .b (.a1 .n .a0)) (.cons (.a1 .b (.a1 .n .a0)) .nil)) (hd 8 rfl) ?_ (fun ch hp => by simp at hp)
  rintro y hy; injection hy with hy; subst hy
  refine Bb 4 ?_ rfl (by kernel_rfl)
  refine A7 (Ae rfl rfl rfl Ca rfl rfl (zlb rfl)) rfl <| Bi (by kernel_rfl) <| As ?_
  refine ⟨_, _, (.cons (ResV.cell Bt rfl rfl rfl rfl) .nil), (.a1 .b (.a1 .n .a0)), ?_⟩
  rw [Int.sub_eq_add_neg]

theorem Lm (x y : Int) (hx : (dg x).length < 549755813888) (hy : (dg y).length < 549755813888) : Spec Try.prog 31 [.a [.b (decide (x < 0)), .n false .u64 (dg x)], .a [.b (decide (y < 0)), .n false .u64 (dg y)]] (fun o => o = .ret (.a [.b (decide ((x * y) < 0)), .n false .u64 (dg (x * y))])) := by
  refine Az [(0, .a [.b (decide (x < 0)), .n false .u64 (dg x)]), (1, .a [.b (decide (y < 0)), .n false .u64 (dg y)])] rfl Try.func31 rfl (zlb rfl) fun Γ hN hds hL hR => ?_
  have hd := B5 16 hN
  refine zsr <| Ay (Br (id := 0) (n := 2) rfl rfl rfl (by decide) rfl) (hd 2 rfl) <| Ay (Br (id := 1) (n := 2) rfl rfl rfl (by decide) rfl) (hd 3 rfl) <| Ay (An (id := 2) Bx (by decide) rfl (by decide) rfl) (hd 4 rfl) <| Ab <| Af <| Be (n := 12) _ rfl B2 <| Ax 0 [1, 4, 10, 11] (Ao (Bd Ep rfl rfl rfl) (hd 5 rfl)) rfl <| Ax 1 [4, 10, 11] (Ao (A8 C5 rfl rfl rfl) (hd 6 rfl)) rfl <| Ax 2 [3, 4, 10, 11] (Ao (Bd Ep rfl rfl rfl) (hd 7 rfl)) rfl <| Ax 3 [4, 10, 11] (Ao (A8 C5 rfl rfl rfl) (hd 8 rfl)) rfl <| zal 4 (Ao (Im Qo rfl rfl) (hd 9 rfl)) rfl ?_; refine Ax 5 [6, 9, 10, 11] (Ao (Bd Dl rfl rfl rfl) (hd 10 rfl)) rfl <| Ax 6 [9, 10, 11] (Ao (A8 Fl rfl rfl rfl) (hd 11 rfl)) rfl <| Ax 7 [8, 9, 10, 11] (Ao (Bd Dl rfl rfl rfl) (hd 12 rfl)) rfl <| Ax 8 [9, 10, 11] (Ao (A8 Fl rfl rfl rfl) (hd 13 rfl)) rfl ?_
  refine Bb 9 ?_ rfl (by kernel_rfl)
  refine A4 Try.f60 (Abz x.natAbs y.natAbs hx hy) rfl Try.func60 rfl rfl (Aa rfl (Aa rfl Ad)) (.cons .n (.cons .n .nil)) (hd 14 rfl) ?_ (fun ch hp => by simp at hp)
  rintro y hy; injection hy with hy; subst hy
  refine Bb 10 ?_ rfl (by kernel_rfl)
  refine A4 Try.f55 (Jb (!(decide (x < 0) == decide (y < 0))) (x.natAbs * y.natAbs)) rfl Try.func55 rfl rfl (Aa rfl (Aa rfl Ad)) (.cons .b (.cons .n .nil)) (hd 15 rfl) ?_ (fun ch hp => by simp at hp)
  rintro y hy; injection hy with hy; subst hy
  refine Bb 11 ?_ rfl (by kernel_rfl)
  refine A7 (Ae rfl rfl rfl Ca rfl rfl (zlb rfl)) rfl <| Bi (by kernel_rfl) <| As ?_
  refine ⟨_, _, (.cons (ResV.cell Bt rfl rfl rfl rfl) .nil), (.a1 .b (.a1 .n .a0)), ?_⟩
  rw [Afv]

theorem H3 (v : Int) : Spec Try.prog 11 [.a [.b (decide (v < 0)), .n false .u64 (dg v)]] (fun o => o = .ret (.i .i64 (Cb v))) := by
  refine Az [(0, .a [.b (decide (v < 0)), .n false .u64 (dg v)])] rfl Try.func11 rfl (zlb rfl) fun Γ hN hds hL hR => ?_
  have hd := B5 8 hN
  have hc := F4 (x := v)
  have hz := Aal (v := v)
  refine zsr <| Ay (Br (id := 0) (n := 2) rfl rfl rfl (by decide) rfl) (hd 1 rfl) <| zas rfl (hd 2 rfl) <| Ab <| Af <| zsr <| Ac (Bd Ep rfl rfl rfl) (hd 3 rfl) <| Ac (A8 C5 rfl rfl rfl) (hd 4 rfl) <| Ab ?_
  refine Bu rfl (fun h1 => ?_) (fun h1 => ?_)
  · refine zsr <| zas rfl (hd 2 rfl) <| Ab <| As ?_
    refine ⟨_, _, (.cons rfl .nil), .i, ?_⟩
    rcases hc with ⟨h, e⟩ | ⟨h, e⟩ | ⟨h, e⟩
    · rw [e]
    · omega
    · omega
  · refine Am <| Af <| zsr <| Ac (Bd Dl rfl rfl rfl) (hd 5 rfl) <| Ac (A8 Fl rfl rfl rfl) (hd 6 rfl) ?_
    refine Aj Try.f46 (Qj (dg v)) rfl Try.func46 rfl rfl (Aa rfl Ad) (.cons .n .nil) (hd 7 rfl) ?_ (fun ch hp => by simp at hp)
    rintro _ ⟨⟩; refine Ab ?_
    refine Bu rfl (fun h2 => ?_) (fun h2 => ?_)
    · refine zsr <| zas rfl (hd 2 rfl) <| Ab <| As ?_
      refine ⟨_, _, (.cons rfl .nil), .i, ?_⟩
      rcases hc with ⟨h, e⟩ | ⟨h, e⟩ | ⟨h, e⟩
      · omega
      · rw [e]
      · omega
    · refine Am <| zsr <| zas rfl (hd 2 rfl) <| Ab <| As ?_
      refine ⟨_, _, (.cons rfl .nil), .i, ?_⟩
      rcases hc with ⟨h, e⟩ | ⟨h, e⟩ | ⟨h, e⟩
      · omega
      · omega
      · rw [e]

theorem Aez (v : Int) (hl : (dg v).length < 4294967296) : Spec Try.prog 45 [.a [.b (decide (v < 0)), .n false .u64 (dg v)], .b (decide (v < 0)), .n false .u64 (lm v)] (fun o => o = .ret (.b true)) := by
  have h := Aas (decide (v < 0)) (dg v) hl
  rw [Z1] at h
  exact h

theorem J3 (v : Int) (h : Bm v ≤ 67108864) : Spec Try.prog 10 [.a [.b (decide (v < 0)), .n false .u64 (lm v)], .i .i64 0, .a [.b (decide (v < 0)), .n false .u64 (dg v)], .i .i64 0] (fun o => o = .ret (.b true)) := by
  refine Az [(0, .a [.b (decide (v < 0)), .n false .u64 (lm v)]), (1, .i .i64 0), (2, .a [.b (decide (v < 0)), .n false .u64 (dg v)]), (3, .i .i64 0)] rfl Try.func10 rfl (zlb rfl) fun Γ hN hds hL hR => ?_
  have hd := B5 45 hN
  have hl := Md h
  refine zsr <| Ay (Br (id := 0) (n := 2) rfl rfl rfl (by decide) rfl) (hd 4 rfl) <| Ay (Br (id := 1) (n := 2) rfl rfl rfl (by decide) rfl) (hd 6 rfl) <| zas rfl (hd 8 rfl) <| Ab <| Af <| zsr <| zmv rfl (hd 9 rfl) <| Ac (Ft (Dy rfl rfl) rfl) (hd 10 rfl) <| zmv rfl (hd 11 rfl) <| Bn 11 rfl rfl (Bd Dl rfl rfl rfl) (hd 12 rfl) ?_; refine Bn 11 rfl rfl (A8 Fl rfl rfl rfl) (hd 13 rfl) ?_
  refine Eb Try.f9 11 rfl rfl (U8 v (by omega)) rfl Try.func9 rfl rfl (Aa rfl Ad) (.cons .n .nil) (hd 14 rfl) ?_ (fun ch hp => by simp at hp)
  rintro _ ⟨⟩; refine Bn 11 rfl rfl (Cd (C0 rfl rfl) (by omega)) (hd 15 rfl) <| Ac (Cg rfl rfl) (hd 16 rfl) <| Ab <| Bl rfl <| Am <| Af <| zsr <| zmv rfl (hd 17 rfl) <| Ac (Cd (Cm rfl rfl) (fun h => h rfl)) (hd 18 rfl) <| Ab <| Bl rfl <| Am ?_; refine zsr <| zmv rfl (hd 34 rfl) ?_
  refine Aj Try.f44 (Zs 0) rfl Try.func44 rfl rfl (Aa rfl Ad) (.cons .i .nil) (hd 35 rfl) ?_ (fun ch hp => by simp at hp)
  rintro _ ⟨⟩; refine Ac (Ft (Dy rfl rfl) rfl) (hd 36 rfl) <| zmv rfl (hd 37 rfl) <| Bn 37 rfl rfl (Ah Bt rfl rfl rfl rfl) (hd 38 rfl) <| Bn 37 rfl rfl (Bd Cf rfl rfl rfl) (hd 39 rfl) <| Bn 37 rfl rfl (A8 C5 rfl rfl rfl) (hd 40 rfl) <| Bn 37 rfl rfl (Bd Bp rfl rfl rfl) (hd 41 rfl) <| Bn 37 rfl rfl (A8 Ce rfl rfl rfl) (hd 42 rfl) ?_
  refine Eb Try.f45 37 rfl rfl (Aez v (by omega)) rfl Try.func45 rfl rfl (Aa rfl (Aa rfl (Aa rfl Ad))) (.cons (.a1 .b (.a1 .n .a0)) (.cons .b (.cons .n .nil))) (hd 43 rfl) ?_ (fun ch hp => by simp at hp)
  rintro _ ⟨⟩; refine Ac (Cg rfl rfl) (hd 44 rfl) <| zas rfl (hd 8 rfl) <| Ab <| As ?_
  refine ⟨_, _, (.cons rfl .nil), .b, ?_⟩
  exact rfl

theorem U0 (v f : Int) (h : f ≠ 0) : Spec Try.prog 10 [.a [.b false, .n false .u64 []], .i .i64 f, .a [.b (decide (v < 0)), .n false .u64 (dg v)], .i .i64 f] (fun o => o = .ret (.b true)) := by
  refine Az [(0, .a [.b false, .n false .u64 []]), (1, .i .i64 f), (2, .a [.b (decide (v < 0)), .n false .u64 (dg v)]), (3, .i .i64 f)] rfl Try.func10 rfl (zlb rfl) fun Γ hN hds hL hR => ?_
  have hd := B5 45 hN
  refine zsr <| Ay (Br (id := 0) (n := 2) rfl rfl rfl (by decide) rfl) (hd 4 rfl) <| Ay (Br (id := 1) (n := 2) rfl rfl rfl (by decide) rfl) (hd 6 rfl) <| zas rfl (hd 8 rfl) <| Ab <| Af <| zsr <| zmv rfl (hd 9 rfl) <| Ac (Cd (Dy rfl rfl) h) (hd 10 rfl) <| zmv rfl (hd 11 rfl) <| B6 11 rfl rfl rfl (hd 12 rfl) ?_; refine B6 11 rfl rfl rfl (hd 13 rfl) <| B6 11 rfl rfl rfl (hd 14 rfl) <| B6 11 rfl rfl rfl (hd 15 rfl) <| Ac (B9 rfl rfl) (hd 16 rfl) <| Ab <| Bl rfl <| Am <| Af <| zsr <| zmv rfl (hd 17 rfl) <| Ac (Ft (Cm rfl rfl) h) (hd 18 rfl) <| Ab ?_; refine Dm rfl <| zsr <| zmv rfl (hd 19 rfl) ?_
  refine Aj Try.f44 (Zs f) rfl Try.func44 rfl rfl (Aa rfl Ad) (.cons .i .nil) (hd 20 rfl) ?_ (fun ch hp => by simp at hp)
  rintro _ ⟨⟩; refine zmv rfl (hd 21 rfl) <| Ac (Ft (Dy rfl rfl) rfl) (hd 22 rfl) <| zmv rfl (hd 23 rfl) <| Bn 23 rfl rfl (Bd Cf rfl rfl rfl) (hd 24 rfl) <| Bn 23 rfl rfl (A8 C5 rfl rfl rfl) (hd 25 rfl) <| Bn 23 rfl rfl (Fn rfl) (hd 26 rfl) <| Ac (Cg rfl rfl) (hd 27 rfl) <| zmv rfl (hd 28 rfl) <| Bn 28 rfl rfl (Bd Bp rfl rfl rfl) (hd 29 rfl) <| Bn 28 rfl rfl (A8 Ce rfl rfl rfl) (hd 30 rfl) <| Bn 28 rfl rfl (Av Bo rfl) (hd 31 rfl) <| Bn 28 rfl rfl (Ft (Dy rfl rfl) rfl) (hd 32 rfl) <| Ac (Cg rfl rfl) (hd 33 rfl) ?_; refine zas rfl (hd 8 rfl) <| Ab <| As ?_
  refine ⟨_, _, (.cons rfl .nil), .b, ?_⟩
  exact rfl


theorem Nq (v : Int) (h : inI v) : Spec Try.prog 28 [.i .i64 v] (fun o => o = .ret (.a [.b (decide (v < 0)), .n false .u64 (dg v)])) := by
  have h' : -9223372036854775808 ≤ v ∧ v < 9223372036854775808 := h
  by_cases h0 : v < 0
  · have hu : A3 [-v] := H8 (by omega) (by omega)
    have h1 := Vb v h0 h'.1
    have e := Ym (s := true) hu
    rw [e, I3 (s := true) (v := v) hu (by simp [sv, vl])] at h1
    have e2 : sv true [-v] = v := by simp [sv, vl]
    rw [e2] at h1
    exact h1
  · have hu : A3 [v] := H8 (by omega) (by omega)
    have h1 := Va v (by omega) h'.2
    have e := Ym (s := false) hu
    rw [e, I3 (s := false) (v := v) hu (by simp [sv, vl])] at h1
    have e2 : sv false [v] = v := by simp [sv, vl]
    rw [e2] at h1
    exact h1

theorem Yj (v : Int) : SpecM Try.prog 63 [.i .u64 v] [] (fun o G => o = .ret (.o 0 0 0 (fl v).length) ∧ G = [⟨79, 1, 0, true, A2 .u64 (fl v)⟩]) := by
  refine Cy [(0, .i .u64 v)] rfl Try.func63 rfl (zlb rfl) fun Γ hN hds hL hR => ?_
  have hd := B5 7 hN
  refine zsr <| zas rfl (hd 2 rfl) <| Ab <| Af <| zsr <| zmv rfl (hd 3 rfl) <| Ac (Dy rfl rfl) (hd 4 rfl) <| Ab ?_
  refine Bu rfl (fun h1 => ?_) (fun h1 => ?_)
  · refine zsr <| zas rfl (hd 2 rfl) <| Ab <| Ol 2 79 1 rfl rfl <| As ?_
    refine ⟨[0], _, (.o 0 0 0 0), (.cons rfl .nil), rfl, rfl, (by decide), (by first | exact Al Bc Ar | exact Al rfl Ar), ?_⟩
    unfold fl
    rw [if_pos (by assumption)]
    exact ⟨rfl, rfl⟩
  · refine Am <| zsr <| zmv rfl (hd 5 rfl) <| Ay (Hs (id := 0) (xs := [.tmp 5]) Ky rfl (Aa rfl Ad) rfl (F3 rfl) (by decide) rfl) (hd 6 rfl) <| zas rfl (hd 2 rfl) <| Ab <| As ?_
    refine ⟨[0], _, (.o 0 0 0 1), (.cons rfl .nil), rfl, rfl, (by decide), (by first | exact Al Bc Ar | exact Al rfl Ar), ?_⟩
    unfold fl
    rw [if_neg (by assumption)]
    exact ⟨rfl, rfl⟩

theorem Agp (v : Int) (h0 : -9223372036854775808 ≤ v) (h1 : v < 9223372036854775808) : SpecM Try.prog 35 [.i .i64 v] [] (fun o G => o = .ret (.a [.b (decide (v < 0)), .o 0 0 0 (lm v).length]) ∧ G = [⟨79, 1, 0, true, A2 .u64 (lm v)⟩]) := by
  refine Cy [(0, .i .i64 v)] rfl Try.func35 rfl (zlb rfl) fun Γ hN hds hL hR => ?_
  have hd := B5 14 hN
  have hlm := Jw (v := v) (by omega)
  refine zsr <| Ay (An (id := 0) At (by decide) rfl (by decide) rfl) (hd 2 rfl) <| Ab <| Af <| zsr <| zmv rfl (hd 3 rfl) <| Ac (Ch rfl rfl) (hd 4 rfl) <| Ab ?_
  refine Bu rfl (fun h1 => ?_) (fun h1 => ?_)
  · refine zsr <| zmv rfl (hd 5 rfl) <| Ac (D1 Mt H7 rfl (r := v + 18446744073709551616) (H4 (by omega) (by omega) (by omega))) (hd 6 rfl) <| Ac (S8 rfl (r := -v) (H4 (by omega) (by omega) (by omega))) (hd 7 rfl) ?_
    refine C9 Try.f63 (Yj (-v)) (fun o G ⟨_, h⟩ => h ▸ Al Bc Ar) rfl Try.func63 rfl rfl (Aa rfl Ad) (.cons .i .nil) (hd 8 rfl) ?_ (fun ch G hp => by simp at hp)
    rintro y G ⟨hy, rfl⟩; injection hy with hy; subst hy
    show JO _ _ _ _ ((8, .o 1 0 0 (fl (-v)).length) :: _) _ _
    refine Ac (B3 (is := [0, 1]) (xs := [.const (.bool true), .tmp 8]) At Dx rfl (Aa rfl (Aa rfl Ad)) rfl (by first | (simp [Ck, cellsV]; done) | (simp [Ck, cellsV, old]; done)) (Cj rfl) rfl) (hd 9 rfl) <| A1 (Ae rfl rfl rfl Au rfl rfl (zlb rfl)) <| Ab <| As ?_
    refine ⟨[1], _, (.a [.b true, .o 0 0 0 (fl (-v)).length]), (.cons (ResV.cell Aq rfl rfl rfl rfl) .nil), rfl, rfl, (by decide), (by first | exact Al Bc Ar | exact Al rfl Ar), ?_⟩
    rw [hlm, show ((v.natAbs : Nat) : Int) = -v by omega, decide_eq_true (by assumption)]
    exact ⟨rfl, rfl⟩
  · refine Am <| zsr <| zmv rfl (hd 10 rfl) <| Ac (D1 Mt H7 rfl (Bh (by omega) (by omega))) (hd 11 rfl) ?_
    refine C9 Try.f63 (Yj v) (fun o G ⟨_, h⟩ => h ▸ Al Bc Ar) rfl Try.func63 rfl rfl (Aa rfl Ad) (.cons .i .nil) (hd 12 rfl) ?_ (fun ch G hp => by simp at hp)
    rintro y G ⟨hy, rfl⟩; injection hy with hy; subst hy
    show JO _ _ _ _ ((12, .o 1 0 0 (fl v).length) :: _) _ _
    refine Ac (B3 (is := [1]) (xs := [.tmp 12]) At F1 rfl (Aa rfl Ad) rfl (by first | (simp [Ck, cellsV]; done) | (simp [Ck, cellsV, old]; done)) (Cj rfl) rfl) (hd 13 rfl) <| A1 (Ae rfl rfl rfl Au rfl rfl (zlb rfl)) <| Ab <| As ?_
    refine ⟨[1], _, (.a [.b false, .o 0 0 0 (fl v).length]), (.cons (ResV.cell Aq rfl rfl rfl rfl) .nil), rfl, rfl, (by decide), (by first | exact Al Bc Ar | exact Al rfl Ar), ?_⟩
    rw [hlm, show ((v.natAbs : Nat) : Int) = v by omega, decide_eq_false (by assumption)]
    exact ⟨rfl, rfl⟩

theorem Ae4 (x : Nat) (hx : x < 18446744073709551616) : Spec Try.prog 79 [.i .u64 (x : Int)] (fun o => o = .ret (.i .i64 ((64 - bl 64 x : Nat) : Int))) := by
  refine Az [(0, .i .u64 (x : Int))] rfl Try.func79 rfl (zlb rfl) fun Γ hN hds hL hR => ?_
  have hd := B5 6 hN
  have hb := Uv 64 x
  refine zsr <| zas rfl (hd 2 rfl) <| Ab <| zsr <| zmv rfl (hd 3 rfl) ?_
  refine Aj Try.f62 (U9 x hx) rfl Try.func62 rfl rfl (Aa rfl Ad) (.cons .i .nil) (hd 4 rfl) ?_ (fun ch hp => by simp at hp)
  rintro _ ⟨⟩; refine Ac (B1 rfl rfl (r := ((64 - bl 64 x : Nat) : Int)) (by rw [Ap (by omega) (by omega)]; omega)) (hd 5 rfl) <| zas rfl (hd 2 rfl) <| Ab <| As ?_
  refine ⟨_, _, (.cons rfl .nil), .i, ?_⟩
  exact rfl

theorem O1 (hi lo y : Int) (hh0 : 0 ≤ hi) (hhy : hi < y) (hl0 : 0 ≤ lo) (hl1 : lo < 18446744073709551616) (hy1 : y < 18446744073709551616) : Spec Try.prog 78 [.i .u64 hi, .i .u64 lo, .i .u64 y] (fun o => o = .ret (.t [.i .u64 ((hi * 18446744073709551616 + lo) / y), .i .u64 ((hi * 18446744073709551616 + lo) % y)])) := by
  refine Az [(0, .i .u64 hi), (1, .i .u64 lo), (2, .i .u64 y)] rfl Try.func78 rfl (zlb rfl) fun Γ hN hds hL hR => ?_
  have hd := B5 135 hN
  obtain ⟨s, hs⟩ : ∃ s : Nat, 64 - bl 64 y.toNat = s := ⟨_, rfl⟩
  have hz := S6 (show 0 < y by omega) hy1
  rw [hs] at hz
  obtain ⟨s64, y0, y1⟩ := hz
  have hD := Ws s64 hh0 hhy hl0 hl1 y0 y1
  dsimp only at hD
  obtain ⟨Y, hY⟩ : ∃ Y, y * 2 ^ s = Y := ⟨_, rfl⟩
  obtain ⟨U, hU⟩ : ∃ U, hi * 2 ^ s + hiS lo s = U := ⟨_, rfl⟩
  obtain ⟨L, hLo⟩ : ∃ L, loS lo s = L := ⟨_, rfl⟩
  have hLb := @K9 lo s
  rw [hLo] at hLb
  rw [hY] at y0 y1
  rw [hY, hU, hLo] at hD
  obtain ⟨N1, hN1⟩ : ∃ N, U * 4294967296 + L / 4294967296 = N := ⟨_, rfl⟩
  rw [hN1] at hD
  obtain ⟨R1, hR1⟩ : ∃ N, N1 % Y = N := ⟨_, rfl⟩
  rw [hR1] at hD
  obtain ⟨N2, hN2⟩ : ∃ N, R1 * 4294967296 + L % 4294967296 = N := ⟨_, rfl⟩
  rw [hN2] at hD
  obtain ⟨hP1, hP2, hE1, hE2⟩ := hD
  have hU0 := hP1.u0
  have hU1 := hP1.lt
  have hp2 := Fk s
  have hhs : 0 ≤ hi * 2 ^ s := Int.mul_nonneg hh0 (Int.le_of_lt hp2)
  have hhb := Lc (s := s) (Nat.le_of_lt s64) hl0 hl1
  have hq1l := hP1.q_lt
  have hq1n := hP1.q_nn
  have hq2l := hP2.q_lt
  have hq2n := hP2.q_nn
  have hfi1 := hP1.first
  have hfi2 := hP2.first
  have hr20 := hP2.u0
  have hr21 := hP2.lt
  have hrr := hP2.rest_lt
  refine zsr <| zas rfl (hd 6 rfl) <| zas rfl (hd 7 rfl) <| Ab <| Af <| zsr <| zmv rfl (hd 19 rfl) <| Ac (Cd (Dy rfl rfl) (by omega)) (hd 20 rfl) <| Ab <| Bl rfl <| Am ?_; refine Af <| zsr <| zmv rfl (hd 22 rfl) <| zmv rfl (hd 23 rfl) <| Ac (Cd (S9 rfl rfl) (by omega)) (hd 24 rfl) <| Ab <| Bl rfl <| Am <| Af <| zsr <| zmv rfl (hd 26 rfl) ?_; refine Ac (Dy rfl rfl) (hd 27 rfl) <| Ab ?_
  refine Bu rfl (fun h3 => ?_) (fun h3 => ?_)
  · obtain rfl : hi = 0 := h3
    refine Af <| Be (n := 8) _ rfl B2 <| zal 0 (Ao (A0 rfl) (hd 28 rfl)) rfl <| zal 1 (Ao (A0 rfl) (hd 29 rfl)) rfl <| zal 2 (Ao (Fx rfl rfl (by omega) (r := lo / y) (L4 hl0 hl1 (by omega))) (hd 30 rfl)) rfl <| zal 3 (Ao (A0 rfl) (hd 31 rfl)) rfl <| zal 4 (Ao (A0 rfl) (hd 32 rfl)) rfl <| zal 5 (Ao (B0 (Hq rfl rfl (by omega) rfl) (show V.i .u64 _ = V.i .u64 (lo % y) from congrArg (V.i .u64) (Int.tmod_eq_emod_of_nonneg hl0))) (hd 33 rfl)) rfl <| zal 6 (Ao (Cr rfl) (hd 6 rfl)) rfl <| zal 7 (Ao (Cr rfl) (hd 7 rfl)) rfl <| Bi (by kernel_rfl) <| As ?_
    refine ⟨_, _, (.cons rfl (.cons rfl .nil)), (.t1 .i (.t1 .i .t0)), ?_⟩
    rw [Int.zero_mul, Int.zero_add]
  · refine Am <| zsr <| Ac (B0 (A0 rfl) (show V.i .u64 _ = V.i .u64 ((y.toNat : Int)) from congrArg (V.i .u64) (Int.toNat_of_nonneg (by omega)).symm)) (hd 34 rfl) ?_
    refine Aj Try.f79 (Ae4 y.toNat (by omega)) rfl Try.func79 rfl rfl (Aa rfl Ad) (.cons .i .nil) (hd 35 rfl) ?_ (fun ch hp => by simp at hp)
    rintro _ ⟨⟩; refine Ac (D1 Mt Ru rfl (r := (s : Int)) (by rw [hs]; exact Bh (by omega) (by omega))) (hd 36 rfl) <| zas rfl (hd 8 rfl) <| Ab <| zsr <| zmv rfl (hd 37 rfl) <| zmv rfl (hd 38 rfl) <| Ac (B0 (Gx rfl rfl (by omega) rfl) (show V.i .u64 _ = V.i .u64 (Y) from congrArg (V.i .u64) (Y2 (by omega) hY (by omega) (by omega)))) (hd 39 rfl) <| zas rfl (hd 2 rfl) <| Ab <| zsr <| zmv rfl (hd 40 rfl) ?_; refine Ac (B0 (E4 rfl rfl (by omega) rfl) (show V.i .u64 _ = V.i .u64 (Y / 4294967296) from congrArg (V.i .u64) (N5 (by omega)))) (hd 41 rfl) <| zas rfl (hd 9 rfl) <| Ab <| zsr <| zmv rfl (hd 42 rfl) <| Ac (B0 (In (by simp) rfl rfl rfl) (show V.i .u64 _ = V.i .u64 (Y % 4294967296) from congrArg (V.i .u64) (Uy (by omega) (by omega)))) (hd 43 rfl) <| zas rfl (hd 10 rfl) <| Ab <| zsr <| zmv rfl (hd 44 rfl) <| zmv rfl (hd 45 rfl) ?_; refine Ac (B0 (Gx rfl rfl (by omega) rfl) (show V.i .u64 _ = V.i .u64 (loS hi s) from congrArg (V.i .u64) (Hw (by omega)))) (hd 46 rfl) <| zmv rfl (hd 47 rfl) <| zmv rfl (hd 48 rfl) <| Ac (B1 rfl rfl (r := ((64 - s : Nat) : Int)) (by rw [Bh (by omega) (by omega)]; omega)) (hd 49 rfl) <| Ac (B0 (E4 rfl rfl (by omega) rfl) (show V.i .u64 _ = V.i .u64 (lo / 2 ^ (64 - s)) from congrArg (V.i .u64) (Kb (by omega)))) (hd 50 rfl) <| Ac (B0 (In (by simp) rfl rfl rfl) (show V.i .u64 _ = V.i .u64 (U) from congrArg (V.i .u64) ((Aei (by omega) hhs (by omega) hl0 hl1 hh0).trans hU))) (hd 51 rfl) <| zas rfl (hd 11 rfl) <| Ab <| zsr <| zmv rfl (hd 52 rfl) <| zmv rfl (hd 53 rfl) <| Ac (B0 (Gx rfl rfl (by omega) rfl) (show V.i .u64 _ = V.i .u64 (L) from congrArg (V.i .u64) ((Hw (by omega)).trans hLo))) (hd 54 rfl) ?_; refine zas rfl (hd 12 rfl) <| Ab <| zsr <| zmv rfl (hd 55 rfl) <| Ac (B0 (E4 rfl rfl (by omega) rfl) (show V.i .u64 _ = V.i .u64 (L / 4294967296) from congrArg (V.i .u64) (N5 (by omega)))) (hd 56 rfl) <| zas rfl (hd 13 rfl) <| Ab <| zsr <| zmv rfl (hd 57 rfl) <| Ac (B0 (In (by simp) rfl rfl rfl) (show V.i .u64 _ = V.i .u64 (L % 4294967296) from congrArg (V.i .u64) (Uy (by omega) (by omega)))) (hd 58 rfl) <| zas rfl (hd 14 rfl) ?_; refine Ab <| zsr <| zmv rfl (hd 59 rfl) <| zmv rfl (hd 60 rfl) <| Ac (Fx rfl rfl (by omega) (r := U / (Y / 4294967296)) (L4 (by omega) (by omega) (by omega))) (hd 61 rfl) <| zas rfl (hd 15 rfl) <| Ab <| zsr <| zmv rfl (hd 62 rfl) <| zmv rfl (hd 63 rfl) <| zmv rfl (hd 64 rfl) ?_; refine Ac (Dv rfl rfl rfl) (hd 65 rfl) <| Ac (B0 (B1 rfl rfl rfl) (show V.i .u64 _ = V.i .u64 (U - U / (Y / 4294967296) * (Y / 4294967296)) from congrArg (V.i .u64) (R4 hfi1.1.2.2.2 (by omega)))) (hd 66 rfl) <| zas rfl (hd 16 rfl) <| Ab ?_
    refine Cu (G := Unit) (fun _ => True) (fun _ => [(15, .i .u64 (N1 / Y)), (16, .u), (67, .u), (68, .u), (69, .u), (70, .u), (71, .u), (72, .u), (73, .u), (74, .u), (75, .u), (76, .u), (77, .u), (78, .u), (79, .u), (80, .u), (81, .u), (82, .u), (83, .u), (84, .u), (85, .u)]) ?_ ?_
    · refine Aw ?_
      refine B4 (G := Int × Int) (fun g => Hf N1 Y U g.1 g.2 ∧ 0 ≤ g.1 ∧ g.2 < 4294967296) (fun g => [(15, .i .u64 g.1), (16, .i .u64 g.2), (67, .u), (68, .u), (69, .u), (70, .u), (71, .u), (72, .u), (73, .u), (74, .u), (75, .u), (76, .u), (77, .u), (78, .u), (79, .u), (80, .u), (81, .u), (82, .u), (83, .u), (84, .u), (85, .u)]) (fun _ => _) (fun g => g.1.toNat) (U / (Y / 4294967296), U - U / (Y / 4294967296) * (Y / 4294967296)) ?_ ?_ rfl ?_
      · exact ⟨hP1.first.1, hP1.first.2.1, hP1.first.2.2⟩
      · exact (.cons rfl (.cons rfl (.v9 (.v5 (.u (.u (.u (.u .nil))))))))
      · rintro ⟨q, r⟩ ⟨hf, hq0, hr1⟩
        dsimp only at hf hq0 hr1
        have hf4 := hf
        obtain ⟨he, hQ, hq1, hr0⟩ := hf4
        have hmb := Ik (m := 4294967295) hq0 (show 0 ≤ Y % 4294967296 by omega)
        refine Af <| zsr <| zmv rfl (hd 67 rfl) <| Ac (Eu rfl rfl) (hd 68 rfl) <| zmv rfl (hd 69 rfl) ?_
        refine Fo 69 rfl (fun h4 => ?_) (fun h4 => ?_)
        · refine B6 69 rfl rfl rfl (hd 70 rfl) <| B6 69 rfl rfl rfl (hd 71 rfl) <| B6 69 rfl rfl rfl (hd 72 rfl) <| B6 69 rfl rfl rfl (hd 73 rfl) <| B6 69 rfl rfl rfl (hd 74 rfl) <| B6 69 rfl rfl rfl (hd 75 rfl) <| B6 69 rfl rfl rfl (hd 76 rfl) <| B6 69 rfl rfl rfl (hd 77 rfl) <| Ac (Cg rfl rfl) (hd 78 rfl) <| Ab <| Dm rfl <| Am <| Aw ?_; refine Af ?_
          obtain ⟨hn1, hn2, hn3⟩ := hP1.next hf (by first | (left; omega) | (right; omega))
          refine Ag <| zmv rfl (hd 79 rfl) <| Ac (B1 rfl rfl (Bh (by first | omega | (dsimp only; omega)) (by first | omega | (dsimp only; omega)))) (hd 80 rfl) <| zas rfl (hd 15 rfl) <| Ab <| zsr <| zmv rfl (hd 81 rfl) <| zmv rfl (hd 82 rfl) <| Ac (A9 rfl rfl (Bh (by first | omega | (dsimp only; omega)) (by first | omega | (dsimp only; omega)))) (hd 83 rfl) <| zas rfl (hd 16 rfl) <| Ab <| Af ?_; refine Ag <| zmv rfl (hd 84 rfl) <| Ac (Eu rfl rfl) (hd 85 rfl) <| Ab ?_
          refine Bu rfl (fun h6 => ?_) (fun h6 => ?_)
          · refine By ?_
            refine ⟨(), ?_, rfl, Ba 43 rfl rfl ?_⟩
            · trivial
            · exact (.cons (by show some (V.i .u64 _) = some (V.i .u64 _); congr 2; first | exact hP1.over hn1 (by omega) (by omega) (by omega) | exact hP1.last hf (by omega)) (.v9 (.v9 .nil)))
          · refine Am ?_
            refine ⟨(q - 1, r + Y / 4294967296), ?_, ?_, rfl, Ba 43 rfl rfl ?_⟩
            · exact ⟨hn1, by show 0 ≤ q - 1; omega, by show r + Y / 4294967296 < 4294967296; omega⟩
            · show (q - 1).toNat < q.toNat
              omega
            · exact (.cons rfl (.cons rfl (.v9 (.v5 (.u (.u (.u (.u .nil))))))))
        · refine Bn 69 rfl rfl (A0 rfl) (hd 70 rfl) <| Bn 69 rfl rfl (A0 rfl) (hd 71 rfl) <| Bn 69 rfl rfl (Dv rfl rfl (Bh (by have := hmb (by omega) (by omega); dsimp only; omega) (by have := hmb (by omega) (by omega); dsimp only; omega))) (hd 72 rfl) <| Bn 69 rfl rfl (A0 rfl) (hd 73 rfl) <| Bn 69 rfl rfl (Dv rfl rfl (Bh (by first | omega | (dsimp only; omega)) (by first | omega | (dsimp only; omega)))) (hd 74 rfl) <| Bn 69 rfl rfl (A0 rfl) (hd 75 rfl) <| Bn 69 rfl rfl (A9 rfl rfl (Bh (by first | omega | (dsimp only; omega)) (by first | omega | (dsimp only; omega)))) (hd 76 rfl) <| Bn 69 rfl rfl (C0 rfl rfl) (hd 77 rfl) <| Ac (B9 rfl rfl) (hd 78 rfl) <| Ab ?_
          refine Bu rfl (fun h7 => ?_) (fun h7 => ?_)
          · refine Am <| Aw <| Af ?_
            obtain ⟨hn1, hn2, hn3⟩ := hP1.next hf (by first | (left; omega) | (right; omega))
            refine Ag <| zmv rfl (hd 79 rfl) <| Ac (B1 rfl rfl (Bh (by first | omega | (dsimp only; omega)) (by first | omega | (dsimp only; omega)))) (hd 80 rfl) <| zas rfl (hd 15 rfl) <| Ab <| zsr <| zmv rfl (hd 81 rfl) <| zmv rfl (hd 82 rfl) <| Ac (A9 rfl rfl (Bh (by first | omega | (dsimp only; omega)) (by first | omega | (dsimp only; omega)))) (hd 83 rfl) <| zas rfl (hd 16 rfl) <| Ab <| Af ?_; refine Ag <| zmv rfl (hd 84 rfl) <| Ac (Eu rfl rfl) (hd 85 rfl) <| Ab ?_
            refine Bu rfl (fun h8 => ?_) (fun h8 => ?_)
            · refine By ?_
              refine ⟨(), ?_, rfl, Ba 43 rfl rfl ?_⟩
              · trivial
              · exact (.cons (by show some (V.i .u64 _) = some (V.i .u64 _); congr 2; first | exact hP1.over hn1 (by omega) (by omega) (by omega) | exact hP1.last hf (by omega)) (.v9 (.v9 .nil)))
            · refine Am ?_
              refine ⟨(q - 1, r + Y / 4294967296), ?_, ?_, rfl, Ba 43 rfl rfl ?_⟩
              · exact ⟨hn1, by show 0 ≤ q - 1; omega, by show r + Y / 4294967296 < 4294967296; omega⟩
              · show (q - 1).toNat < q.toNat
                omega
              · exact (.cons rfl (.cons rfl (.v9 (.v5 (.u (.u (.u (.u .nil))))))))
          · refine By ?_
            refine ⟨(), ?_, rfl, Ba 34 rfl rfl ?_⟩
            · trivial
            · exact (.cons (by show some (V.i .u64 _) = some (V.i .u64 _); congr 2; first | exact hP1.over hn1 (by omega) (by omega) (by omega) | exact hP1.last hf (by omega)) (.v9 (.v9 .nil)))
    · rintro _ _; refine zsr <| zmv rfl (hd 86 rfl) <| Ac (Dv rfl rfl rfl) (hd 87 rfl) <| zmv rfl (hd 88 rfl) <| Ac (A9 rfl rfl rfl) (hd 89 rfl) <| zmv rfl (hd 90 rfl) <| zmv rfl (hd 91 rfl) <| Ac (Dv rfl rfl rfl) (hd 92 rfl) <| Ac (B0 (B1 rfl rfl rfl) (show V.i .u64 _ = V.i .u64 (R1) from congrArg (V.i .u64) (hP1.rest.trans hR1))) (hd 93 rfl) <| zas rfl (hd 17 rfl) <| Ab <| Af ?_; refine Ag <| zmv rfl (hd 94 rfl) <| zmv rfl (hd 95 rfl) <| Ac (Fx rfl rfl (by omega) (r := R1 / (Y / 4294967296)) (L4 (by omega) (by omega) (by omega))) (hd 96 rfl) <| zas rfl (hd 18 rfl) <| Ab <| zsr <| zmv rfl (hd 97 rfl) <| zmv rfl (hd 98 rfl) <| zmv rfl (hd 99 rfl) <| Ac (Dv rfl rfl rfl) (hd 100 rfl) <| Ac (B0 (B1 rfl rfl rfl) (show V.i .u64 _ = V.i .u64 (R1 - R1 / (Y / 4294967296) * (Y / 4294967296)) from congrArg (V.i .u64) (R4 hfi2.1.2.2.2 (by omega)))) (hd 101 rfl) ?_; refine zas rfl (hd 16 rfl) <| Ab ?_
      refine Cu (G := Unit) (fun _ => True) (fun _ => [(18, .i .u64 (N2 / Y)), (16, .u), (102, .u), (103, .u), (104, .u), (105, .u), (106, .u), (107, .u), (108, .u), (109, .u), (110, .u), (111, .u), (112, .u), (113, .u), (114, .u), (115, .u), (116, .u), (117, .u), (118, .u), (119, .u), (120, .u)]) ?_ ?_
      · refine Aw ?_
        refine B4 (G := Int × Int) (fun g => Hf N2 Y R1 g.1 g.2 ∧ 0 ≤ g.1 ∧ g.2 < 4294967296) (fun g => [(18, .i .u64 g.1), (16, .i .u64 g.2), (102, .u), (103, .u), (104, .u), (105, .u), (106, .u), (107, .u), (108, .u), (109, .u), (110, .u), (111, .u), (112, .u), (113, .u), (114, .u), (115, .u), (116, .u), (117, .u), (118, .u), (119, .u), (120, .u)]) (fun _ => _) (fun g => g.1.toNat) (R1 / (Y / 4294967296), R1 - R1 / (Y / 4294967296) * (Y / 4294967296)) ?_ ?_ rfl ?_
        · exact ⟨hP2.first.1, hP2.first.2.1, hP2.first.2.2⟩
        · exact (.cons rfl (.cons rfl (.v9 (.v5 (.u (.u (.u (.u .nil))))))))
        · rintro ⟨q, r⟩ ⟨hf, hq0, hr1⟩
          dsimp only at hf hq0 hr1
          have hf4 := hf
          obtain ⟨he, hQ, hq1, hr0⟩ := hf4
          have hmb := Ik (m := 4294967295) hq0 (show 0 ≤ Y % 4294967296 by omega)
          refine Af <| zsr <| zmv rfl (hd 102 rfl) <| Ac (Eu rfl rfl) (hd 103 rfl) <| zmv rfl (hd 104 rfl) ?_
          refine Fo 104 rfl (fun h9 => ?_) (fun h9 => ?_)
          · refine B6 104 rfl rfl rfl (hd 105 rfl) <| B6 104 rfl rfl rfl (hd 106 rfl) <| B6 104 rfl rfl rfl (hd 107 rfl) <| B6 104 rfl rfl rfl (hd 108 rfl) <| B6 104 rfl rfl rfl (hd 109 rfl) <| B6 104 rfl rfl rfl (hd 110 rfl) <| B6 104 rfl rfl rfl (hd 111 rfl) <| B6 104 rfl rfl rfl (hd 112 rfl) <| Ac (Cg rfl rfl) (hd 113 rfl) <| Ab <| Dm rfl <| Am <| Aw ?_; refine Af ?_
            obtain ⟨hn1, hn2, hn3⟩ := hP2.next hf (by first | (left; omega) | (right; omega))
            refine Ag <| zmv rfl (hd 114 rfl) <| Ac (B1 rfl rfl (Bh (by first | omega | (dsimp only; omega)) (by first | omega | (dsimp only; omega)))) (hd 115 rfl) <| zas rfl (hd 18 rfl) <| Ab <| zsr <| zmv rfl (hd 116 rfl) <| zmv rfl (hd 117 rfl) <| Ac (A9 rfl rfl (Bh (by first | omega | (dsimp only; omega)) (by first | omega | (dsimp only; omega)))) (hd 118 rfl) <| zas rfl (hd 16 rfl) <| Ab <| Af ?_; refine Ag <| zmv rfl (hd 119 rfl) <| Ac (Eu rfl rfl) (hd 120 rfl) <| Ab ?_
            refine Bu rfl (fun h11 => ?_) (fun h11 => ?_)
            · refine By ?_
              refine ⟨(), ?_, rfl, Ba 43 rfl rfl ?_⟩
              · trivial
              · exact (.cons (by show some (V.i .u64 _) = some (V.i .u64 _); congr 2; first | exact hP2.over hn1 (by omega) (by omega) (by omega) | exact hP2.last hf (by omega)) (.v9 (.v9 .nil)))
            · refine Am ?_
              refine ⟨(q - 1, r + Y / 4294967296), ?_, ?_, rfl, Ba 43 rfl rfl ?_⟩
              · exact ⟨hn1, by show 0 ≤ q - 1; omega, by show r + Y / 4294967296 < 4294967296; omega⟩
              · show (q - 1).toNat < q.toNat
                omega
              · exact (.cons rfl (.cons rfl (.v9 (.v5 (.u (.u (.u (.u .nil))))))))
          · refine Bn 104 rfl rfl (A0 rfl) (hd 105 rfl) <| Bn 104 rfl rfl (A0 rfl) (hd 106 rfl) <| Bn 104 rfl rfl (Dv rfl rfl (Bh (by have := hmb (by omega) (by omega); dsimp only; omega) (by have := hmb (by omega) (by omega); dsimp only; omega))) (hd 107 rfl) <| Bn 104 rfl rfl (A0 rfl) (hd 108 rfl) <| Bn 104 rfl rfl (Dv rfl rfl (Bh (by first | omega | (dsimp only; omega)) (by first | omega | (dsimp only; omega)))) (hd 109 rfl) <| Bn 104 rfl rfl (A0 rfl) (hd 110 rfl) <| Bn 104 rfl rfl (A9 rfl rfl (Bh (by first | omega | (dsimp only; omega)) (by first | omega | (dsimp only; omega)))) (hd 111 rfl) <| Bn 104 rfl rfl (C0 rfl rfl) (hd 112 rfl) <| Ac (B9 rfl rfl) (hd 113 rfl) <| Ab ?_
            refine Bu rfl (fun h12 => ?_) (fun h12 => ?_)
            · refine Am <| Aw <| Af ?_
              obtain ⟨hn1, hn2, hn3⟩ := hP2.next hf (by first | (left; omega) | (right; omega))
              refine Ag <| zmv rfl (hd 114 rfl) <| Ac (B1 rfl rfl (Bh (by first | omega | (dsimp only; omega)) (by first | omega | (dsimp only; omega)))) (hd 115 rfl) <| zas rfl (hd 18 rfl) <| Ab <| zsr <| zmv rfl (hd 116 rfl) <| zmv rfl (hd 117 rfl) <| Ac (A9 rfl rfl (Bh (by first | omega | (dsimp only; omega)) (by first | omega | (dsimp only; omega)))) (hd 118 rfl) <| zas rfl (hd 16 rfl) <| Ab <| Af ?_; refine Ag <| zmv rfl (hd 119 rfl) <| Ac (Eu rfl rfl) (hd 120 rfl) <| Ab ?_
              refine Bu rfl (fun h13 => ?_) (fun h13 => ?_)
              · refine By ?_
                refine ⟨(), ?_, rfl, Ba 43 rfl rfl ?_⟩
                · trivial
                · exact (.cons (by show some (V.i .u64 _) = some (V.i .u64 _); congr 2; first | exact hP2.over hn1 (by omega) (by omega) (by omega) | exact hP2.last hf (by omega)) (.v9 (.v9 .nil)))
              · refine Am ?_
                refine ⟨(q - 1, r + Y / 4294967296), ?_, ?_, rfl, Ba 43 rfl rfl ?_⟩
                · exact ⟨hn1, by show 0 ≤ q - 1; omega, by show r + Y / 4294967296 < 4294967296; omega⟩
                · show (q - 1).toNat < q.toNat
                  omega
                · exact (.cons rfl (.cons rfl (.v9 (.v5 (.u (.u (.u (.u .nil))))))))
            · refine By ?_
              refine ⟨(), ?_, rfl, Ba 34 rfl rfl ?_⟩
              · trivial
              · exact (.cons (by show some (V.i .u64 _) = some (V.i .u64 _); congr 2; first | exact hP2.over hn1 (by omega) (by omega) (by omega) | exact hP2.last hf (by omega)) (.v9 (.v9 .nil)))
      · rintro _ _; refine zsr <| zmv rfl (hd 121 rfl) <| Ac (Dv rfl rfl (Bh (by first | omega | (dsimp only; omega)) (by first | omega | (dsimp only; omega)))) (hd 122 rfl) <| zmv rfl (hd 123 rfl) <| Ac (A9 rfl rfl (r := (hi * 18446744073709551616 + lo) / y) (by rw [Bh (by omega) (by omega)]; exact hE1)) (hd 124 rfl) <| zmv rfl (hd 125 rfl) <| Ac (Dv rfl rfl rfl) (hd 126 rfl) <| zmv rfl (hd 127 rfl) <| Ac (A9 rfl rfl rfl) (hd 128 rfl) <| zmv rfl (hd 129 rfl) <| zmv rfl (hd 130 rfl) <| Ac (Dv rfl rfl rfl) (hd 131 rfl) ?_; refine Ac (B0 (B1 rfl rfl rfl) (show V.i .u64 _ = V.i .u64 (N2 % Y) from congrArg (V.i .u64) hP2.rest)) (hd 132 rfl) <| zmv rfl (hd 133 rfl) <| Ac (B0 (E4 rfl rfl (by omega) rfl) (show V.i .u64 _ = V.i .u64 ((hi * 18446744073709551616 + lo) % y) from congrArg (V.i .u64) ((Kb (by omega)).trans hE2))) (hd 134 rfl) <| zas rfl (hd 6 rfl) <| zas rfl (hd 7 rfl) <| Ab <| As ?_
        refine ⟨_, _, (.cons rfl (.cons rfl .nil)), (.t1 .i (.t1 .i .t0)), ?_⟩
        rfl

theorem Ae6 (s : Nat) (a : List Int) (hl : a.length < 1099511627776) (hs : s < 64) (ua : A3 a) : Spec Try.prog 80 [.n false .u64 a, .i .u64 (s : Int)] (fun o => o = .ret (.n true .u64 (upL a s))) := by
  refine Az [(0, .n false .u64 a), (1, .i .u64 (s : Int))] rfl Try.func80 rfl (zlb rfl) fun Γ hN hds hL hR => ?_
  have hd := B5 39 hN
  refine zsr <| zas rfl (hd 4 rfl) <| Ab <| zsr <| zmv rfl (hd 8 rfl) <| Ac (Av Bo rfl) (hd 9 rfl) <| Ac (A9 rfl rfl (r := ((a.length + 1 : Nat) : Int)) (by rw [Ap (by omega) (by omega)]; omega)) (hd 10 rfl) <| Ay (Fp (m := a.length + 1) Ky rfl rfl rfl (by show 8 * (a.length + 1) ≤ _; omega) (by unfold maxLen; omega) rfl) (hd 11 rfl) <| zas rfl (hd 5 rfl) <| Ab <| Af ?_; refine Af <| Cs (H' := [⟨79, 1, 0, true, A2 .u64 (upR a s 0)⟩]) (by rw [← Abb]; rfl) <| Ag <| zmv rfl (hd 12 rfl) <| Ac (Av Bo rfl) (hd 13 rfl) <| zmv rfl (hd 14 rfl) <| Ab <| Aw ?_
  refine B4 (G := Nat) (fun i => i ≤ a.length) (fun i => [(14, .i .i64 (i : Int)), (6, .u), (7, .u), (15, .u), (16, .u), (17, .u), (18, .u), (19, .u), (20, .u), (21, .u), (22, .u), (23, .u), (24, .u), (25, .u), (26, .u), (27, .u), (28, .u), (29, .u), (30, .u), (31, .u), (32, .u), (33, .u), (34, .u), (35, .u), (36, .u), (37, .u)]) (fun i => [⟨79, 1, 0, true, A2 .u64 (upR a s i)⟩]) (fun i => a.length - i) 0 ?_ ?_ rfl ?_
  · exact Nat.zero_le _
  · exact (.cons rfl (.v9 (.v9 (.v5 .nil))))
  · rintro i hc1
    have hf := Rp (s := s) hc1
    have hc := Vq (Nat.le_of_lt hs) ua i
    have hx := Bg ua i
    refine zsr <| Ac (Ch rfl rfl) (hd 15 rfl) <| Ab <| Af ?_
    refine Bu rfl (fun h1 => ?_) (fun h1 => ?_)
    · refine Am <| Af <| Aw <| zsr <| zmv rfl (hd 16 rfl) <| Ac (B8 (i := i) Bo rfl rfl (by first | rfl | omega) (by omega)) (hd 17 rfl) <| Ac (B7 Bw rfl rfl) (hd 18 rfl) <| zas rfl (hd 6 rfl) <| zas rfl (hd 7 rfl) <| Ab <| Af <| Ag ?_; refine zmv rfl (hd 19 rfl) <| zmv rfl (hd 20 rfl) <| Ac (Ci (i := i) Bo rfl rfl rfl (by first | rfl | omega) (by omega) rfl) (hd 21 rfl) <| Ac (B0 (Es Bw rfl rfl (by omega)) (show V.i .u64 _ = V.i .u64 ((upN a s i).2) from congrArg (V.i .u64) Rq)) (hd 22 rfl) <| zmv rfl (hd 23 rfl) <| zmv rfl (hd 24 rfl) <| Ac (B0 (Gx rfl rfl (by omega) rfl) (show V.i .u64 _ = V.i .u64 (loS (a.getD i 0) s) from congrArg (V.i .u64) (Hw (by omega)))) (hd 25 rfl) <| Ac (B0 (In (by simp) rfl rfl rfl) (show V.i .u64 _ = V.i .u64 ((upN a s i).2 + loS (a.getD i 0) s) from congrArg (V.i .u64) (Sz (by omega) hc.1 hc.2 hx.1).1)) (hd 26 rfl) <| Ac (Ci (i := i) Bo rfl rfl rfl (by first | rfl | omega) (by omega) rfl) (hd 27 rfl) <| A1 (Cc rfl rfl rfl Bw (by omega)) <| Ab <| Ag <| zmv rfl (hd 28 rfl) ?_; refine zmv rfl (hd 29 rfl) <| Ac (A9 rfl rfl (Ap (by omega) (by omega))) (hd 30 rfl) <| zmv rfl (hd 31 rfl) <| Ac (B0 (E4 rfl rfl (by omega) rfl) (show V.i .u64 _ = V.i .u64 (a.getD i 0 / 2) from congrArg (V.i .u64) (Afc hx.1))) (hd 32 rfl) <| zmv rfl (hd 33 rfl) <| Ac (B1 rfl rfl (r := ((63 - s : Nat) : Int)) (by rw [Bh (by omega) (by omega)]; omega)) (hd 34 rfl) <| Ac (B0 (E4 rfl rfl (by omega) rfl) (show V.i .u64 _ = V.i .u64 (hiS (a.getD i 0) s) from congrArg (V.i .u64) ((Kb (by omega)).trans (R8 hs)))) (hd 35 rfl) <| Ac (Ci (i := i + 1) Bo rfl rfl rfl (by first | rfl | omega) (by omega) rfl) (hd 36 rfl) <| A1 (Cc rfl rfl rfl Bw (by simp only [List.length_set]; omega)) <| Ab <| Ag <| Ac (A9 rfl rfl (Ap (by omega) (by omega))) (hd 37 rfl) <| zmv rfl (hd 14 rfl) ?_; refine Ab ?_
      refine ⟨i + 1, ?_, ?_, (by show [(⟨79, 1, 0, true, A2 .u64 _⟩ : Ob)] = [⟨79, 1, 0, true, A2 .u64 _⟩]; rw [Ro (by omega)]), Ba 52 rfl rfl ?_⟩
      · omega
      · omega
      · exact (.cons rfl (.v9 (.v9 (.v5 .nil))))
    · obtain rfl : i = a.length := by omega
      rw [Rr] at hf ⊢
      refine By <| zsr <| zmv rfl (hd 38 rfl) <| zas rfl (hd 4 rfl) <| Ab <| As ?_
      refine ⟨_, _, (.cons rfl .nil), (.o (l := upL a s) rfl (by omega) rfl), ?_⟩
      rw [List.drop_zero, List.take_of_length_le (by omega)]

theorem Ae7 (s : Nat) (a : List Int) (hl : a.length < 1099511627776) (hs : s < 64) (ua : A3 a) : SpecM Try.prog 80 [.n false .u64 a, .i .u64 (s : Int)] [] (fun o G => o = .ret (.o 0 0 0 (a.length + 1)) ∧ G = [⟨79, 1, 0, true, A2 .u64 (upL a s)⟩]) := by
  refine Cy [(0, .n false .u64 a), (1, .i .u64 (s : Int))] rfl Try.func80 rfl (zlb rfl) fun Γ hN hds hL hR => ?_
  have hd := B5 39 hN
  refine zsr <| zas rfl (hd 4 rfl) <| Ab <| zsr <| zmv rfl (hd 8 rfl) <| Ac (Av Bo rfl) (hd 9 rfl) <| Ac (A9 rfl rfl (r := ((a.length + 1 : Nat) : Int)) (by rw [Ap (by omega) (by omega)]; omega)) (hd 10 rfl) <| Ay (Fp (m := a.length + 1) Ky rfl rfl rfl (by show 8 * (a.length + 1) ≤ _; omega) (by unfold maxLen; omega) rfl) (hd 11 rfl) <| zas rfl (hd 5 rfl) <| Ab <| Af ?_; refine Af <| Cs (H' := [⟨79, 1, 0, true, A2 .u64 (upR a s 0)⟩]) (by rw [← Abb]; rfl) <| Ag <| zmv rfl (hd 12 rfl) <| Ac (Av Bo rfl) (hd 13 rfl) <| zmv rfl (hd 14 rfl) <| Ab <| Aw ?_
  refine B4 (G := Nat) (fun i => i ≤ a.length) (fun i => [(14, .i .i64 (i : Int)), (6, .u), (7, .u), (15, .u), (16, .u), (17, .u), (18, .u), (19, .u), (20, .u), (21, .u), (22, .u), (23, .u), (24, .u), (25, .u), (26, .u), (27, .u), (28, .u), (29, .u), (30, .u), (31, .u), (32, .u), (33, .u), (34, .u), (35, .u), (36, .u), (37, .u)]) (fun i => [⟨79, 1, 0, true, A2 .u64 (upR a s i)⟩]) (fun i => a.length - i) 0 ?_ ?_ rfl ?_
  · exact Nat.zero_le _
  · exact (.cons rfl (.v9 (.v9 (.v5 .nil))))
  · rintro i hc1
    have hf := Rp (s := s) hc1
    have hc := Vq (Nat.le_of_lt hs) ua i
    have hx := Bg ua i
    refine zsr <| Ac (Ch rfl rfl) (hd 15 rfl) <| Ab <| Af ?_
    refine Bu rfl (fun h1 => ?_) (fun h1 => ?_)
    · refine Am <| Af <| Aw <| zsr <| zmv rfl (hd 16 rfl) <| Ac (B8 (i := i) Bo rfl rfl (by first | rfl | omega) (by omega)) (hd 17 rfl) <| Ac (B7 Bw rfl rfl) (hd 18 rfl) <| zas rfl (hd 6 rfl) <| zas rfl (hd 7 rfl) <| Ab <| Af <| Ag ?_; refine zmv rfl (hd 19 rfl) <| zmv rfl (hd 20 rfl) <| Ac (Ci (i := i) Bo rfl rfl rfl (by first | rfl | omega) (by omega) rfl) (hd 21 rfl) <| Ac (B0 (Es Bw rfl rfl (by omega)) (show V.i .u64 _ = V.i .u64 ((upN a s i).2) from congrArg (V.i .u64) Rq)) (hd 22 rfl) <| zmv rfl (hd 23 rfl) <| zmv rfl (hd 24 rfl) <| Ac (B0 (Gx rfl rfl (by omega) rfl) (show V.i .u64 _ = V.i .u64 (loS (a.getD i 0) s) from congrArg (V.i .u64) (Hw (by omega)))) (hd 25 rfl) <| Ac (B0 (In (by simp) rfl rfl rfl) (show V.i .u64 _ = V.i .u64 ((upN a s i).2 + loS (a.getD i 0) s) from congrArg (V.i .u64) (Sz (by omega) hc.1 hc.2 hx.1).1)) (hd 26 rfl) <| Ac (Ci (i := i) Bo rfl rfl rfl (by first | rfl | omega) (by omega) rfl) (hd 27 rfl) <| A1 (Cc rfl rfl rfl Bw (by omega)) <| Ab <| Ag <| zmv rfl (hd 28 rfl) ?_; refine zmv rfl (hd 29 rfl) <| Ac (A9 rfl rfl (Ap (by omega) (by omega))) (hd 30 rfl) <| zmv rfl (hd 31 rfl) <| Ac (B0 (E4 rfl rfl (by omega) rfl) (show V.i .u64 _ = V.i .u64 (a.getD i 0 / 2) from congrArg (V.i .u64) (Afc hx.1))) (hd 32 rfl) <| zmv rfl (hd 33 rfl) <| Ac (B1 rfl rfl (r := ((63 - s : Nat) : Int)) (by rw [Bh (by omega) (by omega)]; omega)) (hd 34 rfl) <| Ac (B0 (E4 rfl rfl (by omega) rfl) (show V.i .u64 _ = V.i .u64 (hiS (a.getD i 0) s) from congrArg (V.i .u64) ((Kb (by omega)).trans (R8 hs)))) (hd 35 rfl) <| Ac (Ci (i := i + 1) Bo rfl rfl rfl (by first | rfl | omega) (by omega) rfl) (hd 36 rfl) <| A1 (Cc rfl rfl rfl Bw (by simp only [List.length_set]; omega)) <| Ab <| Ag <| Ac (A9 rfl rfl (Ap (by omega) (by omega))) (hd 37 rfl) <| zmv rfl (hd 14 rfl) ?_; refine Ab ?_
      refine ⟨i + 1, ?_, ?_, (by show [(⟨79, 1, 0, true, A2 .u64 _⟩ : Ob)] = [⟨79, 1, 0, true, A2 .u64 _⟩]; rw [Ro (by omega)]), Ba 52 rfl rfl ?_⟩
      · omega
      · omega
      · exact (.cons rfl (.v9 (.v9 (.v5 .nil))))
    · obtain rfl : i = a.length := by omega
      rw [Rr] at hf ⊢
      refine By <| zsr <| zmv rfl (hd 38 rfl) <| zas rfl (hd 4 rfl) <| Ab <| As ?_
      refine ⟨[0], _, (.o 0 0 0 (a.length + 1)), (.cons rfl .nil), rfl, rfl, (by decide), (by first | exact Al Bc Ar | exact Al rfl Ar), ?_⟩
      exact ⟨rfl, rfl⟩

theorem Lf (s : Nat) (a : List Int) (hl : a.length < 1099511627776) (hs : s < 64) (ua : A3 a) : Spec Try.prog 82 [.n false .u64 a, .i .u64 (s : Int)] (fun o => o = .ret (.n true .u64 (trm (dnN a s a.length)))) := by
  refine Az [(0, .n false .u64 a), (1, .i .u64 (s : Int))] rfl Try.func82 rfl (zlb rfl) fun Γ hN hds hL hR => ?_
  have hd := B5 47 hN
  refine zsr <| zas rfl (hd 4 rfl) <| Ab <| zsr <| zmv rfl (hd 8 rfl) <| Ac (Av Bo rfl) (hd 9 rfl) <| Ay (Fp (m := a.length) Ky rfl rfl rfl (by show 8 * a.length ≤ _; omega) (by unfold maxLen; omega) rfl) (hd 10 rfl) <| zas rfl (hd 5 rfl) <| Ab <| Af <| Af ?_; refine Ag <| zmv rfl (hd 11 rfl) <| Ac (Av Bo rfl) (hd 12 rfl) <| zmv rfl (hd 13 rfl) <| Ab <| Aw ?_
  refine B4 (G := Nat) (fun i => i ≤ a.length) (fun i => [(13, .i .i64 (i : Int)), (6, .u), (7, .u), (14, .u), (15, .u), (16, .u), (17, .u), (18, .u), (19, .u), (20, .u), (21, .u), (22, .u), (23, .u), (24, .u), (25, .u), (26, .u), (27, .u), (28, .u), (29, .u), (30, .u), (31, .u), (32, .u), (33, .u), (34, .u), (35, .u), (36, .u), (37, .u), (38, .u), (39, .u), (40, .u), (41, .u), (42, .u), (43, .u), (44, .u)]) (fun i => [⟨79, 1, 0, true, A2 .u64 (Cv (dnN a s i) a.length)⟩]) (fun i => a.length - i) 0 ?_ ?_ rfl ?_
  · exact Nat.zero_le _
  · exact (.cons rfl (.v9 (.v9 (.v9 (.u (.u (.u .nil)))))))
  · rintro i hc1
    have hf : (Cv (dnN a s i) a.length).length = a.length := Et (by rw [H1]; exact hc1)
    have hx := Bg ua i
    have hy := Bg ua (i + 1)
    refine zsr <| Ac (Ch rfl rfl) (hd 14 rfl) <| Ab <| Af ?_
    refine Bu rfl (fun h1 => ?_) (fun h1 => ?_)
    · refine Am ?_
      refine Mf (G := Unit) (fun _ => True) (fun _ => [(6, .u), (7, .u), (15, .u), (16, .u), (17, .u), (18, .u), (19, .u), (20, .u), (21, .u), (22, .u), (23, .u), (24, .u), (25, .u), (26, .u), (27, .u), (28, .u), (29, .u), (30, .u), (31, .u), (32, .u), (33, .u), (34, .u), (35, .u), (36, .u), (37, .u), (38, .u), (39, .u), (40, .u), (41, .u), (42, .u), (43, .u)]) (fun _ => [⟨79, 1, 0, true, A2 .u64 (Cv (dnN a s (i + 1)) a.length)⟩]) ?_ ?_
      · refine Aw <| zsr <| zmv rfl (hd 15 rfl) <| Ac (B8 (i := i) Bo rfl rfl (by first | rfl | omega) (by omega)) (hd 16 rfl) <| Ac (B7 Bw rfl rfl) (hd 17 rfl) <| zas rfl (hd 6 rfl) <| zas rfl (hd 7 rfl) <| Ab <| zsr <| zmv rfl (hd 18 rfl) <| zmv rfl (hd 19 rfl) ?_; refine zmv rfl (hd 20 rfl) <| zmv rfl (hd 21 rfl) <| Ac (B0 (E4 rfl rfl (by omega) rfl) (show V.i .u64 _ = V.i .u64 (a.getD i 0 / 2 ^ s) from congrArg (V.i .u64) (Kb (by omega)))) (hd 22 rfl) <| Ac (Ci (i := i) Bo rfl rfl rfl (by first | rfl | omega) (by omega) rfl) (hd 23 rfl) <| A1 (Cc rfl rfl rfl Bw (by omega)) <| Ab <| zsr <| zmv rfl (hd 24 rfl) <| Ac (A9 rfl rfl (Ap (by omega) (by omega))) (hd 25 rfl) <| zmv rfl (hd 26 rfl) <| Ac (Av Bo rfl) (hd 27 rfl) <| Ac (Ch rfl rfl) (hd 28 rfl) ?_; refine Ab ?_
        refine Bu rfl (fun h2 => ?_) (fun h2 => ?_)
        · refine Be (n := 16) _ rfl B2 <| Ax 0 [2, 3, 13, 14, 15] (Ao (A0 rfl) (hd 29 rfl)) rfl <| Ax 1 [2, 3, 13, 14, 15] (Ao (A0 rfl) (hd 30 rfl)) rfl <| Ax 2 [3, 13, 14, 15] (Ao (Ci (i := i) Bo rfl rfl rfl (by first | rfl | omega) (by omega) rfl) (hd 31 rfl)) rfl <| zal 3 (Ao (B0 (Es Bw rfl rfl (by simp only [List.length_set]; omega)) (show V.i .u64 _ = V.i .u64 (a.getD i 0 / 2 ^ s) from congrArg (V.i .u64) (Aah (by omega)))) (hd 32 rfl)) rfl <| Ax 4 [7, 8, 9, 12, 13, 14, 15] (Ao (A0 rfl) (hd 33 rfl)) rfl <| Ax 5 [6, 7, 8, 9, 12, 13, 14, 15] (Ao (A0 rfl) (hd 34 rfl)) rfl <| Ax 6 [7, 8, 9, 12, 13, 14, 15] (Ao (A9 rfl rfl (r := ((i + 1 : Nat) : Int)) (by rw [Ap (by omega) (by omega)]; omega)) (hd 35 rfl)) rfl <| Ax 7 [8, 9, 12, 13, 14, 15] (Ao (B8 (i := i + 1) Bo rfl rfl (by first | rfl | omega) (by omega)) (hd 36 rfl)) rfl <| Ax 8 [9, 12, 13, 14, 15] (Ao (B7 Bw rfl rfl) (hd 37 rfl)) rfl <| Ax 9 [12, 13, 14, 15] (Ao (B0 (Gx rfl rfl (by omega) rfl) (show V.i .u64 _ = V.i .u64 (a.getD (i + 1) 0 * 2 % 18446744073709551616) from congrArg (V.i .u64) Af2)) (hd 38 rfl)) rfl <| Ax 10 [11, 12, 13, 14, 15] (Ao (A0 rfl) (hd 39 rfl)) rfl <| Ax 11 [12, 13, 14, 15] (Ao (B1 rfl rfl (r := ((63 - s : Nat) : Int)) (by rw [Bh (by omega) (by omega)]; omega)) (hd 40 rfl)) rfl ?_; refine zal 12 (Ao (B0 (Gx rfl rfl (by omega) rfl) (show V.i .u64 _ = V.i .u64 (loS (a.getD (i + 1) 0) (64 - s)) from congrArg (V.i .u64) ((Hw (by omega)).trans (Y1 hs)))) (hd 41 rfl)) rfl <| zal 13 (Ao (B0 (In (by simp) rfl rfl rfl) (show V.i .u64 _ = V.i .u64 (dnD a s i) from congrArg (V.i .u64) (Ac7 (Nat.le_of_lt hs) hx.1 hx.2 hy.1).1)) (hd 42 rfl)) rfl <| zal 14 (Ao (Ci (i := i) Bo rfl rfl rfl (by first | rfl | omega) (by omega) rfl) (hd 43 rfl)) rfl ?_
          refine Bb 15 ?_ rfl (by kernel_rfl)
          refine A7 (Cc rfl rfl rfl Bw (by simp only [List.length_set]; omega)) rfl <| Bi (by kernel_rfl) ?_
          refine ⟨(), ?_, (by show [(⟨79, 1, 0, true, A2 .u64 _⟩ : Ob)] = [⟨79, 1, 0, true, A2 .u64 _⟩]; first | rw [← Qb (show a.length ≤ i + 1 by omega), Mk (by omega)] | rw [List.set_set, Mk (by omega)]), Ba 31 rfl rfl ?_⟩
          · trivial
          · exact (.v9 (.v9 (.v9 (.u .nil))))
        · refine Am ?_
          refine ⟨(), ?_, (by show [(⟨79, 1, 0, true, A2 .u64 _⟩ : Ob)] = [⟨79, 1, 0, true, A2 .u64 _⟩]; first | rw [← Qb (show a.length ≤ i + 1 by omega), Mk (by omega)] | rw [List.set_set, Mk (by omega)]), Ba 16 rfl rfl ?_⟩
          · trivial
          · exact (.v9 (.v9 (.v9 (.u .nil))))
      · rintro _ _; refine Ag <| Ac (A9 rfl rfl (Ap (by omega) (by omega))) (hd 44 rfl) <| zmv rfl (hd 13 rfl) <| Ab ?_
        refine ⟨i + 1, ?_, ?_, rfl, Ba 68 rfl rfl ?_⟩
        · omega
        · omega
        · exact (.cons rfl (.v9 (.v9 (.v9 (.u (.u (.u .nil)))))))
    · obtain rfl : i = a.length := by omega
      refine By <| zsr <| Gz (k := .u64) (l := Cv (dnN a s a.length) a.length) (l' := dnN a s a.length) 5 rfl rfl (by omega) (by rw [List.drop_zero, List.take_of_length_le (by omega), D0 (H1 _ _ _)]) hL <| zmv rfl (hd 45 rfl) ?_
      refine Aj Try.f48 (E9 (dnN a s a.length) (by rw [H1]; omega)) rfl Try.func48 rfl rfl (Aa rfl Ad) (.cons .n .nil) (hd 46 rfl) ?_ (fun ch hp => by simp at hp)
      rintro _ ⟨⟩; refine zas rfl (hd 4 rfl) <| Ab <| As ?_
      refine ⟨_, _, (.cons rfl .nil), .n, ?_⟩
      exact rfl

set_option maxRecDepth 100000 in
theorem Tx (U u v Q : List Int) (j n : Nat) (hU : j + (n + 3) ≤ U.length) (hUl : U.length < 4398046511104) (uU : A3 U) (hu : slJ U j (n + 3) = u) (hP : GuP u v n) : SpecM Try.prog 81 [.o 0 0 j (n + 3), .n false .u64 v] ([⟨79, 1, 0, true, A2 .u64 U⟩, ⟨79, 1, 0, true, A2 .u64 Q⟩]) (fun o H' => o = .ret (.i .u64 (vl u / vl v)) ∧ ∃ r, H' = [⟨79, 1, 0, true, A2 .u64 (rwJ U j r)⟩, ⟨79, 1, 0, true, A2 .u64 Q⟩] ∧ r.length = n + 3 ∧ A3 r ∧ vl r = vl u % vl v) := by
  refine Jq [(0, .o 0 0 j (n + 3)), (1, .n false .u64 v)] rfl (2) rfl Try.func81 rfl (zlb rfl) fun Γ hN hds => ?_
  have hd := B5 195 hN
  have hlu := hP.lu
  have hlv := hP.lv
  have hv0 := hP.pos
  have hQ1 := hP.q_lt
  have hQ0 := hP.q_nn
  have hx0 := Bg hP.uu n
  have hx1 := Bg hP.uu (n + 1)
  have hx2 := Bg hP.uu (n + 2)
  have hy0 := Bg hP.uv n
  have hy1 := Bg hP.uv (n + 1)
  have hat2 : ∀ k, k < n + 3 → U.getD (j + k) 0 = u.getD k 0 := fun k hk => by rw [← hu, Abn hk]
  have hat : ∀ k, k < n + 3 → U.getD ((j + k) * 1) 0 = u.getD k 0 := fun k hk => by rw [Nat.mul_one]; exact hat2 k hk
  refine zsr <| zas rfl (hd 4 rfl) <| Ab <| zsr <| zmv rfl (hd 24 rfl) <| Ac (Av Bo rfl) (hd 25 rfl) <| zas rfl (hd 5 rfl) <| Ab <| zsr <| zas rfl (hd 6 rfl) ?_; refine zas rfl (hd 7 rfl) <| Ab <| zsr <| zas rfl (hd 8 rfl) <| Ab ?_
  refine Cu (G := Int × Int × Bool) (fun g => vl u / vl v ≤ g.1 ∧ 0 ≤ g.1 ∧ g.1 < 18446744073709551616 ∧ (g.2.2 = false → Est u v n g.1 g.2.1 ∧ g.2.1 < 18446744073709551616) ∧ (g.2.2 = true → g.1 ≤ vl u / vl v + 1)) (fun g => [(6, .i .u64 g.1), (7, .i .u64 g.2.1), (8, .b g.2.2), (9, .u), (26, .u), (27, .u), (28, .u), (29, .u), (30, .u), (31, .u), (32, .u), (33, .u), (34, .u), (35, .u), (36, .u), (37, .u), (38, .u), (39, .u), (40, .u), (41, .u), (42, .u), (43, .u), (44, .u), (45, .u), (46, .u), (47, .u), (48, .u), (49, .u), (50, .u), (51, .u), (52, .u), (53, .u), (54, .u), (55, .u), (56, .u), (57, .u), (58, .u), (59, .u), (60, .u), (61, .u), (62, .u), (63, .u), (64, .u), (65, .u), (66, .u), (67, .u), (68, .u), (69, .u)]) ?_ ?_
  · refine Af <| Be (n := 10) _ rfl B2 <| Ax 0 [2, 3, 9] (Ao (A0 rfl) (hd 26 rfl)) rfl <| Ax 1 [2, 3, 9] (Ao (A0 rfl) (hd 27 rfl)) rfl <| Ax 2 [3, 9] (Ao (Ci (i := n + 2) Bo rfl rfl rfl (by first | rfl | omega) (by omega) rfl) (hd 28 rfl)) rfl <| zal 3 (Ao (B0 (Es Bw rfl rfl (by omega)) (show V.i .u64 _ = V.i .u64 (u.getD (n + 2) 0) from congrArg (V.i .u64) (hat (n + 2) (by omega)))) (hd 29 rfl)) rfl <| Ax 4 [7, 8, 9] (Ao (A0 rfl) (hd 30 rfl)) rfl <| Ax 5 [6, 7, 8, 9] (Ao (A0 rfl) (hd 31 rfl)) rfl <| Ax 6 [7, 8, 9] (Ao (B1 rfl rfl (r := ((n + 1 : Nat) : Int)) (by rw [Ap (by omega) (by omega)]; omega)) (hd 32 rfl)) rfl <| Ax 7 [8, 9] (Ao (B8 (i := n + 1) Bo rfl rfl (by first | rfl | omega) (by omega)) (hd 33 rfl)) rfl <| zal 8 (Ao (B7 Bw rfl rfl) (hd 34 rfl)) rfl <| zal 9 (Ao (Eu rfl rfl) (hd 35 rfl)) rfl <| Bi (by kernel_rfl) ?_
    refine Bu rfl (fun h1 => ?_) (fun h1 => ?_)
    · refine zsr <| zas rfl (hd 6 rfl) <| Ab <| zsr <| zas rfl (hd 9 rfl) <| Ab <| Af <| Be (n := 16) _ rfl B2 <| Ax 0 [3, 4, 10, 11, 12, 13, 14, 15] (Ao (A0 rfl) (hd 37 rfl)) rfl <| Ax 1 [2, 3, 4, 10, 11, 12, 13, 14, 15] (Ao (A0 rfl) (hd 38 rfl)) rfl <| Ax 2 [3, 4, 10, 11, 12, 13, 14, 15] (Ao (B1 rfl rfl (r := ((n + 1 : Nat) : Int)) (by rw [Ap (by omega) (by omega)]; omega)) (hd 39 rfl)) rfl ?_; refine Ax 3 [4, 10, 11, 12, 13, 14, 15] (Ao (Ci (i := n + 1) Bo rfl rfl rfl (by first | rfl | omega) (by omega) rfl) (hd 40 rfl)) rfl <| Ax 4 [10, 11, 12, 13, 14, 15] (Ao (B0 (Es Bw rfl rfl (by omega)) (show V.i .u64 _ = V.i .u64 (u.getD (n + 1) 0) from congrArg (V.i .u64) (hat (n + 1) (by omega)))) (hd 41 rfl)) rfl <| Ax 5 [8, 9, 10, 11, 12, 13, 14, 15] (Ao (A0 rfl) (hd 42 rfl)) rfl <| Ax 6 [7, 8, 9, 10, 11, 12, 13, 14, 15] (Ao (A0 rfl) (hd 43 rfl)) rfl <| Ax 7 [8, 9, 10, 11, 12, 13, 14, 15] (Ao (B1 rfl rfl (r := ((n + 1 : Nat) : Int)) (by rw [Ap (by omega) (by omega)]; omega)) (hd 44 rfl)) rfl <| Ax 8 [9, 10, 11, 12, 13, 14, 15] (Ao (B8 (i := n + 1) Bo rfl rfl (by first | rfl | omega) (by omega)) (hd 45 rfl)) rfl <| Ax 9 [10, 11, 12, 13, 14, 15] (Ao (B7 Bw rfl rfl) (hd 46 rfl)) rfl ?_
      refine Bb 10 ?_ rfl (by kernel_rfl)
      refine Cw (Eh (e := add64Entry) Try.func92 rfl rfl (by kernel_rfl) (by kernel_rfl) rfl rfl rfl (fun w => run_add64 _ _ _ hx1.1 hy1.1 (by decide) (by decide) w) Dr) (hd 47 rfl) <| zal 11 (Ao (A0 rfl) (hd 36 rfl)) rfl <| zal 12 (Ao (Ak rfl rfl) (hd 48 rfl)) rfl <| zal 13 (Ao (Ak rfl rfl) (hd 49 rfl)) rfl <| zal 14 (Ao (Cr rfl) (hd 7 rfl)) rfl <| zal 15 (Ao (Cr rfl) (hd 9 rfl)) rfl <| Bi (by kernel_rfl) <| Ag <| zmv rfl (hd 50 rfl) <| Ac (Cm rfl rfl) (hd 51 rfl) <| zas rfl (hd 8 rfl) <| Ab ?_
      refine ⟨(18446744073709551615, (u.getD (n + 1) 0 + v.getD (n + 1) 0 + 0) % 18446744073709551616, decide ((u.getD (n + 1) 0 + v.getD (n + 1) 0 + 0) / 18446744073709551616 ≠ 0)), ?_, rfl, Ba 31 rfl rfl ?_⟩
      · have hE := hP.first_eq (by omega)
        refine ⟨hE.2.1, hE.2.2.1, hE.2.2.2.1, fun h => ?_, fun h => ?_⟩
        · have h2 := of_decide_eq_false h
          have e : (u.getD (n + 1) 0 + v.getD (n + 1) 0 + 0) % 18446744073709551616 = u.getD (n + 1) 0 + v.getD (n + 1) 0 := by omega
          show Est u v n _ ((u.getD (n + 1) 0 + v.getD (n + 1) 0 + 0) % 18446744073709551616) ∧ (u.getD (n + 1) 0 + v.getD (n + 1) 0 + 0) % 18446744073709551616 < _
          rw [e]
          exact ⟨hE, by omega⟩
        · have h2 := of_decide_eq_true h
          exact hP.over hE (by omega)
      · exact (.cons rfl (.cons rfl (.cons rfl (.v9 (.v9 (.v9 (.v9 (.v5 .nil))))))))
    · refine Be (n := 20) _ rfl B2 <| Ax 0 [2, 3, 14, 15, 16, 17, 18, 19] (Ao (A0 rfl) (hd 53 rfl)) rfl <| Ax 1 [2, 3, 14, 15, 16, 17, 18, 19] (Ao (A0 rfl) (hd 54 rfl)) rfl <| Ax 2 [3, 14, 15, 16, 17, 18, 19] (Ao (Ci (i := n + 2) Bo rfl rfl rfl (by first | rfl | omega) (by omega) rfl) (hd 55 rfl)) rfl <| Ax 3 [14, 15, 16, 17, 18, 19] (Ao (B0 (Es Bw rfl rfl (by omega)) (show V.i .u64 _ = V.i .u64 (u.getD (n + 2) 0) from congrArg (V.i .u64) (hat (n + 2) (by omega)))) (hd 56 rfl)) rfl <| Ax 4 [7, 8, 14, 15, 16, 17, 18, 19] (Ao (A0 rfl) (hd 57 rfl)) rfl <| Ax 5 [6, 7, 8, 14, 15, 16, 17, 18, 19] (Ao (A0 rfl) (hd 58 rfl)) rfl <| Ax 6 [7, 8, 14, 15, 16, 17, 18, 19] (Ao (B1 rfl rfl (r := ((n + 1 : Nat) : Int)) (by rw [Ap (by omega) (by omega)]; omega)) (hd 59 rfl)) rfl <| Ax 7 [8, 14, 15, 16, 17, 18, 19] (Ao (Ci (i := n + 1) Bo rfl rfl rfl (by first | rfl | omega) (by omega) rfl) (hd 60 rfl)) rfl <| Ax 8 [14, 15, 16, 17, 18, 19] (Ao (B0 (Es Bw rfl rfl (by omega)) (show V.i .u64 _ = V.i .u64 (u.getD (n + 1) 0) from congrArg (V.i .u64) (hat (n + 1) (by omega)))) (hd 61 rfl)) rfl <| Ax 9 [12, 13, 14, 15, 16, 17, 18, 19] (Ao (A0 rfl) (hd 62 rfl)) rfl <| Ax 10 [11, 12, 13, 14, 15, 16, 17, 18, 19] (Ao (A0 rfl) (hd 63 rfl)) rfl <| Ax 11 [12, 13, 14, 15, 16, 17, 18, 19] (Ao (B1 rfl rfl (r := ((n + 1 : Nat) : Int)) (by rw [Ap (by omega) (by omega)]; omega)) (hd 64 rfl)) rfl ?_; refine Ax 12 [13, 14, 15, 16, 17, 18, 19] (Ao (B8 (i := n + 1) Bo rfl rfl (by first | rfl | omega) (by omega)) (hd 65 rfl)) rfl <| Ax 13 [14, 15, 16, 17, 18, 19] (Ao (B7 Bw rfl rfl) (hd 66 rfl)) rfl ?_
      refine Bb 14 ?_ rfl (by kernel_rfl)
      refine A4 Try.f78 (O1 (u.getD (n + 2) 0) (u.getD (n + 1) 0) (v.getD (n + 1) 0) hx2.1 (by omega) hx1.1 hx1.2 hy1.2) rfl Try.func78 rfl rfl (Aa rfl (Aa rfl (Aa rfl Ad))) (.cons .i (.cons .i (.cons .i .nil))) (hd 67 rfl) ?_ (fun ch hp => by simp at hp)
      rintro _ ⟨⟩; refine zal 15 (Ao (A0 rfl) (hd 52 rfl)) rfl <| zal 16 (Ao (Ak rfl rfl) (hd 68 rfl)) rfl <| zal 17 (Ao (Ak rfl rfl) (hd 69 rfl)) rfl <| zal 18 (Ao (Cr rfl) (hd 6 rfl)) rfl <| zal 19 (Ao (Cr rfl) (hd 7 rfl)) rfl <| Bi (by kernel_rfl) ?_
      refine ⟨((u.getD (n + 2) 0 * 18446744073709551616 + u.getD (n + 1) 0) / v.getD (n + 1) 0, (u.getD (n + 2) 0 * 18446744073709551616 + u.getD (n + 1) 0) % v.getD (n + 1) 0, false), ?_, rfl, Ba 30 rfl rfl ?_⟩
      · have hE := hP.first_div (by omega)
        have hm := Int.emod_lt_of_pos (u.getD (n + 2) 0 * 18446744073709551616 + u.getD (n + 1) 0) (show 0 < v.getD (n + 1) 0 by omega)
        exact ⟨hE.2.1, hE.2.2.1, hE.2.2.2.1, fun _ => ⟨hE, by dsimp only; omega⟩, fun h => absurd h (by simp)⟩
      · exact (.cons rfl (.cons rfl (.cons rfl (.v9 (.v9 (.v9 (.v9 (.v5 .nil))))))))
  · rintro ⟨q0, r0, sure⟩ ⟨hc1, hc2, hc3, hc4, hc5⟩
    dsimp only at hc1 hc2 hc3 hc4 hc5
    refine Cu (G := Int) (fun g => vl u / vl v ≤ g ∧ 0 ≤ g ∧ g < 18446744073709551616 ∧ g ≤ vl u / vl v + 1) (fun g => [(6, .i .u64 g), (7, .u), (10, .u), (11, .u), (12, .u), (70, .u), (71, .u), (72, .u), (73, .u), (74, .u), (75, .u), (76, .u), (77, .u), (78, .u), (79, .u), (80, .u), (81, .u), (82, .u), (83, .u), (84, .u), (85, .u), (86, .u), (87, .u), (88, .u), (89, .u), (90, .u), (91, .u), (92, .u), (93, .u), (94, .u), (95, .u), (96, .u), (97, .u), (98, .u), (99, .u), (100, .u), (101, .u), (102, .u), (103, .u), (104, .u), (105, .u), (106, .u), (107, .u), (108, .u), (109, .u), (110, .u), (111, .u), (112, .u)]) ?_ ?_
    · refine Aw ?_
      refine B4 (G := Int × Int) (fun g => vl u / vl v ≤ g.1 ∧ 0 ≤ g.1 ∧ g.1 < 18446744073709551616 ∧ (sure = false → Est u v n g.1 g.2 ∧ g.2 < 18446744073709551616) ∧ (sure = true → g.1 ≤ vl u / vl v + 1)) (fun g => [(6, .i .u64 g.1), (7, .i .u64 g.2), (10, .u), (11, .u), (12, .u), (70, .u), (71, .u), (72, .u), (73, .u), (74, .u), (75, .u), (76, .u), (77, .u), (78, .u), (79, .u), (80, .u), (81, .u), (82, .u), (83, .u), (84, .u), (85, .u), (86, .u), (87, .u), (88, .u), (89, .u), (90, .u), (91, .u), (92, .u), (93, .u), (94, .u), (95, .u), (96, .u), (97, .u), (98, .u), (99, .u), (100, .u), (101, .u), (102, .u), (103, .u), (104, .u), (105, .u), (106, .u), (107, .u), (108, .u), (109, .u), (110, .u), (111, .u), (112, .u)]) (fun _ => _) (fun g => g.1.toNat) (q0, r0) ?_ ?_ rfl ?_
      · exact ⟨hc1, hc2, hc3, hc4, hc5⟩
      · exact (.cons rfl (.cons rfl (.v9 (.v9 (.v9 (.v9 (.v5 (.u .nil))))))))
      · rintro ⟨q, r⟩ ⟨hd1, hd2, hd3, hd4, hd5⟩
        dsimp only at hd1 hd2 hd3 hd4 hd5
        refine Af <| zsr <| zmv rfl (hd 70 rfl) <| Ac (Fn rfl) (hd 71 rfl) <| Ab ?_
        refine E7 rfl (fun h2 => ?_) (fun h2 => ?_)
        · have hsf : sure = false := by simpa using h2
          obtain ⟨hE, hr⟩ := hd4 hsf
          obtain ⟨hE1, hE2, hE3, hE4, hE5⟩ := id hE
          refine Am <| Aw <| zsr <| zmv rfl (hd 73 rfl) <| zmv rfl (hd 74 rfl) <| zmv rfl (hd 75 rfl) <| Ac (B1 rfl rfl (r := ((n : Nat) : Int)) (by rw [Ap (by omega) (by omega)]; omega)) (hd 76 rfl) <| Ac (B8 (i := n) Bo rfl rfl (by first | rfl | omega) (by omega)) (hd 77 rfl) <| Ac (B7 Bw rfl rfl) (hd 78 rfl) ?_
          refine Aj Try.f93 (Ow q (v.getD n 0) hd2 hd3 hy0.1 hy0.2) rfl Try.func93 rfl rfl (Aa rfl (Aa rfl Ad)) (.cons .i (.cons .i .nil)) (hd 79 rfl) ?_ (fun ch hp => by simp at hp)
          rintro _ ⟨⟩; refine zmv rfl (hd 72 rfl) <| Ac (Ak rfl rfl) (hd 80 rfl) <| Ac (Ak rfl rfl) (hd 81 rfl) <| zas rfl (hd 10 rfl) <| zas rfl (hd 11 rfl) <| Ab <| Af <| zsr <| zmv rfl (hd 82 rfl) <| zmv rfl (hd 83 rfl) <| Ac (Ch rfl rfl) (hd 84 rfl) <| zmv rfl (hd 85 rfl) ?_
          refine Fo 85 rfl (fun h3 => ?_) (fun h3 => ?_)
          · refine B6 85 rfl rfl rfl (hd 86 rfl) <| B6 85 rfl rfl rfl (hd 87 rfl) <| B6 85 rfl rfl rfl (hd 88 rfl) <| B6 85 rfl rfl rfl (hd 89 rfl) <| Me 89 rfl rfl (hd 90 rfl) <| Me 89 rfl rfl (hd 91 rfl) <| Me 89 rfl rfl (hd 92 rfl) <| Me 89 rfl rfl (hd 93 rfl) <| Me 89 rfl rfl (hd 94 rfl) <| Me 89 rfl rfl (hd 95 rfl) <| Me 89 rfl rfl (hd 96 rfl) <| B6 85 rfl rfl rfl (hd 97 rfl) <| Ac (Cg rfl rfl) (hd 98 rfl) ?_; refine Ab <| Dm rfl <| By ?_
            refine ⟨q, ?_, rfl, Ba 80 rfl rfl ?_⟩
            · exact ⟨hd1, hd2, hd3, hP.last hE (by omega)⟩
            · exact (.cons rfl (.v9 (.v9 (.v9 (.v9 (.v5 (.u (.u .nil))))))))
          · refine Bn 85 rfl rfl (A0 rfl) (hd 86 rfl) <| Bn 85 rfl rfl (A0 rfl) (hd 87 rfl) <| Bn 85 rfl rfl (Dy rfl rfl) (hd 88 rfl) <| Bn 85 rfl rfl (A0 rfl) (hd 89 rfl) ?_
            refine Fo 89 rfl (fun h5 => ?_) (fun h5 => ?_)
            · refine Bn 89 rfl rfl (A0 rfl) (hd 90 rfl) <| Bn 89 rfl rfl (A0 rfl) (hd 91 rfl) <| Bn 89 rfl rfl (A0 rfl) (hd 92 rfl) <| Bn 89 rfl rfl (B1 rfl rfl (r := ((n : Nat) : Int)) (by rw [Ap (by omega) (by omega)]; omega)) (hd 93 rfl) <| Bn 89 rfl rfl (Ci (i := n) Bo rfl rfl rfl (by first | rfl | omega) (by omega) rfl) (hd 94 rfl) <| Bn 89 rfl rfl (B0 (Es Bw rfl rfl (by omega)) (show V.i .u64 _ = V.i .u64 (u.getD (n) 0) from congrArg (V.i .u64) (hat (n) (by omega)))) (hd 95 rfl) <| Bn 89 rfl rfl (S9 rfl rfl) (hd 96 rfl) <| Bn 85 rfl rfl (Cg rfl rfl) (hd 97 rfl) <| Ac (B9 rfl rfl) (hd 98 rfl) <| Ab ?_
              refine Bu rfl (fun h6 => ?_) (fun h6 => ?_)
              · refine By ?_
                refine ⟨q, ?_, rfl, Ba 81 rfl rfl ?_⟩
                · exact ⟨hd1, hd2, hd3, hP.last hE (by omega)⟩
                · exact (.cons rfl (.v9 (.v9 (.v9 (.v9 (.v5 (.u (.u .nil))))))))
              · refine Am <| Af ?_
                obtain ⟨hN, hq1⟩ := hP.next hE (by omega)
                obtain ⟨hN1, hN2, hN3, hN4, hN5⟩ := id hN
                refine Ag <| zmv rfl (hd 99 rfl) <| Ac (B1 rfl rfl (Bh (by first | omega | (dsimp only; omega)) (by first | omega | (dsimp only; omega)))) (hd 100 rfl) <| zas rfl (hd 6 rfl) <| Ab <| zsr <| zas rfl (hd 12 rfl) <| Ab <| zsr <| zmv rfl (hd 102 rfl) <| zmv rfl (hd 103 rfl) ?_; refine zmv rfl (hd 104 rfl) <| Ac (B1 rfl rfl (r := ((n + 1 : Nat) : Int)) (by rw [Ap (by omega) (by omega)]; omega)) (hd 105 rfl) <| Ac (B8 (i := n + 1) Bo rfl rfl (by first | rfl | omega) (by omega)) (hd 106 rfl) <| Ac (B7 Bw rfl rfl) (hd 107 rfl) <| Ay (Eh (e := add64Entry) Try.func92 rfl rfl (by kernel_rfl) (by kernel_rfl) rfl rfl rfl (fun w => run_add64 _ _ _ hE5 hy1.1 (by decide) (by decide) w) Dr) (hd 108 rfl) <| zmv rfl (hd 101 rfl) <| Ac (Ak rfl rfl) (hd 109 rfl) <| Ac (Ak rfl rfl) (hd 110 rfl) <| zas rfl (hd 7 rfl) <| zas rfl (hd 12 rfl) <| Ab <| Af <| Ag ?_; refine zmv rfl (hd 111 rfl) <| Ac (Cm rfl rfl) (hd 112 rfl) <| Ab ?_
                refine Bu rfl (fun h7 => ?_) (fun h7 => ?_)
                · refine By ?_
                  refine ⟨(q - 1), ?_, rfl, Ba 99 rfl rfl ?_⟩
                  · exact ⟨hN2, hN3, hN4, hP.over hN (by omega)⟩
                  · exact (.cons rfl (.v9 (.v9 (.v9 (.v9 (.v5 (.u (.u .nil))))))))
                · refine Am ?_
                  refine ⟨(q - 1, (r + v.getD (n + 1) 0 + 0) % 18446744073709551616), ?_, ?_, rfl, Ba 99 rfl rfl ?_⟩
                  · have e : (r + v.getD (n + 1) 0 + 0) % 18446744073709551616 = r + v.getD (n + 1) 0 := by omega
                    exact ⟨hN2, hN3, hN4, fun _ => by show Est u v n (q - 1) ((r + v.getD (n + 1) 0 + 0) % 18446744073709551616) ∧ (r + v.getD (n + 1) 0 + 0) % 18446744073709551616 < _; rw [e]; exact ⟨hN, by omega⟩, fun h => absurd (hsf.symm.trans h) (by simp)⟩
                  · show (q - 1).toNat < q.toNat
                    omega
                  · exact (.cons rfl (.cons rfl (.v9 (.v9 (.v9 (.v9 (.v5 (.u .nil))))))))
            · refine B6 89 rfl rfl rfl (hd 90 rfl) <| B6 89 rfl rfl rfl (hd 91 rfl) <| B6 89 rfl rfl rfl (hd 92 rfl) <| B6 89 rfl rfl rfl (hd 93 rfl) <| B6 89 rfl rfl rfl (hd 94 rfl) <| B6 89 rfl rfl rfl (hd 95 rfl) <| B6 89 rfl rfl rfl (hd 96 rfl) <| Bn 85 rfl rfl (B9 rfl rfl) (hd 97 rfl) <| Ac (B9 rfl rfl) (hd 98 rfl) <| Ab <| Bl rfl <| Am <| Af ?_
              obtain ⟨hN, hq1⟩ := hP.next hE (by omega)
              obtain ⟨hN1, hN2, hN3, hN4, hN5⟩ := id hN
              refine Ag <| zmv rfl (hd 99 rfl) <| Ac (B1 rfl rfl (Bh (by first | omega | (dsimp only; omega)) (by first | omega | (dsimp only; omega)))) (hd 100 rfl) <| zas rfl (hd 6 rfl) <| Ab <| zsr <| zas rfl (hd 12 rfl) <| Ab <| zsr <| zmv rfl (hd 102 rfl) <| zmv rfl (hd 103 rfl) ?_; refine zmv rfl (hd 104 rfl) <| Ac (B1 rfl rfl (r := ((n + 1 : Nat) : Int)) (by rw [Ap (by omega) (by omega)]; omega)) (hd 105 rfl) <| Ac (B8 (i := n + 1) Bo rfl rfl (by first | rfl | omega) (by omega)) (hd 106 rfl) <| Ac (B7 Bw rfl rfl) (hd 107 rfl) <| Ay (Eh (e := add64Entry) Try.func92 rfl rfl (by kernel_rfl) (by kernel_rfl) rfl rfl rfl (fun w => run_add64 _ _ _ hE5 hy1.1 (by decide) (by decide) w) Dr) (hd 108 rfl) <| zmv rfl (hd 101 rfl) <| Ac (Ak rfl rfl) (hd 109 rfl) <| Ac (Ak rfl rfl) (hd 110 rfl) <| zas rfl (hd 7 rfl) <| zas rfl (hd 12 rfl) <| Ab <| Af <| Ag ?_; refine zmv rfl (hd 111 rfl) <| Ac (Cm rfl rfl) (hd 112 rfl) <| Ab ?_
              refine Bu rfl (fun h9 => ?_) (fun h9 => ?_)
              · refine By ?_
                refine ⟨(q - 1), ?_, rfl, Ba 99 rfl rfl ?_⟩
                · exact ⟨hN2, hN3, hN4, hP.over hN (by omega)⟩
                · exact (.cons rfl (.v9 (.v9 (.v9 (.v9 (.v5 (.u (.u .nil))))))))
              · refine Am ?_
                refine ⟨(q - 1, (r + v.getD (n + 1) 0 + 0) % 18446744073709551616), ?_, ?_, rfl, Ba 99 rfl rfl ?_⟩
                · have e : (r + v.getD (n + 1) 0 + 0) % 18446744073709551616 = r + v.getD (n + 1) 0 := by omega
                  exact ⟨hN2, hN3, hN4, fun _ => by show Est u v n (q - 1) ((r + v.getD (n + 1) 0 + 0) % 18446744073709551616) ∧ (r + v.getD (n + 1) 0 + 0) % 18446744073709551616 < _; rw [e]; exact ⟨hN, by omega⟩, fun h => absurd (hsf.symm.trans h) (by simp)⟩
                · show (q - 1).toNat < q.toNat
                  omega
                · exact (.cons rfl (.cons rfl (.v9 (.v9 (.v9 (.v9 (.v5 (.u .nil))))))))
        · have hst : sure = true := by simpa using h2
          have hlast := hd5 hst
          refine By ?_
          refine ⟨q, ?_, rfl, Ba 50 rfl rfl ?_⟩
          · exact ⟨hd1, hd2, hd3, hlast⟩
          · exact (.cons rfl (.v9 (.v9 (.v9 (.v9 (.v5 (.u (.u .nil))))))))
    · rintro q ⟨hq1, hq2, hq3, hq4⟩
      obtain ⟨hgQ, hgl, hgu, hgv⟩ := Acy hP.uu hP.uv (by omega) hv0 hq2 hq3 hq1 hq4
      unfold gsQ at hgQ
      have hmB := Ach u v q
      have hum := Acg hP.uu hP.uv hq2 hq3
      have hml0 := L7 u v q
      refine Af <| Cs (H' := [⟨79, 1, 0, true, A2 .u64 (rwJ U j (msN u v q 0).1)⟩, ⟨79, 1, 0, true, A2 .u64 Q⟩]) (by show _ = [(⟨79, 1, 0, true, A2 .u64 (rwJ U j [])⟩ : Ob), _]; rw [Abt]) <| Ag <| zas rfl (hd 13 rfl) <| zas rfl (hd 14 rfl) <| Ab <| Af <| zsr <| zmv rfl (hd 113 rfl) <| Ac (Av Bo rfl) (hd 114 rfl) <| zmv rfl (hd 115 rfl) <| Ab ?_; refine Aw ?_
      refine B4 (G := Nat) (fun i => i ≤ v.length) (fun i => [(13, .i .u64 (msN u v q i).2.1), (14, .i .u64 (msN u v q i).2.2), (115, .i .i64 (i : Int)), (15, .u), (16, .u), (17, .u), (18, .u), (19, .u), (20, .u), (116, .u), (117, .u), (118, .u), (119, .u), (120, .u), (121, .u), (122, .u), (123, .u), (124, .u), (125, .u), (126, .u), (127, .u), (128, .u), (129, .u), (130, .u), (131, .u), (132, .u), (133, .u), (134, .u), (135, .u), (136, .u), (137, .u), (138, .u), (139, .u), (140, .u), (141, .u), (142, .u), (143, .u), (144, .u), (145, .u), (146, .u), (147, .u), (148, .u)]) (fun i => [⟨79, 1, 0, true, A2 .u64 (rwJ U j (msN u v q i).1)⟩, ⟨79, 1, 0, true, A2 .u64 Q⟩]) (fun i => v.length - i) 0 ?_ ?_ rfl ?_
      · exact Nat.zero_le _
      · exact (.cons rfl (.cons rfl (.cons rfl (.v9 (.v9 (.v9 (.v5 (.u (.u (.u (.u .nil)))))))))))
      · rintro i hi1
        have hml := Ge u v q i
        have hf : (rwJ U j (msN u v q i).1).length = U.length := Ke (by omega)
        have hc := Zu (u := u) hP.uv hq2 hq3 i
        have hb := Zv u v q i
        have hxi := Bg hP.uu i
        have hyi := Bg hP.uv i
        have hmp := S3 hyi.1 hyi.2 hq2 hq3
        refine zsr <| Ac (Ch rfl rfl) (hd 116 rfl) <| Ab <| Af ?_
        refine Bu rfl (fun h10 => ?_) (fun h10 => ?_)
        · refine Am <| Af <| Aw <| zsr <| zmv rfl (hd 117 rfl) <| Ac (B8 (i := i) Bo rfl rfl (by first | rfl | omega) (by omega)) (hd 118 rfl) <| Ac (B7 Bw rfl rfl) (hd 119 rfl) <| zas rfl (hd 15 rfl) <| zas rfl (hd 16 rfl) <| Ab <| Af <| Ag ?_; refine zmv rfl (hd 121 rfl) <| zmv rfl (hd 122 rfl) ?_
          refine Aj Try.f93 (Ow (v.getD i 0) q hyi.1 hyi.2 hq2 hq3) rfl Try.func93 rfl rfl (Aa rfl (Aa rfl Ad)) (.cons .i (.cons .i .nil)) (hd 123 rfl) ?_ (fun ch hp => by simp at hp)
          rintro _ ⟨⟩; refine zmv rfl (hd 120 rfl) <| Ac (Ak rfl rfl) (hd 124 rfl) <| Ac (Ak rfl rfl) (hd 125 rfl) <| zas rfl (hd 17 rfl) <| zas rfl (hd 18 rfl) <| Ab <| zsr <| zmv rfl (hd 127 rfl) <| zmv rfl (hd 128 rfl) <| Ay (Eh (e := add64Entry) Try.func92 rfl rfl (by kernel_rfl) (by kernel_rfl) rfl rfl rfl (fun w => run_add64 _ _ _ (Int.emod_nonneg _ (by decide)) hc.1 (by decide) (by decide) w) Dr) (hd 129 rfl) <| zmv rfl (hd 126 rfl) <| Ac (B0 (Ak rfl rfl) (show V.i .u64 _ = V.i .u64 (msS u v q i (msN u v q i).2.1) from congrArg (V.i .u64) (by unfold msS; rw [Int.add_zero]))) (hd 130 rfl) ?_; refine Ac (Ak rfl rfl) (hd 131 rfl) <| zas rfl (hd 19 rfl) <| zas rfl (hd 20 rfl) <| Ab <| zsr <| zmv rfl (hd 132 rfl) <| zmv rfl (hd 133 rfl) <| Ac (A9 rfl rfl (r := msC v q i (msN u v q i).2.1) (by unfold msC; rw [Int.add_zero]; exact Bh (by omega) (by omega))) (hd 134 rfl) <| zas rfl (hd 13 rfl) <| Ab <| Ag <| zmv rfl (hd 136 rfl) ?_; refine zmv rfl (hd 137 rfl) <| zmv rfl (hd 138 rfl) <| zmv rfl (hd 139 rfl) <| Ac (Ci (i := i) Bo rfl rfl rfl (by first | rfl | omega) (by omega) rfl) (hd 140 rfl) <| Ac (B0 (Es Bw rfl rfl (by omega)) (show V.i .u64 _ = V.i .u64 (u.getD i 0) from congrArg (V.i .u64) ((Pe (by omega) (by omega)).trans (hat2 (i) (by omega))))) (hd 141 rfl) <| zmv rfl (hd 142 rfl) <| zmv rfl (hd 143 rfl) <| Ay (Eh (e := E0) Try.func94 rfl rfl (by kernel_rfl) (by kernel_rfl) rfl rfl rfl (fun w => Gq _ _ _ hxi.1 hxi.2 (by unfold msS; omega) (by unfold msS; omega) hb.1 hb.2 w) Dr) (hd 144 rfl) <| zmv rfl (hd 135 rfl) <| Ac (B0 (Ak rfl rfl) (show V.i .u64 _ = V.i .u64 (sbD (u.getD i 0) (msS u v q i (msN u v q i).2.1) (msN u v q i).2.2) from congrArg (V.i .u64) rfl)) (hd 145 rfl) <| Ac (B0 (Ak rfl rfl) (show V.i .u64 _ = V.i .u64 (sbB (u.getD i 0) (msS u v q i (msN u v q i).2.1) (msN u v q i).2.2) from congrArg (V.i .u64) rfl)) (hd 146 rfl) <| Ac (Ci (i := i) Bo rfl rfl rfl (by first | rfl | omega) (by omega) rfl) (hd 147 rfl) <| A1 (Cc rfl rfl rfl Bw (by omega)) ?_; refine zas rfl (hd 14 rfl) <| Ab <| Ag <| Ac (A9 rfl rfl (Ap (by omega) (by omega))) (hd 148 rfl) <| zmv rfl (hd 115 rfl) <| Ab ?_
          refine ⟨i + 1, ?_, ?_, (by show [(⟨79, 1, 0, true, A2 .u64 _⟩ : Ob), _] = [⟨79, 1, 0, true, A2 .u64 _⟩, _]; rw [Ace (by omega)]), Ba 84 rfl rfl ?_⟩
          · omega
          · omega
          · exact (.cons rfl (.cons rfl (.cons rfl (.v9 (.v9 (.v9 (.v5 (.u (.u (.u (.u .nil)))))))))))
        · obtain rfl : i = v.length := by omega
          refine By <| zsr <| zmv rfl (hd 150 rfl) <| zmv rfl (hd 151 rfl) <| zmv rfl (hd 152 rfl) <| zmv rfl (hd 153 rfl) <| Ac (Ci (i := v.length) Bo rfl rfl rfl (by first | rfl | omega) (by omega) rfl) (hd 154 rfl) <| Ac (B0 (Es Bw rfl rfl (by omega)) (show V.i .u64 _ = V.i .u64 (u.getD v.length 0) from congrArg (V.i .u64) ((Pe (by omega) (by omega)).trans (hat2 (v.length) (by omega))))) (hd 155 rfl) <| zmv rfl (hd 156 rfl) <| zmv rfl (hd 157 rfl) <| Ay (Eh (e := E0) Try.func94 rfl rfl (by kernel_rfl) (by kernel_rfl) rfl rfl rfl (fun w => Gq _ _ _ hxi.1 hxi.2 hc.1 hc.2 hb.1 hb.2 w) Dr) (hd 158 rfl) <| zmv rfl (hd 149 rfl) ?_; refine Ac (B0 (Ak rfl rfl) (show V.i .u64 _ = V.i .u64 (sbD (u.getD v.length 0) (msN u v q v.length).2.1 (msN u v q v.length).2.2) from congrArg (V.i .u64) rfl)) (hd 159 rfl) <| Ac (B0 (Ak rfl rfl) (show V.i .u64 _ = V.i .u64 (msB u v q) from congrArg (V.i .u64) rfl)) (hd 160 rfl) <| Ac (Ci (i := v.length) Bo rfl rfl rfl (by first | rfl | omega) (by omega) rfl) (hd 161 rfl) <| A1 (Cc rfl rfl rfl Bw (by omega)) <| zas rfl (hd 14 rfl) <| Ab <| Af <| Af <| Cs (H' := [⟨79, 1, 0, true, A2 .u64 (rwJ U j (msL u v q))⟩, ⟨79, 1, 0, true, A2 .u64 Q⟩]) (by show [(⟨79, 1, 0, true, A2 .u64 _⟩ : Ob), _] = [⟨79, 1, 0, true, A2 .u64 _⟩, _]; rw [Aci (by omega)]) ?_
          have hW : (rwJ U j (msL u v q)).length = U.length := Ke (by omega)
          refine Ag <| zmv rfl (hd 162 rfl) <| Ac (Cm rfl rfl) (hd 163 rfl) <| Ab ?_
          refine Bu rfl (fun h11 => ?_) (fun h11 => ?_)
          · have hb1 : msB u v q = 1 := by omega
            have hq9 : q - 1 = vl u / vl v := by omega
            have hgl2 : gsL u v q = bkL (msL u v q) v := if_neg (by omega)
            rw [hgl2] at hgl hgu hgv
            refine zsr <| zmv rfl (hd 164 rfl) <| Ac (B1 rfl rfl (r := vl u / vl v) (by rw [hq9]; exact Bh (by omega) (by omega))) (hd 165 rfl) <| zas rfl (hd 6 rfl) <| Ab <| Af <| Cs (H' := [⟨79, 1, 0, true, A2 .u64 (rwJ (rwJ U j (msL u v q)) j (adN (msL u v q) v 0).1)⟩, ⟨79, 1, 0, true, A2 .u64 Q⟩]) (by show _ = [(⟨79, 1, 0, true, A2 .u64 (rwJ (rwJ U j (msL u v q)) j [])⟩ : Ob), _]; rw [Abt]) <| Ag <| zas rfl (hd 21 rfl) <| Ab <| Af <| Af ?_; refine Ag <| zmv rfl (hd 166 rfl) <| Ac (Av Bo rfl) (hd 167 rfl) <| zmv rfl (hd 168 rfl) <| Ab <| Aw ?_
            refine B4 (G := Nat) (fun i => i ≤ v.length) (fun i => [(21, .i .u64 (adN (msL u v q) v i).2), (168, .i .i64 (i : Int)), (22, .u), (23, .u), (169, .u), (170, .u), (171, .u), (172, .u), (173, .u), (174, .u), (175, .u), (176, .u), (177, .u), (178, .u), (179, .u), (180, .u), (181, .u), (182, .u), (183, .u), (184, .u), (185, .u), (186, .u)]) (fun i => [⟨79, 1, 0, true, A2 .u64 (rwJ (rwJ U j (msL u v q)) j (adN (msL u v q) v i).1)⟩, ⟨79, 1, 0, true, A2 .u64 Q⟩]) (fun i => v.length - i) 0 ?_ ?_ rfl ?_
            · exact Nat.zero_le _
            · exact (.cons rfl (.cons rfl (.v9 (.v9 .nil))))
            · rintro i hi1
              have hal := Dk (msL u v q) v i
              have hf2 : (rwJ (rwJ U j (msL u v q)) j (adN (msL u v q) v i).1).length = (rwJ U j (msL u v q)).length := Ke (by omega)
              have hca := Q9 hum hP.uv i
              have hxa := Bg hum i
              have hya := Bg hP.uv i
              refine zsr <| Ac (Ch rfl rfl) (hd 169 rfl) <| Ab <| Af ?_
              refine Bu rfl (fun h12 => ?_) (fun h12 => ?_)
              · refine Am <| Af <| Aw <| zsr <| zmv rfl (hd 170 rfl) <| Ac (B8 (i := i) Bo rfl rfl (by first | rfl | omega) (by omega)) (hd 171 rfl) <| Ac (B7 Bw rfl rfl) (hd 172 rfl) <| zas rfl (hd 22 rfl) <| zas rfl (hd 23 rfl) <| Ab <| Ag <| zmv rfl (hd 174 rfl) ?_; refine zmv rfl (hd 175 rfl) <| zmv rfl (hd 176 rfl) <| zmv rfl (hd 177 rfl) <| Ac (Ci (i := i) Bo rfl rfl rfl (by first | rfl | omega) (by omega) rfl) (hd 178 rfl) <| Ac (B0 (Es Bw rfl rfl (by omega)) (show V.i .u64 _ = V.i .u64 ((msL u v q).getD i 0) from congrArg (V.i .u64) ((Pe (by omega) (by omega)).trans (Sf (by omega) (by omega))))) (hd 179 rfl) <| zmv rfl (hd 180 rfl) <| zmv rfl (hd 181 rfl) <| Ay (Eh (e := add64Entry) Try.func92 rfl rfl (by kernel_rfl) (by kernel_rfl) rfl rfl rfl (fun w => run_add64 _ _ _ hxa.1 hya.1 hca.1 hca.2 w) Dr) (hd 182 rfl) <| zmv rfl (hd 173 rfl) <| Ac (Ak rfl rfl) (hd 183 rfl) <| Ac (Ak rfl rfl) (hd 184 rfl) <| Ac (Ci (i := i) Bo rfl rfl rfl (by first | rfl | omega) (by omega) rfl) (hd 185 rfl) <| A1 (Cc rfl rfl rfl Bw (by omega)) ?_; refine zas rfl (hd 21 rfl) <| Ab <| Ag <| Ac (A9 rfl rfl (Ap (by omega) (by omega))) (hd 186 rfl) <| zmv rfl (hd 168 rfl) <| Ab ?_
                refine ⟨i + 1, ?_, ?_, (by show [(⟨79, 1, 0, true, A2 .u64 _⟩ : Ob), _] = [⟨79, 1, 0, true, A2 .u64 _⟩, _]; rw [Adn (by omega)]), Ba 44 rfl rfl ?_⟩
                · omega
                · omega
                · exact (.cons rfl (.cons rfl (.v9 (.v9 .nil))))
              · obtain rfl : i = v.length := by omega
                refine By <| Ag <| zmv rfl (hd 187 rfl) <| zmv rfl (hd 188 rfl) <| Ac (Ci (i := v.length) Bo rfl rfl rfl (by first | rfl | omega) (by omega) rfl) (hd 189 rfl) <| Ac (B0 (Es Bw rfl rfl (by omega)) (show V.i .u64 _ = V.i .u64 ((msL u v q).getD v.length 0) from congrArg (V.i .u64) ((Pe (by omega) (by omega)).trans (Sf (by omega) (by omega))))) (hd 190 rfl) <| zmv rfl (hd 191 rfl) <| Ac (B0 (A9 rfl rfl rfl) (show V.i .u64 _ = V.i .u64 (((msL u v q).getD v.length 0 + (adN (msL u v q) v v.length).2) % 18446744073709551616) from congrArg (V.i .u64) Eq)) (hd 192 rfl) <| Ac (Ci (i := v.length) Bo rfl rfl rfl (by first | rfl | omega) (by omega) rfl) (hd 193 rfl) <| A1 (Cc rfl rfl rfl Bw (by omega)) <| Ab <| Af <| Ag ?_; refine zmv rfl (hd 194 rfl) <| zas rfl (hd 4 rfl) <| Ab <| As ?_
                refine ⟨_, (.cons rfl .nil), rfl, (.cons Bc (.cons Bc .nil)), ?_⟩
                exact ⟨rfl, bkL (msL u v q) v, by show [(⟨79, 1, 0, true, A2 .u64 _⟩ : Ob), _] = [⟨79, 1, 0, true, A2 .u64 _⟩, _]; rw [Adl (by omega) (by omega)], by omega, hgu, hgv⟩
          · have hb0 : msB u v q = 0 := by omega
            have hq9 : q = vl u / vl v := by omega
            have hgl2 : gsL u v q = msL u v q := if_pos hb0
            rw [hgl2] at hgl hgu hgv
            refine Am <| zsr <| zmv rfl (hd 194 rfl) <| zas rfl (hd 4 rfl) <| Ab <| As ?_
            refine ⟨_, (.cons rfl .nil), rfl, (.cons Bc (.cons Bc .nil)), ?_⟩
            rw [← hq9]
            exact ⟨rfl, (msL u v q), rfl, by omega, hgu, hgv⟩

set_option maxRecDepth 100000 in
theorem Wp (a b : List Int) (la : a.length < 4294967296) (lb : b.length < 4294967296) (ua : A3 a) (ub : A3 b) (ta : tpd a) (tb : tpd b) (hb : b ≠ []) : Spec Try.prog 65 [.n false .u64 a, .n false .u64 b] (fun o => o = .ret (.t [.n false .u64 (lm (vl a / vl b)), .n false .u64 (lm (vl a % vl b))])) := by
  refine Az [(0, .n false .u64 a), (1, .n false .u64 b)] rfl Try.func65 rfl (zlb rfl) fun Γ hN hds hL hR => ?_
  have hd := B5 104 hN
  have hcv := Gh ua ub
  have hb0 := Rl ub tb hb
  have hva := Bq ua
  refine zsr <| zas rfl (hd 4 rfl) <| zas rfl (hd 5 rfl) <| Ab <| Af <| zsr <| zmv rfl (hd 15 rfl) <| zmv rfl (hd 16 rfl) ?_
  refine Aj Try.f71 (E6 a b la lb) rfl Try.func71 rfl rfl (Aa rfl (Aa rfl Ad)) (.cons .n (.cons .n .nil)) (hd 17 rfl) ?_ (fun ch hp => by simp at hp)
  rintro _ ⟨⟩; refine Ac (Ch rfl rfl) (hd 18 rfl) <| Ab ?_
  refine Bu rfl (fun h1 => ?_) (fun h1 => ?_)
  · have hlt : vl a < vl b := by rcases hcv with ⟨c, v⟩ | ⟨c, v⟩ | ⟨c, v⟩ <;> omega
    refine zsr <| zmv rfl (hd 19 rfl) <| zas rfl (hd 4 rfl) <| zas rfl (hd 5 rfl) <| Ab <| As ?_
    refine ⟨_, _, (.cons rfl (.cons rfl .nil)), (.t1 (.nil (fr := false) (k := .u64)) (.t1 .nn .t0)), ?_⟩
    rw [Int.ediv_eq_zero_of_lt hva hlt, Int.emod_eq_of_lt hva hlt, Xt, Acq ua ta]
  · have hge : vl b ≤ vl a := by rcases hcv with ⟨c, v⟩ | ⟨c, v⟩ | ⟨c, v⟩ <;> omega
    have hlen := X0 ua ub tb hb hge
    refine Am <| Af <| zsr <| zmv rfl (hd 20 rfl) <| Ac (Av Bo rfl) (hd 21 rfl) <| Ac (Dy rfl rfl) (hd 22 rfl) <| Ab ?_
    refine Bu rfl (fun h2 => ?_) (fun h2 => ?_)
    · obtain ⟨d, rfl⟩ : ∃ d, b = [d] := List.length_eq_one_iff.1 (by omega)
      have hdb := ub d (List.mem_singleton.2 rfl)
      have hd0 := N0 tb
      have hdp : 0 < d := by omega
      have hvd : vl [d] = d := by simp [vl]
      refine zsr <| zmv rfl (hd 23 rfl) <| Ac (Av Bo rfl) (hd 24 rfl) <| Ay (Fp (m := a.length) Ky rfl rfl rfl (by show 8 * a.length ≤ _; omega) (by unfold maxLen; omega) rfl) (hd 25 rfl) <| zas rfl (hd 6 rfl) <| zas rfl (hd 7 rfl) <| Ab <| Af <| zsr <| zmv rfl (hd 26 rfl) <| Ac (Av Bo rfl) (hd 27 rfl) ?_; refine Ac (B1 rfl rfl (Ap (by omega) (by omega))) (hd 28 rfl) <| zas rfl (hd 8 rfl) <| Ab <| Aw <| Cs (H' := [⟨79, 1, 0, true, A2 .u64 (List.replicate a.length 0 ++ (dvN a d (a.length - a.length)).1)⟩]) (by rw [Nat.sub_self]; show _ = [(⟨79, 1, 0, true, A2 .u64 (List.replicate a.length 0 ++ [])⟩ : Ob)]; rw [List.append_nil]; rfl) ?_
      refine B4 (G := Nat) (fun k => k ≤ a.length) (fun k => [(7, .i .u64 (dvN a d (a.length - k)).2), (8, .i .i64 ((k : Int) - 1)), (29, .u), (30, .u), (31, .u), (32, .u), (33, .u), (34, .u), (35, .u), (36, .u), (37, .u), (38, .u), (39, .u), (40, .u), (41, .u), (42, .u), (43, .u), (44, .u), (45, .u), (46, .u), (47, .u)]) (fun k => [⟨79, 1, 0, true, A2 .u64 (List.replicate k 0 ++ (dvN a d (a.length - k)).1)⟩]) (fun k => k) a.length ?_ ?_ rfl ?_
      · exact Nat.le_refl _
      · exact (.cons (by show some (V.i .u64 0) = some (V.i .u64 (dvN a d (a.length - a.length)).2); rw [Nat.sub_self]; rfl) (.cons rfl (.v9 (.v5 (.u (.u (.u (.u .nil))))))))
      · rintro k hc1
        have hr := Wn (a := a) hdp (a.length - k)
        have hx := Bg ua (k - 1)
        refine Af <| zsr <| zmv rfl (hd 29 rfl) <| Ac (Eu rfl rfl) (hd 30 rfl) <| Ab ?_
        refine Bu rfl (fun h3 => ?_) (fun h3 => ?_)
        · refine Am <| Af <| Aw <| Be (n := 17) _ rfl B2 <| zal 0 (Ao (A0 rfl) (hd 34 rfl)) rfl <| zal 1 (Ao (A0 rfl) (hd 35 rfl)) rfl <| Ax 2 [10, 11, 12, 13, 14, 15, 16] (Ao (A0 rfl) (hd 36 rfl)) rfl <| Ax 3 [5, 6, 10, 11, 12, 13, 14, 15, 16] (Ao (A0 rfl) (hd 37 rfl)) rfl <| Ax 4 [5, 6, 10, 11, 12, 13, 14, 15, 16] (Ao (A0 rfl) (hd 38 rfl)) rfl <| Ax 5 [6, 10, 11, 12, 13, 14, 15, 16] (Ao (B8 (i := k - 1) Bo rfl rfl (by omega) (by omega)) (hd 39 rfl)) rfl <| Ax 6 [10, 11, 12, 13, 14, 15, 16] (Ao (B7 Bw rfl rfl) (hd 40 rfl)) rfl <| Ax 7 [8, 9, 10, 11, 12, 13, 14, 15, 16] (Ao (A0 rfl) (hd 41 rfl)) rfl <| Ax 8 [9, 10, 11, 12, 13, 14, 15, 16] (Ao (B8 (i := 0) Bo rfl rfl rfl (by simp)) (hd 42 rfl)) rfl ?_; refine Ax 9 [10, 11, 12, 13, 14, 15, 16] (Ao (B7 Bw rfl rfl) (hd 43 rfl)) rfl ?_
          refine Bb 10 ?_ rfl (by kernel_rfl)
          refine A4 Try.f78 (O1 (dvN a d (a.length - k)).2 (a.getD (k - 1) 0) d hr.1 hr.2 hx.1 hx.2 hdb.2) rfl Try.func78 rfl rfl (Aa rfl (Aa rfl (Aa rfl Ad))) (.cons .i (.cons .i (.cons .i .nil))) (hd 44 rfl) ?_ (fun ch hp => by simp at hp)
          rintro _ ⟨⟩; refine zal 11 (Ao (A0 rfl) (hd 33 rfl)) rfl <| zal 12 (Ao (Ak rfl rfl) (hd 45 rfl)) rfl <| zal 13 (Gy rfl rfl (hd 46 rfl)) rfl <| zal 14 (Ao (Ci (i := k - 1) Bo rfl rfl rfl (by omega) (by omega) rfl) (hd 47 rfl)) rfl ?_
          refine Bb 15 ?_ rfl (by kernel_rfl)
          refine A7 (Cc rfl rfl rfl Bw (by simp only [List.length_append, List.length_replicate, Gg]; omega)) rfl <| zal 16 (Ao (Cr rfl) (hd 7 rfl)) rfl <| Bi (by kernel_rfl) <| Ag <| zmv rfl (hd 31 rfl) <| Ac (B1 rfl rfl (Ap (by omega) (by omega))) (hd 32 rfl) <| zas rfl (hd 8 rfl) <| Ab ?_
          refine ⟨k - 1, ?_, ?_, (by show [(⟨79, 1, 0, true, A2 .u64 _⟩ : Ob)] = [⟨79, 1, 0, true, A2 .u64 _⟩]; rw [Nj (by omega), Mi (by omega) hc1]), Ba 42 rfl rfl ?_⟩
          · omega
          · omega
          · exact (.cons (by show some (V.i .u64 _) = some (V.i .u64 _); rw [Mi (by omega) hc1]) (.cons (by show some (V.i .i64 _) = some (V.i .i64 _); congr 2; omega) (.v9 (.v5 (.u (.u (.u (.u .nil))))))))
        · obtain rfl : k = 0 := by omega
          refine By <| zsr <| Gz (k := .u64) (l := List.replicate 0 0 ++ (dvN a d (a.length - 0)).1) (l' := (dvN a d a.length).1) 6 rfl rfl (by simp [Gg]) (by rw [Nat.sub_zero, List.drop_zero]; show List.take _ (dvN a d a.length).1 = _; rw [List.take_of_length_le (by rw [Gg]; exact Nat.le_refl _)]) hL <| zmv rfl (hd 48 rfl) ?_
          refine Aj Try.f48 (E9 (dvN a d a.length).1 (by rw [Gg]; omega)) rfl Try.func48 rfl rfl (Aa rfl Ad) (.cons .n .nil) (hd 49 rfl) ?_ (fun ch hp => by simp at hp)
          rintro _ ⟨⟩; refine zmv rfl (hd 50 rfl) ?_
          refine Aj Try.f63 (Jk (dvN a d (a.length - 0)).2) rfl Try.func63 rfl rfl (Aa rfl Ad) (.cons .i .nil) (hd 51 rfl) ?_ (fun ch hp => by simp at hp)
          rintro _ ⟨⟩; refine zas rfl (hd 4 rfl) <| zas rfl (hd 5 rfl) <| Ab <| As ?_
          refine ⟨_, _, (.cons rfl (.cons rfl .nil)), (.t1 .nn (.t1 .nn .t0)), ?_⟩
          have hde := X4 ua hdp
          rw [Nat.sub_zero, hde.2, Aab (Int.emod_nonneg _ (by omega)) (by have := Int.emod_lt_of_pos (vl a) hdp; omega), hde.1, hvd]
    · have hbl : 0 < b.length := List.length_pos_iff.2 hb
      obtain ⟨n, hn⟩ : ∃ n, b.length = n + 2 := ⟨b.length - 2, by omega⟩
      have htb := tb hb
      rw [hn, show n + 2 - 1 = n + 1 by omega] at htb
      have hbt := Bg ub (n + 1)
      obtain ⟨s, hs⟩ : ∃ s : Nat, 64 - bl 64 (b.getD (n + 1) 0).toNat = s := ⟨_, rfl⟩
      have hz := S6 (show 0 < b.getD (n + 1) 0 by omega) hbt.2
      rw [hs] at hz
      obtain ⟨s64, y0, y1⟩ := hz
      obtain ⟨v, hv⟩ : ∃ v, (upL b s).take b.length = v := ⟨_, rfl⟩
      have hv2 := W7 s64 ub (by rw [hn]; exact y1) hb
      have uv : A3 v := hv ▸ D4 (Vr s64 ub) _
      have hlv : v.length = n + 2 := by rw [← hv, List.length_take, Gn]; omega
      rw [hv] at hv2
      have htop := Xz ub uv tb hn hlv hv2
      have hul := Gn a s
      refine Am <| zsr <| zmv rfl (hd 52 rfl) <| zmv rfl (hd 53 rfl) <| Ac (Av Bo rfl) (hd 54 rfl) <| Ac (B1 rfl rfl (r := ((n + 1 : Nat) : Int)) (by rw [Ap (by omega) (by omega)]; omega)) (hd 55 rfl) <| Ac (B8 (i := n + 1) Bo rfl rfl (by first | rfl | omega) (by omega)) (hd 56 rfl) <| Ac (B0 (B7 Bw rfl rfl) (show V.i .u64 _ = V.i .u64 (((b.getD (n + 1) 0).toNat : Int)) from congrArg (V.i .u64) (Int.toNat_of_nonneg hbt.1).symm)) (hd 57 rfl) ?_
      refine Aj Try.f79 (Ae4 (b.getD (n + 1) 0).toNat (by omega)) rfl Try.func79 rfl rfl (Aa rfl Ad) (.cons .i .nil) (hd 58 rfl) ?_ (fun ch hp => by simp at hp)
      rintro _ ⟨⟩; refine Ac (D1 Mt Ru rfl (r := (s : Int)) (by rw [hs]; exact Bh (by omega) (by omega))) (hd 59 rfl) <| zas rfl (hd 9 rfl) <| Ab <| Af <| Be (n := 11) _ rfl B2 <| Ax 0 [2, 5, 8, 9, 10] (Ao (A0 rfl) (hd 60 rfl)) rfl <| Ax 1 [2, 5, 8, 9, 10] (Ao (A0 rfl) (hd 61 rfl)) rfl <| Ax 3 [5, 8, 9, 10] (Ao (A0 rfl) (hd 63 rfl)) rfl <| Ax 4 [5, 8, 9, 10] (Ao (A0 rfl) (hd 64 rfl)) rfl <| Ax 6 [7, 8, 10] (Ao (A0 rfl) (hd 66 rfl)) rfl <| zal 7 (Ao (Av Bo rfl) (hd 67 rfl)) rfl ?_
      refine Bb 2 ?_ rfl (by kernel_rfl)
      refine Fa Try.f80 (Ae7 s a (by omega) s64 ua) (fun o G ⟨_, h⟩ => h ▸ Al Bc Ar) rfl Try.func80 rfl rfl (Aa rfl (Aa rfl Ad)) (.cons .n (.cons .i .nil)) (hd 62 rfl) ?_ (fun ch G hp => by simp at hp)
      rintro y G ⟨hy, rfl⟩; injection hy with hy; subst hy
      show JA _ _ _ _ _ ((62, .o 0 0 0 (a.length + 1)) :: _) _ _
      refine Bb 5 ?_ rfl (by kernel_rfl)
      refine A4 Try.f80 (Ae6 s b (by omega) s64 ub) rfl Try.func80 rfl rfl (Aa rfl (Aa rfl Ad)) (.cons .n (.cons .i .nil)) (hd 65 rfl) ?_ (fun ch hp => by simp at hp)
      rintro _ ⟨⟩; refine zal 8 (Ao (B0 (Il Bo rfl Gi (C8 rfl rfl) (.inl rfl) (by omega) (by rw [Gn]; omega)) (show V.n _ .u64 _ = V.n _ .u64 v by rw [List.drop_zero, hv])) (hd 68 rfl)) rfl <| zal 9 (Ao (Cr rfl) (hd 10 rfl)) rfl <| zal 10 (Ao (Cr rfl) (hd 11 rfl)) rfl <| Bi (by kernel_rfl) <| zsr <| zmv rfl (hd 69 rfl) <| Ac (Av Bo rfl) (hd 70 rfl) <| zas rfl (hd 12 rfl) <| Ab <| zsr <| zmv rfl (hd 71 rfl) ?_; refine Ac (Av Bo rfl) (hd 72 rfl) <| zmv rfl (hd 73 rfl) <| Ac (B1 rfl rfl (r := ((a.length - v.length : Nat) : Int)) (by rw [Ap (by omega) (by omega)]; omega)) (hd 74 rfl) <| Ac (A9 rfl rfl (r := ((a.length - v.length + 1 : Nat) : Int)) (by rw [Ap (by omega) (by omega)]; omega)) (hd 75 rfl) <| Ay (Fp (m := a.length - v.length + 1) Ky rfl rfl rfl (by show 8 * (a.length - v.length + 1) ≤ _; omega) (by unfold maxLen; omega) rfl) (hd 76 rfl) <| zas rfl (hd 13 rfl) <| Ab <| Af <| zsr <| zmv rfl (hd 77 rfl) <| Ac (Av Bo rfl) (hd 78 rfl) <| zmv rfl (hd 79 rfl) ?_; refine Ac (B1 rfl rfl (r := ((a.length - v.length : Nat) : Int)) (by rw [Ap (by omega) (by omega)]; omega)) (hd 80 rfl) <| zas rfl (hd 14 rfl) <| Ab <| Aw <| Cs (H' := [⟨79, 1, 0, true, A2 .u64 (upL a s)⟩, ⟨79, 1, 0, true, A2 .u64 (List.replicate (a.length - b.length + 1) 0 ++ [])⟩]) (by rw [List.append_nil, hn, ← hlv]; rfl) ?_
      refine B4 (G := Nat × List Int × List Int) (fun g => g.1 ≤ a.length - b.length + 1 ∧ Kn (vl a * 2 ^ s) v (a.length + 1) g.1 g.2.1 g.2.2 ∧ g.2.2.length = a.length - b.length + 1 - g.1) (fun g => [(14, .i .i64 ((g.1 : Int) - 1)), (81, .u), (82, .u), (83, .u), (84, .u), (85, .u), (86, .u), (87, .u), (88, .u), (89, .u), (90, .u), (91, .u), (92, .u), (93, .u), (94, .u), (95, .u), (96, .u)]) (fun g => [⟨79, 1, 0, true, A2 .u64 g.2.1⟩, ⟨79, 1, 0, true, A2 .u64 (List.replicate g.1 0 ++ g.2.2)⟩]) (fun g => g.1) (a.length - b.length + 1, upL a s, []) ?_ ?_ rfl ?_
      · exact ⟨Nat.le_refl _, Py s64 ua ub tb hb hv2 hlen, by show 0 = _; omega⟩
      · exact (.cons (by show some (V.i .i64 _) = some (V.i .i64 _); congr 2; omega) (.v9 (.v5 (.u .nil))))
      · rintro ⟨k, U, Qs⟩ ⟨hk, hK, hQl⟩
        dsimp only at hk hK hQl
        refine Af <| zsr <| zmv rfl (hd 81 rfl) <| Ac (Eu rfl rfl) (hd 82 rfl) <| Ab ?_
        refine Bu rfl (fun h4 => ?_) (fun h4 => ?_)
        · obtain ⟨k, rfl⟩ : ∃ m, k = m + 1 := ⟨k - 1, by omega⟩
          have hG := hK.gup uv hlv htop (by omega)
          have hKl := hK.lu
          refine Am <| Af <| Aw <| Ag <| zmv rfl (hd 85 rfl) <| zmv rfl (hd 86 rfl) <| zmv rfl (hd 87 rfl) <| zmv rfl (hd 88 rfl) <| zmv rfl (hd 89 rfl) <| zmv rfl (hd 90 rfl) <| Ac (A9 rfl rfl (r := ((k + v.length : Nat) : Int)) (by rw [Ap (by omega) (by omega)]; omega)) (hd 91 rfl) <| Ac (A9 rfl rfl (r := ((k + v.length + 1 : Nat) : Int)) (by rw [Ap (by omega) (by omega)]; omega)) (hd 92 rfl) <| Ac (S7 (l := k) (h := k + (n + 3)) (r := k) (n := n + 3) Bo rfl rfl (C8 rfl (by omega)) (C8 rfl (by omega)) (by omega) (by omega) (by omega) (by omega)) (hd 93 rfl) ?_; refine zmv rfl (hd 94 rfl) ?_
          refine Fy Try.f81 (Tx U (slJ U k (n + 3)) v (List.replicate (k + 1) 0 ++ Qs) k n (by omega) (by omega) hK.uu rfl hG) rfl Try.func81 rfl rfl (Aa rfl (Aa rfl Ad)) (.cons (.same rfl) (.cons .n .nil)) (Cx Dz (Cx Dz Dj)) (hd 95 rfl) ?_ (fun ch H2 hp => by simp at hp)
          rintro y H2 ⟨hy, r, rfl, hrl, hru, hrv⟩; injection hy with hy; subst hy; refine Ac (Ci (i := k) Bo rfl rfl rfl (by omega) (by omega) rfl) (hd 96 rfl) <| A1 (Cc rfl rfl rfl Bw (by simp only [List.length_append, List.length_replicate]; omega)) <| Ab <| Ag <| zmv rfl (hd 83 rfl) <| Ac (B1 rfl rfl (Ap (by omega) (by omega))) (hd 84 rfl) <| zas rfl (hd 14 rfl) <| Ab ?_
          refine ⟨(k, rwJ U k r, vl (slJ U k (n + 3)) / vl v :: Qs), ?_, ?_, (by show [_, (⟨79, 1, 0, true, A2 .u64 _⟩ : Ob)] = [_, ⟨79, 1, 0, true, A2 .u64 _⟩]; rw [Ub]), Ba 34 rfl rfl ?_⟩
          · exact ⟨by show k ≤ _; omega, hK.next hG (by omega) hrl hru hrv, by show (_ :: Qs).length = _; rw [List.length_cons]; omega⟩
          · show k < k + 1
            omega
          · exact (.cons (by show some (V.i .i64 _) = some (V.i .i64 _); congr 2; omega) (.v9 (.v5 (.u .nil))))
        · obtain rfl : k = 0 := by omega
          have hKl := hK.lu
          obtain ⟨hf1, hf2, hf3⟩ := hK.fin s64 hv2 hb0 ua uv (by omega)
          refine By <| Af <| Ir (k := .u64) (l := List.replicate 0 0 ++ Qs) (l' := Qs) 13 rfl rfl (by simp only [List.length_append, List.length_replicate]; omega) (by rw [List.drop_zero]; show List.take _ Qs = _; rw [List.take_of_length_le (by omega)]) hL <| Ir (k := .u64) (l := U) (l' := U) 10 rfl rfl (by omega) (by rw [List.drop_zero, List.take_of_length_le (by omega)]) hL <| Be (n := 9) _ rfl B2 <| Ax 0 [1, 6, 7, 8] (Ao (A0 rfl) (hd 97 rfl)) rfl <| Ax 2 [4, 6, 7, 8] (Ao (A0 rfl) (hd 99 rfl)) rfl <| Ax 3 [4, 6, 7, 8] (Ao (A0 rfl) (hd 100 rfl)) rfl <| Ax 4 [6, 7, 8] (Ao (B0 (Il Bo rfl Gi (C8 rfl rfl) (.inl rfl) (by omega) (by omega)) (show V.n _ .u64 _ = V.n _ .u64 (U.take v.length) by rw [List.drop_zero])) (hd 101 rfl)) rfl <| Ax 5 [6, 7, 8] (Ao (A0 rfl) (hd 102 rfl)) rfl ?_
          refine Bb 1 ?_ rfl (by kernel_rfl)
          refine A4 Try.f48 (E9 Qs (by omega)) rfl Try.func48 rfl rfl (Aa rfl Ad) (.cons .n .nil) (hd 98 rfl) ?_ (fun ch hp => by simp at hp)
          rintro y hy; injection hy with hy; subst hy
          refine Bb 6 ?_ rfl (by kernel_rfl)
          refine A4 Try.f82 (Lf s (U.take v.length) (by rw [List.length_take]; omega) s64 (D4 hK.uu _)) rfl Try.func82 rfl rfl (Aa rfl (Aa rfl Ad)) (.cons .n (.cons .i .nil)) (hd 103 rfl) ?_ (fun ch hp => by simp at hp)
          rintro _ ⟨⟩; refine zal 7 (Ao (Cr rfl) (hd 4 rfl)) rfl <| zal 8 (Ao (Cr rfl) (hd 5 rfl)) rfl <| Bi (by kernel_rfl) <| As ?_
          refine ⟨_, _, (.cons rfl (.cons rfl .nil)), (.t1 .nn (.t1 .nn .t0)), ?_⟩
          rw [hf1, hf3]

theorem Ql (v : Int) (hl : (lm v).length < 1099511627776) : Spec Try.prog 48 [.n false .u64 (lm v)] (fun o => o = .ret (.n true .u64 (lm v))) := by
  have h := E9 (lm v) hl
  rwa [Rv (Acp v)] at h
theorem Ek (v : Int) (hl : (lm v).length < 1099511627776) : Spec Try.prog 33 [.n false .u64 (lm v)] (fun o => o = .ret (.i .i64 (Bm v : Int))) := by
  have h := Ed (lm v) hl (Cq v)
  rwa [Oi] at h
theorem Hm (s : Bool) (l : List Int) (v : Int) (hl : l.length < 1099511627776) (hu : A3 l) (hv : sv s l = v) : Spec Try.prog 32 [.a [.b s, .n false .u64 l]] (fun o => o = .ret (.a [.b (decide (v < 0)), .n true .u64 (lm v)])) := by
  have h := Hn s l hl
  have e := E1 hu hv
  rwa [e.1, e.2.1] at h
theorem Ph (s : Bool) (l : List Int) (v : Int) (hl : l.length < 1099511627776) (hu : A3 l) (hv : sv s l = v) (h : Bm v ≤ 67108864) : Spec Try.prog 68 [.b s, .n false .u64 l, .i .i64 0] (fun o => o = .ret (.t [.a [.b (decide (v < 0)), .n true .u64 (lm v)], .i .i64 0])) := by
  have e := E1 hu hv
  have h := Kf s l hl hu (by omega)
  rwa [e.1, e.2.1] at h
theorem Wo (v w : Int) (hv : (lm v).length < 4294967296) (hw : (lm w).length < 4294967296) (h0 : w ≠ 0) : Spec Try.prog 65 [.n false .u64 (lm v), .n false .u64 (lm w)] (fun o => o = .ret (.t [.n false .u64 (lm (qn v w)), .n false .u64 (lm (rn v w))])) := by
  have h := Wp (lm v) (lm w) hv hw (Cq v) (Cq w) (Acp v) (Acp w) (Nb h0)
  rwa [Og, Og] at h
theorem Aat (v w : Int) (h0 : 0 ≤ w) (hle : w ≤ v) (hv : Bm v ≤ 67108864) : Spec Try.prog 86 [.n false .u64 (lm v), .n false .u64 (lm w)] (fun o => o = .ret (.t [.n false .u64 (lm (v - w)), .i .i64 0])) := by
  have hw : Bm w ≤ 67108864 := Nat.le_trans (A5 (by omega)) hv
  have hlv := Bf hv
  have hlw := Bf hw
  have ev : vl (lm v) = v := by rw [Og]; omega
  have ew : vl (lm w) = w := by rw [Og]; omega
  have hd : vl (Nu (lm v) (lm w)) = v - w := by rw [Nw (Cq v) (Cq w) (by omega), ev, ew]
  have hu : A3 (Nu (lm v) (lm w)) := Mx (Bk (Cq v)) (Bk (Cq w)) _
  have e := Ka hu hd
  have hc := Gh (Cq v) (Cq w)
  have h := U5 (lm v) (lm w) (by omega) (by omega) (Cq v) (Cq w) (by rcases hc with ⟨c, x⟩ | ⟨c, x⟩ | ⟨c, x⟩ <;> omega) (by rw [e, Oi]; exact Nat.le_trans (A5 (by omega)) hv)
  rwa [e] at h
theorem Vh (v : Int) (h0 : 0 ≤ v) (hv : Bm (v + 1) ≤ 67108864) : Spec Try.prog 85 [.n false .u64 (lm v), .n false .u64 [1]] (fun o => o = .ret (.t [.n false .u64 (lm (v + 1)), .i .i64 0])) := by
  have hlv := Bf (Nat.le_trans (A5 (show v.natAbs ≤ (v + 1).natAbs by omega)) hv)
  have ev : vl (lm v) = v := by rw [Og]; omega
  have u1 : A3 [1] := H8 (by decide) (by decide)
  have hd : vl (Lu (lm v) [1]) = v + 1 := by rw [Nv, ev]; rfl
  have hc := Q9 (a := (swL (trm (lm v)) (trm [1])).1) (b := (swL (trm (lm v)) (trm [1])).2) (by unfold swL; split; exact Bk u1; exact Bk (Cq v)) (by unfold swL; split; exact Bk (Cq v); exact Bk u1) (swL (trm (lm v)) (trm [1])).1.length
  have hu : A3 (Lu (lm v) [1]) := Ei (Q8 _) hc.1 (by omega)
  have e := Ka hu hd
  have h := Vg (lm v) [1] (by omega) (by decide) (Cq v) u1 (by rw [e, Oi]; exact hv)
  rwa [e] at h
theorem Vd (v w : Int) (hv : Bm v ≤ 67108864) (hw : Bm w ≤ 67108864) (h0 : w ≠ 0) : Spec Try.prog 83 [.n false .u64 (lm v), .n false .u64 (lm w)] (fun o => o = .ret (.t [.n false .u64 (lm (qn v w)), .n false .u64 (lm (rn v w)), .i .i64 0])) := by
  refine Az [(0, .n false .u64 (lm v)), (1, .n false .u64 (lm w))] rfl Try.func83 rfl (zlb rfl) fun Γ hN hds hL hR => ?_
  have hd := B5 32 hN
  have hlv := Bf hv
  have hlw := Bf hw
  have hle := A5 (v := qn v w) (w := v) Qu
  have hlr := A5 (v := rn v w) (w := w) (Mz h0).1
  have hlq := Bf (v := qn v w) (by omega)
  have hlR := Bf (v := rn v w) (by omega)
  have hne := Nb h0
  refine zsr <| zas rfl (hd 4 rfl) <| zas rfl (hd 5 rfl) <| zas rfl (hd 6 rfl) <| Ab <| zsr <| zmv rfl (hd 9 rfl) ?_
  refine Aj Try.f48 (Ql v (by omega)) rfl Try.func48 rfl rfl (Aa rfl Ad) (.cons .n .nil) (hd 10 rfl) ?_ (fun ch hp => by simp at hp)
  rintro _ ⟨⟩; refine zmv rfl (hd 11 rfl) ?_
  refine Aj Try.f48 (Ql w (by omega)) rfl Try.func48 rfl rfl (Aa rfl Ad) (.cons .n .nil) (hd 12 rfl) ?_ (fun ch hp => by simp at hp)
  rintro _ ⟨⟩; refine zas rfl (hd 0 rfl) <| zas rfl (hd 1 rfl) <| Ab <| Af <| zsr <| zmv rfl (hd 13 rfl) <| Ac (Av Bo rfl) (hd 14 rfl) <| Ac (Cd (Dy rfl rfl) (fun h => hne (List.eq_nil_of_length_eq_zero (by omega)))) (hd 15 rfl) <| Ab <| Bl rfl <| Am <| Af ?_; refine Ag <| zmv rfl (hd 17 rfl) <| zmv rfl (hd 18 rfl) ?_
  refine Aj Try.f65 (Wo v w (by omega) (by omega) h0) rfl Try.func65 rfl rfl (Aa rfl (Aa rfl Ad)) (.cons .n (.cons .n .nil)) (hd 19 rfl) ?_ (fun ch hp => by simp at hp)
  rintro _ ⟨⟩; refine zmv rfl (hd 16 rfl) <| Ac (Ak rfl rfl) (hd 20 rfl) <| Ac (Ak rfl rfl) (hd 21 rfl) <| zas rfl (hd 7 rfl) <| zas rfl (hd 8 rfl) <| Ab <| Af <| zsr <| zmv rfl (hd 22 rfl) ?_
  refine Aj Try.f33 (Ek (qn v w) (by omega)) rfl Try.func33 rfl rfl (Aa rfl Ad) (.cons .n .nil) (hd 23 rfl) ?_ (fun ch hp => by simp at hp)
  rintro _ ⟨⟩; refine Ac (Cd (C0 rfl rfl) (by omega)) (hd 24 rfl) <| zmv rfl (hd 25 rfl) <| Bn 25 rfl rfl (A0 rfl) (hd 26 rfl) ?_
  refine Eb Try.f33 25 rfl rfl (Ek (rn v w) (by omega)) rfl Try.func33 rfl rfl (Aa rfl Ad) (.cons .n .nil) (hd 27 rfl) ?_ (fun ch hp => by simp at hp)
  rintro _ ⟨⟩; refine Bn 25 rfl rfl (Cd (C0 rfl rfl) (by omega)) (hd 28 rfl) <| Ac (B9 rfl rfl) (hd 29 rfl) <| Ab <| Bl rfl <| Am <| zsr <| zmv rfl (hd 30 rfl) <| zmv rfl (hd 31 rfl) <| zas rfl (hd 4 rfl) <| zas rfl (hd 5 rfl) <| zas rfl (hd 6 rfl) <| Ab ?_; refine As ?_
  refine ⟨_, _, (.cons rfl (.cons rfl (.cons rfl .nil))), (.t1 .n (.t1 .n (.t1 .i .t0))), ?_⟩
  exact rfl

theorem Aa5 (v w : Int) : Spec Try.prog 95 [.n false .u64 (lm (qn v w)), .n false .u64 (lm (rn v w)), .n false .u64 (lm w), .b (ng v w), .b (decide (w < 0)), .b (decide (v < 0))] (fun o => o = .ret (.b (gro 0 v w))) := by
  refine Az [(0, .n false .u64 (lm (qn v w))), (1, .n false .u64 (lm (rn v w))), (2, .n false .u64 (lm w)), (3, .b (ng v w)), (4, .b (decide (w < 0))), (5, .b (decide (v < 0)))] rfl Try.func95 rfl (zlb rfl) fun Γ hN hds hL hR => ?_
  have hd := B5 13 hN
  refine zsr <| zas rfl (hd 12 rfl) <| Ab <| zsr <| zas rfl (hd 12 rfl) <| Ab <| As ?_
  refine ⟨_, _, (.cons rfl .nil), .b, ?_⟩
  exact rfl

theorem W3 (v w : Int) : Spec Try.prog 100 [.n false .u64 (lm (qn v w)), .n false .u64 (lm (rn v w)), .n false .u64 (lm w), .b (ng v w), .b (decide (w < 0)), .b (decide (v < 0))] (fun o => o = .ret (.b (gro 4 v w))) := by
  refine Az [(0, .n false .u64 (lm (qn v w))), (1, .n false .u64 (lm (rn v w))), (2, .n false .u64 (lm w)), (3, .b (ng v w)), (4, .b (decide (w < 0))), (5, .b (decide (v < 0)))] rfl Try.func100 rfl (zlb rfl) fun Γ hN hds hL hR => ?_
  have hd := B5 14 hN
  refine zsr <| zas rfl (hd 12 rfl) <| Ab <| zsr <| zmv rfl (hd 13 rfl) <| zas rfl (hd 12 rfl) <| Ab <| As ?_
  refine ⟨_, _, (.cons rfl .nil), .b, ?_⟩
  exact rfl


theorem O0 : Spec Try.prog 63 [.i .u64 1] (fun o => o = .ret (.n true .u64 [1])) := Jk 1
theorem Id (s : Bool) (l : List Int) (v : Int) (hl : l.length < 1099511627776) (hu : A3 l) (hv : sv s l = v) (h : Bm v ≤ 67108864) : SpecM Try.prog 68 [.b s, .n false .u64 l, .i .i64 0] [] (fun o G => o = .ret (.t [.a [.b (decide (v < 0)), .o 0 0 0 (lm v).length], .i .i64 0]) ∧ G = [⟨79, 1, 0, true, A2 .u64 (lm v)⟩]) :=
  (Ie s l 0 v (.inl ⟨rfl, hu, hl, hv⟩)).mono fun o G ⟨s2, r, e, ho, hG, hR⟩ => by
    rcases hR with ⟨_, h1, h2, h3⟩ | ⟨hb, _⟩
    · subst h1; subst h2; subst h3; exact ⟨ho, hG⟩
    · omega
end Go.Proofs.Ythbbbopbglbagaa.Vc
