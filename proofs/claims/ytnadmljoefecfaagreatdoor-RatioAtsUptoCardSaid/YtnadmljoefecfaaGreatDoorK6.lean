/- The law RatioAts of every input of bulk at most 1048576: it returns true, and the input reads as it did. Texts joined: Wz, Ya, Yb, Ye, Yg, Yh, Yi, Yj, Yk, Yl, Ym, Yo, Yp, Yq, Yr, Yz, Pa, Pb, Pc, Pd, Pe, Pf, Pg, Ph. -/
import Derived.Test.YtnadmljoefecfaaGreatDoorK5
set_option linter.unusedVariables false
set_option linter.unusedSimpArgs false
set_option maxHeartbeats 4000000
namespace Go.Proofs.YtnadmljoefecfaaGreatDoor.Vc
open Go Go.RowKit
theorem Norm_n (l : List Int) (hl : l.length < 1099511627776) : SpecM Tryz.prog 66 [.n false .u64 l] [] (fun o G => o = .ret (.o 0 0 0 (trm l).length) ∧ G = [⟨71, 1, 0, true, ints .u64 (trm l)⟩]) := by
  refine Eb [(0, .n false .u64 l)] rfl Tryz.func66 rfl (zlb rfl) fun Γ hN hds hL hR => ?_
  have hd := Bt 6 hN
  have hm := Dj l
  refine zsr <| zas rfl (hd 2 rfl) <| Aa <| zsr <| zmv rfl (hd 3 rfl) ?_
  refine Ah Tryz.f72 (Fn l hl) rfl Tryz.func72 rfl rfl (Ab rfl Ad) (.cons .n .nil) (hd 4 rfl) ?_ (fun ch hp => by simp at hp)
  rintro _ ⟨⟩; refine A4 (Qq (id := 0) Lr rfl rfl Ag6 (by omega) (by unfold maxLen; omega) rfl) (hd 5 rfl) <| zas rfl (hd 2 rfl) <| Aa <| Ao ?_
  refine ⟨[0], _, (.o 0 0 0 (trm l).length), (.cons rfl .nil), rfl, rfl, (by decide), (by first | exact An A8 Ax | exact An rfl Ax), ?_⟩
  exact ⟨rfl, rfl⟩

theorem Aif (s : Bool) (l : List Int) (hl : l.length < 1099511627776) : SpecM Tryz.prog 101 [.a [.b s, .n false .u64 l]] [] (fun o G => o = .ret (.a [.b (s && decide (0 < ((trm l).length : Int))), .o 0 0 0 (trm l).length]) ∧ G = [⟨71, 1, 0, true, ints .u64 (trm l)⟩]) := by
  refine Eb [(0, .a [.b s, .n false .u64 l])] rfl Tryz.func101 rfl (zlb rfl) fun Γ hN hds hL hR => ?_
  have hd := Bt 16 hN
  refine zsr <| A4 (By (id := 0) (n := 2) rfl rfl rfl (by decide) rfl) (hd 1 rfl) <| A4 (At (id := 1) A7 (by decide) rfl (by decide) rfl) (hd 2 rfl) <| Aa <| zsr <| Ac (Bl Cw rfl rfl rfl) (hd 4 rfl) <| Ac (Be D8 rfl rfl rfl) (hd 5 rfl) ?_
  refine Fb Tryz.f66 (Norm_n l hl) (fun o G ⟨_, h⟩ => h ▸ An A8 Ax) rfl Tryz.func66 rfl rfl (Ab rfl Ad) (.cons .n .nil) (hd 6 rfl) ?_ (fun ch G hp => by simp at hp)
  rintro y G ⟨hy, rfl⟩; injection hy with hy; subst hy
  show JO _ _ _ _ ((6, .o 2 0 0 (trm l).length) :: _) _ _
  refine zas rfl (hd 3 rfl) <| Aa <| zsr <| Ac (Bl Dm rfl rfl rfl) (hd 7 rfl) <| Ac (Be Ir rfl rfl rfl) (hd 8 rfl) <| zmv rfl (hd 9 rfl) ?_
  refine H4 9 rfl (fun h1 => ?_) (fun h1 => ?_)
  · refine Ay 9 rfl rfl (Ar rfl) (hd 10 rfl) <| Ay 9 rfl rfl (C6 Bc rfl rfl) (hd 11 rfl) <| Ay 9 rfl rfl (Ca rfl rfl) (hd 12 rfl) <| Ac (A9 rfl rfl) (hd 13 rfl) <| zmv rfl (hd 14 rfl) <| Ac (Bn (is := [0, 1]) (xs := [.tmp 13, .tmp 14]) A7 C9 rfl (Ab rfl (Ab rfl Ad)) rfl (by first | (simp [B9, cellsV]; done) | (simp [B9, cellsV, old]; done)) (B7 rfl) rfl) (hd 15 rfl) <| A6 (Ak rfl rfl rfl B8 rfl rfl (zlb rfl)) <| Aa <| Ao ?_
    refine ⟨[2], _, (.a [.b (decide (0 < ((trm l).length : Int))), .o 0 0 0 (trm l).length]), (.cons (ResV.cell B0 rfl rfl rfl rfl) .nil), rfl, rfl, (by decide), (by first | exact An A8 Ax | exact An rfl Ax), ?_⟩
    exact ⟨by simp_all, rfl⟩
  · refine Bk 9 rfl rfl rfl (hd 10 rfl) <| Bk 9 rfl rfl rfl (hd 11 rfl) <| Bk 9 rfl rfl rfl (hd 12 rfl) <| Ac (A3 rfl rfl) (hd 13 rfl) <| zmv rfl (hd 14 rfl) <| Ac (Bn (is := [0, 1]) (xs := [.tmp 13, .tmp 14]) A7 C9 rfl (Ab rfl (Ab rfl Ad)) rfl (by first | (simp [B9, cellsV]; done) | (simp [B9, cellsV, old]; done)) (B7 rfl) rfl) (hd 15 rfl) <| A6 (Ak rfl rfl rfl B8 rfl rfl (zlb rfl)) <| Aa <| Ao ?_
    refine ⟨[2], _, (.a [.b false, .o 0 0 0 (trm l).length]), (.cons (ResV.cell B0 rfl rfl rfl rfl) .nil), rfl, rfl, (by decide), (by first | exact An A8 Ax | exact An rfl Ax), ?_⟩
    exact ⟨by simp_all, rfl⟩

theorem fits_n (s : Bool) (l : List Int) (v : Int) (hl : l.length < 1099511627776) (hu : Az l) (hv : sv s l = v) : SpecM Tryz.prog 125 [.a [.b s, .n false .u64 l]] [] (fun o G => ∃ (s2 : Bool) (r : List Int) (e : Int), o = .ret (.t [.a [.b s2, .o 0 0 0 r.length], .i .i64 e]) ∧ G = [⟨71, 1, 0, true, ints .u64 r⟩] ∧ Res (v) s2 r e) := by
  refine Eb [(0, .a [.b s, .n false .u64 l])] rfl Tryz.func125 rfl (zlb rfl) fun Γ hN hds hL hR => ?_
  have hd := Bt 11 hN
  refine zsr <| A4 (By (id := 0) (n := 2) rfl rfl rfl (by decide) rfl) (hd 1 rfl) <| A4 (At (id := 1) A7 (by decide) rfl (by decide) rfl) (hd 2 rfl) <| zas rfl (hd 3 rfl) <| Aa <| Ae <| zsr <| Ac (Bl Cw rfl rfl rfl) (hd 4 rfl) <| Ac (Be D8 rfl rfl rfl) (hd 5 rfl) ?_
  refine Ah Tryz.f30 (Ee l hl hu) rfl Tryz.func30 rfl rfl (Ab rfl Ad) (.cons .n .nil) (hd 6 rfl) ?_ (fun ch hp => by simp at hp)
  rintro _ ⟨⟩; refine Ac (Ca rfl rfl) (hd 7 rfl) <| Aa ?_
  refine Bg rfl (fun h1 => ?_) (fun h1 => ?_)
  · refine zsr <| Ac (Bn (is := []) (xs := []) (pls := []) A7 Gl rfl Ad rfl trivial (B7 rfl) rfl) (hd 8 rfl) <| A6 (Ak rfl rfl rfl B8 rfl rfl (zlb rfl)) <| zas rfl (hd 3 rfl) <| Aa <| Nb (id := 1) 1 71 1 rfl rfl rfl <| Ao ?_
    refine ⟨[2], _, (.t [.a [.b false, .o 0 0 0 0], .i .i64 3]), (.cons (ResV.cell B0 rfl rfl rfl rfl) (.cons rfl .nil)), rfl, rfl, (by decide), (by first | exact An A8 Ax | exact An rfl Ax), ?_⟩
    exact ⟨false, [], 3, rfl, rfl, Adp hu hv (by omega)⟩
  · refine Ai <| zsr <| Ac (Bm B0 rfl rfl rfl rfl) (hd 9 rfl) ?_
    refine Fb Tryz.f101 (Aif s l hl) (fun o G ⟨_, h⟩ => h ▸ An A8 Ax) rfl Tryz.func101 rfl rfl (Ab rfl Ad) (.cons (.a1 .b (.a1 .n .a0)) .nil) (hd 10 rfl) ?_ (fun ch G hp => by simp at hp)
    rintro y G ⟨hy, rfl⟩; injection hy with hy; subst hy
    show JO _ _ _ _ ((10, .a [.b (s && decide (0 < ((trm l).length : Int))), .o 2 0 0 (trm l).length]) :: _) _ _
    refine A6 (Ak rfl rfl rfl B8 rfl rfl (zlb rfl)) <| zas rfl (hd 3 rfl) <| Aa <| Ao ?_
    refine ⟨[2], _, (.t [.a [.b (s && decide (0 < ((trm l).length : Int))), .o 0 0 0 (trm l).length], .i .i64 0]), (.cons (ResV.cell B0 rfl rfl rfl rfl) (.cons rfl .nil)), rfl, rfl, (by decide), (by first | exact An A8 Ax | exact An rfl Ax), ?_⟩
    exact ⟨_, _, 0, rfl, rfl, Aho hu hv (by omega)⟩

theorem Yf (s : Bool) (l : List Int) (e v : Int) (hRs : ResN v s l e) : SpecM Tryz.prog 106 [.b s, .n false .u64 l, .i .i64 e] [] (fun o G => ∃ (s2 : Bool) (r : List Int) (e : Int), o = .ret (.t [.a [.b s2, .o 0 0 0 r.length], .i .i64 e]) ∧ G = [⟨71, 1, 0, true, ints .u64 r⟩] ∧ Res (v) s2 r e) := by
  refine Eb [(0, .b s), (1, .n false .u64 l), (2, .i .i64 e)] rfl Tryz.func106 rfl (zlb rfl) fun Γ hN hds hL hR => ?_
  have hd := Bt 18 hN
  refine zsr <| A4 (At (id := 0) A7 (by decide) rfl (by decide) rfl) (hd 6 rfl) <| zas rfl (hd 7 rfl) <| Aa <| Ae <| zsr <| zmv rfl (hd 8 rfl) <| Ac (Ec rfl rfl) (hd 9 rfl) <| Aa ?_
  refine Bg rfl (fun h1 => ?_) (fun h1 => ?_)
  · have hE : e = 3 ∧ 67108864 < Aq v := by
      rcases hRs with ⟨h, _⟩ | h
      · omega
      · exact h
    refine zsr <| Ac (Bn (is := []) (xs := []) (pls := []) A7 Gl rfl Ad rfl trivial (B7 rfl) rfl) (hd 10 rfl) <| zmv rfl (hd 11 rfl) <| A6 (Ak rfl rfl rfl B8 rfl rfl (zlb rfl)) <| zas rfl (hd 7 rfl) <| Aa <| Nb (id := 0) 1 71 1 rfl rfl rfl <| Ao ?_
    refine ⟨[1], _, (.t [.a [.b false, .o 0 0 0 0], .i .i64 e]), (.cons (ResV.cell B0 rfl rfl rfl rfl) (.cons rfl .nil)), rfl, rfl, (by decide), (by first | exact An A8 Ax | exact An rfl Ax), ?_⟩
    exact ⟨false, [], e, rfl, rfl, .inr ⟨hE.2, rfl, rfl, hE.1⟩⟩
  · have hE : Az l ∧ l.length < 1099511627776 ∧ sv s l = v := by
      rcases hRs with ⟨_, h⟩ | ⟨h, _⟩
      · exact h
      · omega
    refine Ai <| zsr <| zmv rfl (hd 12 rfl) <| zmv rfl (hd 13 rfl) <| Ac (Bn (is := [0, 1]) (xs := [.tmp 12, .tmp 13]) A7 C9 rfl (Ab rfl (Ab rfl Ad)) rfl (by first | (simp [B9, cellsV]; done) | (simp [B9, cellsV, old]; done)) (B7 rfl) rfl) (hd 14 rfl) ?_
    refine Fb Tryz.f125 (fits_n s l v hE.2.1 hE.1 hE.2.2) (fun o G ⟨_, _, _, _, h, _⟩ => h ▸ An A8 Ax) rfl Tryz.func125 rfl rfl (Ab rfl Ad) (.cons (.a1 .b (.a1 .n .a0)) .nil) (hd 15 rfl) ?_ (fun ch G hp => by simp at hp)
    rintro y G ⟨sf, rf, ef, hy, rfl, hf⟩; injection hy with hy; subst hy
    show JO _ _ _ _ ((15, .t [.a [.b sf, .o 1 0 0 rf.length], .i .i64 ef]) :: _) _ _
    refine Ac (Am rfl rfl) (hd 16 rfl) <| Ac (Am rfl rfl) (hd 17 rfl) <| A6 (Ak rfl rfl rfl B8 rfl rfl (zlb rfl)) <| zas rfl (hd 7 rfl) <| Aa <| Ao ?_
    refine ⟨[1], _, (.t [.a [.b sf, .o 0 0 0 rf.length], .i .i64 ef]), (.cons (ResV.cell B0 rfl rfl rfl rfl) (.cons rfl .nil)), rfl, rfl, (by decide), (by first | exact An A8 Ax | exact An rfl Ax), ?_⟩
    exact ⟨sf, rf, ef, rfl, rfl, hf⟩


theorem at_s (x i d : Nat) (hx : (Aj B32 x).length < 1099511627776) (hi : x / B32 ^ i % B32 = d) : Spec Tryz.prog 108 [.n false .u64 (Aj B32 x), .i .i64 (i : Int)] (fun o => o = .ret (.i .u64 (d : Int))) := by
  refine Au [(0, .n false .u64 (Aj B32 x)), (1, .i .i64 (i : Int))] rfl Tryz.func108 rfl (zlb rfl) fun Γ hN hds hL hR => ?_
  have hd := Bt 13 hN
  have hv := Hs (b := B32) (by decide) i x
  have ht := I1 (b := B32) (by decide) (Hy (by decide) x) i
  refine zsr <| zas rfl (hd 4 rfl) <| Aa <| Ae <| zsr <| zmv rfl (hd 5 rfl) <| zmv rfl (hd 6 rfl) <| Ac (As Cz rfl) (hd 7 rfl) <| Ac (Br rfl rfl) (hd 8 rfl) <| Aa ?_
  refine Bg rfl (fun h1 => ?_) (fun h1 => ?_)
  · refine zsr <| zmv rfl (hd 9 rfl) <| zmv rfl (hd 10 rfl) <| Ac (B2 (i := i) Cz rfl rfl (by first | rfl | omega) (by omega)) (hd 11 rfl) <| Ac (Bw Bj rfl rfl) (hd 12 rfl) <| zas rfl (hd 4 rfl) <| Aa <| Ao ?_
    refine ⟨_, _, (.cons rfl .nil), .i, ?_⟩
    rw [hv, hi]
  · refine Ai <| zsr <| zas rfl (hd 4 rfl) <| Aa <| Ao ?_
    refine ⟨_, _, (.cons rfl .nil), .i, ?_⟩
    rw [← hi]
    have h0 : (Aj B32 x).getD i 0 = 0 := Dw (by omega)
    rw [h0] at hv
    rw [← hv]

theorem Ok (x y : Nat) (hx : (Aj B32 x).length < 1099511627776) (hy : (Aj B32 y).length < 1099511627776) : Spec Tryz.prog 21 [.n false .u64 (Aj B32 x), .n false .u64 (Aj B32 y)] (fun o => o = .ret (.i .i64 (Ht x y))) := by
  refine Au [(0, .n false .u64 (Aj B32 x)), (1, .n false .u64 (Aj B32 y))] rfl Tryz.func21 rfl (zlb rfl) fun Γ hN hds hL hR => ?_
  have hd := Bt 41 hN
  have hcm := Pg (b := B32) (by decide) x y
  unfold Qy at hcm
  refine zsr <| zas rfl (hd 4 rfl) <| Aa <| Ae <| zsr <| zmv rfl (hd 6 rfl) <| Ac (As Cz rfl) (hd 7 rfl) <| zmv rfl (hd 8 rfl) <| Ac (As Cz rfl) (hd 9 rfl) <| Ac (Ec rfl rfl) (hd 10 rfl) <| Aa ?_
  refine Bg rfl (fun h1 => ?_) (fun h1 => ?_)
  · refine Ae <| zsr <| zmv rfl (hd 11 rfl) <| Ac (As Cz rfl) (hd 12 rfl) <| zmv rfl (hd 13 rfl) <| Ac (As Cz rfl) (hd 14 rfl) <| Ac (Br rfl rfl) (hd 15 rfl) <| Aa ?_
    refine Bg rfl (fun h2 => ?_) (fun h2 => ?_)
    · refine zsr <| zas rfl (hd 4 rfl) <| Aa <| Ao ?_
      refine ⟨_, _, (.cons rfl .nil), .i, ?_⟩
      rw [← hcm, if_pos (by omega)]
    · refine Ai <| zsr <| zas rfl (hd 4 rfl) <| Aa <| Ao ?_
      refine ⟨_, _, (.cons rfl .nil), .i, ?_⟩
      rw [← hcm, if_neg (by omega), if_pos (by omega)]
  · refine Ai <| Ae <| zsr <| zmv rfl (hd 16 rfl) <| Ac (As Cz rfl) (hd 17 rfl) <| Ac (Bd rfl rfl (Ag (by omega) (by omega))) (hd 18 rfl) <| zas rfl (hd 5 rfl) <| Aa <| Ap ?_
    refine Bq (G := Nat) (fun k => k ≤ (Aj B32 x).length ∧ J2 (Aj B32 x) (Aj B32 y) k = J2 (Aj B32 x) (Aj B32 y) (Aj B32 x).length) (fun k => [(5, .i .i64 ((k : Int) - 1)), (4, .u), (19, .u), (20, .u), (21, .u), (22, .u), (23, .u), (24, .u), (25, .u), (26, .u), (27, .u), (28, .u), (29, .u), (30, .u), (31, .u), (32, .u), (33, .u), (34, .u), (35, .u), (36, .u), (37, .u), (38, .u), (39, .u), (40, .u)]) (fun _ => _) (fun k => k) (Aj B32 x).length ?_ ?_ rfl ?_
    · exact ⟨Nat.le_refl _, rfl⟩
    · exact (.cons rfl (.v9 (.v9 (.u (.u (.u .nil))))))
    · rintro k ⟨hc1, hc2⟩; refine Ae <| zsr <| zmv rfl (hd 19 rfl) <| Ac (Eh rfl rfl) (hd 20 rfl) <| Aa ?_
      refine Bg rfl (fun h3 => ?_) (fun h3 => ?_)
      · refine Ai <| Ae <| Ap <| Ae <| Ae <| Bu (n := 9) _ rfl Cg <| Av 0 [2, 3, 8] (Al (Ar rfl) (hd 23 rfl)) rfl <| Av 1 [2, 3, 8] (Al (Ar rfl) (hd 24 rfl)) rfl <| Av 2 [3, 8] (Al (B2 (i := k - 1) Cz rfl rfl (by omega) (by omega)) (hd 25 rfl)) rfl <| zal 3 (Al (Bw Bj rfl rfl) (hd 26 rfl)) rfl <| Av 4 [6, 7, 8] (Al (Ar rfl) (hd 27 rfl)) rfl <| Av 5 [6, 7, 8] (Al (Ar rfl) (hd 28 rfl)) rfl <| Av 6 [7, 8] (Al (B2 (i := k - 1) Cz rfl rfl (by omega) (by omega)) (hd 29 rfl)) rfl ?_; refine zal 7 (Al (Bw Bj rfl rfl) (hd 30 rfl)) rfl <| zal 8 (Al (Br rfl rfl) (hd 31 rfl)) rfl <| Bx (by kernel_rfl) ?_
        refine Bg rfl (fun h4 => ?_) (fun h4 => ?_)
        · refine zsr <| zas rfl (hd 4 rfl) <| Aa <| Ao ?_
          refine ⟨_, _, (.cons rfl .nil), .i, ?_⟩
          rw [← hcm, if_neg (by omega), if_neg (by omega), ← hc2, Wt (by omega) (by assumption)]
        · refine Ai <| Ae <| Bu (n := 9) _ rfl Cg <| Av 0 [2, 3, 8] (Al (Ar rfl) (hd 32 rfl)) rfl <| Av 1 [2, 3, 8] (Al (Ar rfl) (hd 33 rfl)) rfl <| Av 2 [3, 8] (Al (B2 (i := k - 1) Cz rfl rfl (by omega) (by omega)) (hd 34 rfl)) rfl <| zal 3 (Al (Bw Bj rfl rfl) (hd 35 rfl)) rfl <| Av 4 [6, 7, 8] (Al (Ar rfl) (hd 36 rfl)) rfl <| Av 5 [6, 7, 8] (Al (Ar rfl) (hd 37 rfl)) rfl <| Av 6 [7, 8] (Al (B2 (i := k - 1) Cz rfl rfl (by omega) (by omega)) (hd 38 rfl)) rfl <| zal 7 (Al (Bw Bj rfl rfl) (hd 39 rfl)) rfl <| zal 8 (Al (Ca rfl rfl) (hd 40 rfl)) rfl <| Bx (by kernel_rfl) ?_
          refine Bg rfl (fun h5 => ?_) (fun h5 => ?_)
          · refine zsr <| zas rfl (hd 4 rfl) <| Aa <| Ao ?_
            refine ⟨_, _, (.cons rfl .nil), .i, ?_⟩
            rw [← hcm, if_neg (by omega), if_neg (by omega), ← hc2, Wu (by omega) (by assumption)]
          · refine Ai <| Af <| zmv rfl (hd 21 rfl) <| Ac (Bd rfl rfl (Ag (by omega) (by omega))) (hd 22 rfl) <| zas rfl (hd 5 rfl) <| Aa ?_
            refine ⟨k - 1, ?_, ?_, rfl, A5 47 rfl rfl ?_⟩
            · exact ⟨by omega, by rw [← hc2]; exact Wv (by omega) (by assumption) (by assumption)⟩
            · omega
            · exact (.cons (by show some (V.i .i64 _) = some (V.i .i64 _); congr 2; omega) (.v9 (.v9 (.u (.u (.u .nil))))))
      · refine Bh <| zsr <| zas rfl (hd 4 rfl) <| Aa <| Ao ?_
        refine ⟨_, _, (.cons rfl .nil), .i, ?_⟩
        rw [← hcm, if_neg (by omega), if_neg (by omega), ← hc2]
        obtain rfl : k = 0 := by omega
        rfl

theorem Rx (x y : Nat) (hx : (Aj B32 x).length < 549755813888) (hy : (Aj B32 y).length < 549755813888) : Spec Tryz.prog 80 [.n false .u64 (Aj B32 x), .n false .u64 (Aj B32 y)] (fun o => o = .ret (.n false .u64 (Aj B32 (x + y)))) := by
  refine Au [(0, .n false .u64 (Aj B32 x)), (1, .n false .u64 (Aj B32 y))] rfl Tryz.func80 rfl (zlb rfl) fun Γ hN hds hL hR => ?_
  have hd := Bt 44 hN
  refine zsr <| zas rfl (hd 4 rfl) <| Aa <| zsr <| zmv rfl (hd 10 rfl) <| Ac (As Cz rfl) (hd 11 rfl) <| zas rfl (hd 5 rfl) <| Aa ?_
  refine Ce (G := Nat) (fun n => n = max (Aj B32 x).length (Aj B32 y).length) (fun n => [(5, .i .i64 (n : Int)), (12, .u), (13, .u), (14, .u), (15, .u), (16, .u), (17, .u)]) ?_ ?_
  · refine zsr <| zmv rfl (hd 12 rfl) <| Ac (As Cz rfl) (hd 13 rfl) <| zmv rfl (hd 14 rfl) <| Ac (Ca rfl rfl) (hd 15 rfl) <| Aa ?_
    refine Bg rfl (fun h1 => ?_) (fun h1 => ?_)
    · refine Af <| zmv rfl (hd 16 rfl) <| Ac (As Cz rfl) (hd 17 rfl) <| zas rfl (hd 5 rfl) <| Aa ?_
      refine ⟨(Aj B32 y).length, ?_, rfl, A5 7 rfl rfl ?_⟩
      · omega
      · exact (.cons rfl (.v5 (.u .nil)))
    · refine Ai ?_
      refine ⟨(Aj B32 x).length, ?_, rfl, A5 4 rfl rfl ?_⟩
      · omega
      · exact (.cons rfl (.v5 (.u .nil)))
  · rintro n hn; refine zsr <| zmv rfl (hd 18 rfl) <| Ac (Aw rfl rfl (r := ((n + 1 : Nat) : Int)) (by rw [Ag (by omega) (by omega)]; omega)) (hd 19 rfl) <| A4 (F5 (m := n + 1) Xl rfl rfl rfl (by show 8 * (n + 1) ≤ _; omega) (by unfold maxLen; omega) rfl) (hd 20 rfl) <| zas rfl (hd 6 rfl) <| Aa <| Ae <| Lo (H' := [⟨71, 1, 0, true, ints .u64 (Ci (dvl (x + y) 0) (n + 1))⟩]) (by rw [← Lk]; rfl) <| Af <| zas rfl (hd 7 rfl) <| Aa <| Ae ?_; refine zsr <| zas rfl (hd 8 rfl) <| Aa <| Ap ?_
    refine Bq (G := Nat) (fun i => i ≤ n + 1) (fun i => [(7, .i .u64 (cry x y i : Int)), (8, .i .i64 (i : Int)), (9, .u), (21, .u), (22, .u), (23, .u), (24, .u), (25, .u), (26, .u), (27, .u), (28, .u), (29, .u), (30, .u), (31, .u), (32, .u), (33, .u), (34, .u), (35, .u), (36, .u), (37, .u), (38, .u), (39, .u), (40, .u), (41, .u)]) (fun i => [⟨71, 1, 0, true, ints .u64 (Ci (dvl (x + y) i) (n + 1))⟩]) (fun i => n + 1 - i) 0 ?_ ?_ rfl ?_
    · exact Nat.zero_le _
    · exact (.cons (by show some (V.i .u64 _) = some (V.i .u64 _); rw [cry_0]; rfl) (.cons rfl (.v9 (.v9 (.u (.u .nil))))))
    · rintro i hc1
      have hfl := Nf (z := x + y) hc1
      have hcl := Ab7 x y i
      have had := Xc x y i
      obtain ⟨dx, hdx⟩ : ∃ q, x / B32 ^ i % B32 = q := ⟨_, rfl⟩
      obtain ⟨dy, hdy⟩ : ∃ q, y / B32 ^ i % B32 = q := ⟨_, rfl⟩
      have hb1 : x / B32 ^ i % B32 < 4294967296 := Nat.mod_lt _ (by decide)
      have hb2 : y / B32 ^ i % B32 < 4294967296 := Nat.mod_lt _ (by decide)
      rw [hdx] at hb1
      rw [hdy] at hb2
      rw [hdx, hdy] at had
      have hv1 : (dx + dy + cry x y i) % 4294967296 = (x + y) / B32 ^ i % B32 := had.1
      have hv2 : (dx + dy + cry x y i) / 4294967296 = cry x y (i + 1) := had.2
      refine Ae <| zsr <| zmv rfl (hd 21 rfl) <| zmv rfl (hd 22 rfl) <| Ac (J5 rfl rfl) (hd 23 rfl) <| Aa ?_
      refine Bg rfl (fun h2 => ?_) (fun h2 => ?_)
      · refine Ai <| Ae <| Ap <| zsr <| zmv rfl (hd 26 rfl) <| zmv rfl (hd 27 rfl) ?_
        refine Ah Tryz.f108 (at_s x i dx (by omega) hdx) rfl Tryz.func108 rfl rfl (Ab rfl (Ab rfl Ad)) (.cons .n (.cons .i .nil)) (hd 28 rfl) ?_ (fun ch hp => by simp at hp)
        rintro _ ⟨⟩; refine zmv rfl (hd 29 rfl) <| zmv rfl (hd 30 rfl) ?_
        refine Ah Tryz.f108 (at_s y i dy (by omega) hdy) rfl Tryz.func108 rfl rfl (Ab rfl (Ab rfl Ad)) (.cons .n (.cons .i .nil)) (hd 31 rfl) ?_ (fun ch hp => by simp at hp)
        rintro _ ⟨⟩; refine Ac (Aw rfl rfl (r := ((dx + dy : Nat) : Int)) (by rw [A0 (by omega) (by omega)]; omega)) (hd 32 rfl) <| zmv rfl (hd 33 rfl) <| Ac (Aw rfl rfl (r := ((dx + dy + cry x y i : Nat) : Int)) (by rw [A0 (by omega) (by omega)]; omega)) (hd 34 rfl) <| zas rfl (hd 9 rfl) <| Aa <| zsr <| zmv rfl (hd 35 rfl) <| zmv rfl (hd 36 rfl) <| zmv rfl (hd 37 rfl) <| Ac (Ba (Fi rfl rfl (by decide) rfl) (show V.i .u64 (((dx + dy + cry x y i : Nat) : Int).tmod 4294967296) = V.i .u64 (dgt (x + y) i) by rw [show (((dx + dy + cry x y i : Nat) : Int).tmod 4294967296) = (((dx + dy + cry x y i) % 4294967296 : Nat) : Int) from rfl, hv1]; rfl)) (hd 38 rfl) <| Ac (Cd (i := i) Cz rfl rfl rfl (by first | rfl | omega) (by first | omega | (dsimp only; omega)) rfl) (hd 39 rfl) <| A6 (B3 rfl rfl rfl Bj (by first | omega | (dsimp only; omega))) ?_; refine Aa <| Af <| zmv rfl (hd 40 rfl) <| Ac (Dk rfl rfl (by decide) (r := ((cry x y (i + 1) : Nat) : Int)) (by rw [show (((dx + dy + cry x y i : Nat) : Int).tdiv 4294967296) = (((dx + dy + cry x y i) / 4294967296 : Nat) : Int) from rfl, hv2]; have := Ab7 x y (i + 1); rw [A0 (by omega) (by omega)])) (hd 41 rfl) <| zas rfl (hd 7 rfl) <| Aa <| Af <| zmv rfl (hd 24 rfl) <| Ac (Aw rfl rfl (Ag (by first | omega | (dsimp only; omega)) (by first | omega | (dsimp only; omega)))) (hd 25 rfl) <| zas rfl (hd 8 rfl) <| Aa ?_
        refine ⟨i + 1, ?_, ?_, (by show [(⟨71, 1, 0, true, ints .u64 _⟩ : Ob)] = [⟨71, 1, 0, true, ints .u64 _⟩]; rw [Ng (by omega)]), A5 48 rfl rfl ?_⟩
        · omega
        · omega
        · exact (.cons rfl (.cons rfl (.v9 (.v9 (.u (.u .nil))))))
      · refine Bh <| Ae ?_
        obtain rfl : i = n + 1 := by omega
        refine Ia (k := .u64) (l' := dvl (x + y) (n + 1)) 6 rfl rfl (by rw [H6, Ez]; omega) (by rw [H6, List.drop_zero, List.take_of_length_le (by rw [Ez]; omega)]) hL <| Af <| zmv rfl (hd 42 rfl) ?_
        refine Ah Tryz.f68 (Ij (dvl (x + y) (n + 1)) (by rw [Ez]; omega)) rfl Tryz.func68 rfl rfl (Ab rfl Ad) (.cons .n .nil) (hd 43 rfl) ?_ (fun ch hp => by simp at hp)
        rintro _ ⟨⟩; refine zas rfl (hd 4 rfl) <| Aa <| Ao ?_
        refine ⟨_, _, (.cons rfl .nil), .n, ?_⟩
        rw [Pw (Ag3 (by omega) (by omega))]

theorem Abc (x y : Nat) (hle : y ≤ x) (hx : (Aj B32 x).length < 1099511627776) (hy : (Aj B32 y).length < 1099511627776) : Spec Tryz.prog 99 [.n false .u64 (Aj B32 x), .n false .u64 (Aj B32 y)] (fun o => o = .ret (.n false .u64 (Aj B32 (x - y)))) := by
  refine Au [(0, .n false .u64 (Aj B32 x)), (1, .n false .u64 (Aj B32 y))] rfl Tryz.func99 rfl (zlb rfl) fun Γ hN hds hL hR => ?_
  have hd := Bt 39 hN
  refine zsr <| zas rfl (hd 4 rfl) <| Aa <| zsr <| zmv rfl (hd 9 rfl) <| Ac (As Cz rfl) (hd 10 rfl) <| A4 (F5 (m := (Aj B32 x).length) Xl rfl rfl rfl (by show 8 * (Aj B32 x).length ≤ _; omega) (by unfold maxLen; omega) rfl) (hd 11 rfl) <| zas rfl (hd 5 rfl) <| Aa <| Ae <| Lo (H' := [⟨71, 1, 0, true, ints .u64 (Ci (dvl (x - y) 0) (Aj B32 x).length)⟩]) (by rw [← Lk]; rfl) ?_; refine Af <| zas rfl (hd 6 rfl) <| Aa <| Ae <| zsr <| zmv rfl (hd 12 rfl) <| Ac (As Cz rfl) (hd 13 rfl) <| zmv rfl (hd 14 rfl) <| Aa <| Ap ?_
  refine Bq (G := Nat) (fun i => i ≤ (Aj B32 x).length) (fun i => [(6, .i .u64 (brw x y i : Int)), (14, .i .i64 (i : Int)), (7, .u), (8, .u), (15, .u), (16, .u), (17, .u), (18, .u), (19, .u), (20, .u), (21, .u), (22, .u), (23, .u), (24, .u), (25, .u), (26, .u), (27, .u), (28, .u), (29, .u), (30, .u), (31, .u), (32, .u), (33, .u), (34, .u), (35, .u), (36, .u)]) (fun i => [⟨71, 1, 0, true, ints .u64 (Ci (dvl (x - y) i) ((Aj B32 x).length))⟩]) (fun i => (Aj B32 x).length - i) 0 ?_ ?_ rfl ?_
  · exact Nat.zero_le _
  · exact (.cons (by show some (V.i .u64 _) = some (V.i .u64 _); rw [brw_0]; rfl) (.cons rfl (.v9 (.v9 (.u (.u (.u (.u .nil))))))))
  · rintro i hc1
    have hfl := Nf (z := x - y) hc1
    have hcl := Acb x y i
    have had := T5 hle i
    have hvx := Hs (b := B32) (by decide) i x
    obtain ⟨dx, hdx⟩ : ∃ q, x / B32 ^ i % B32 = q := ⟨_, rfl⟩
    obtain ⟨dy, hdy⟩ : ∃ q, y / B32 ^ i % B32 = q := ⟨_, rfl⟩
    have hb1 : x / B32 ^ i % B32 < 4294967296 := Nat.mod_lt _ (by decide)
    have hb2 : y / B32 ^ i % B32 < 4294967296 := Nat.mod_lt _ (by decide)
    rw [hdx] at hb1
    rw [hdy] at hb2
    rw [hdx, hdy] at had
    rw [hdx] at hvx
    have hv1 : (dx + 4294967296 - dy - brw x y i) % 4294967296 = (x - y) / B32 ^ i % B32 := had.1
    have hv2 : 1 - (dx + 4294967296 - dy - brw x y i) / 4294967296 = brw x y (i + 1) := had.2
    refine zsr <| Ac (Br rfl rfl) (hd 15 rfl) <| Aa <| Ae ?_
    refine Bg rfl (fun h1 => ?_) (fun h1 => ?_)
    · refine Ai <| Ae <| Ap <| zsr <| zmv rfl (hd 16 rfl) <| zas rfl (hd 7 rfl) <| Aa <| Ae <| Bu (n := 12) _ rfl Cg <| Av 0 [2, 3, 4, 8, 10, 11] (Al (Ar rfl) (hd 17 rfl)) rfl <| Av 1 [2, 3, 4, 8, 10, 11] (Al (Ar rfl) (hd 18 rfl)) rfl <| Av 2 [3, 4, 8, 10, 11] (Al (B2 (i := i) Cz rfl rfl (by first | rfl | omega) (by omega)) (hd 19 rfl)) rfl ?_; refine Av 3 [4, 8, 10, 11] (Al (Ba (Bw Bj rfl rfl) (by exact congrArg (V.i .u64) hvx)) (hd 20 rfl)) rfl <| Av 4 [8, 10, 11] (Al (Aw rfl rfl (r := ((dx + 4294967296 : Nat) : Int)) (by rw [A0 (by omega) (by omega)]; omega)) (hd 21 rfl)) rfl <| Av 5 [7, 8, 10, 11] (Al (Ar rfl) (hd 22 rfl)) rfl <| Av 6 [7, 8, 10, 11] (Al (Ar rfl) (hd 23 rfl)) rfl <| zal 9 (Al (Ar rfl) (hd 26 rfl)) rfl ?_
      refine B5 7 ?_ rfl (by kernel_rfl)
      refine Bp Tryz.f108 (at_s y i dy hy hdy) rfl Tryz.func108 rfl rfl (Ab rfl (Ab rfl Ad)) (.cons .n (.cons .i .nil)) (hd 24 rfl) ?_ (fun ch hp => by simp at hp)
      rintro _ ⟨⟩; refine zal 8 (Al (Bd rfl rfl (r := ((dx + 4294967296 - dy : Nat) : Int)) (by rw [A0 (by omega) (by omega)]; omega)) (hd 25 rfl)) rfl <| zal 10 (Al (Bd rfl rfl (r := ((dx + 4294967296 - dy - brw x y i : Nat) : Int)) (by rw [A0 (by omega) (by omega)]; omega)) (hd 27 rfl)) rfl <| zal 11 (Al (Cm rfl) (hd 8 rfl)) rfl <| Bx (by kernel_rfl) <| zsr <| zmv rfl (hd 28 rfl) <| zmv rfl (hd 29 rfl) <| zmv rfl (hd 30 rfl) <| Ac (Ba (Fi rfl rfl (by decide) rfl) (show V.i .u64 (((dx + 4294967296 - dy - brw x y i : Nat) : Int).tmod 4294967296) = V.i .u64 (dgt (x - y) i) by rw [show (((dx + 4294967296 - dy - brw x y i : Nat) : Int).tmod 4294967296) = (((dx + 4294967296 - dy - brw x y i) % 4294967296 : Nat) : Int) from rfl, hv1]; rfl)) (hd 31 rfl) <| Ac (Cd (i := i) Cz rfl rfl rfl (by first | rfl | omega) (by first | omega | (dsimp only; omega)) rfl) (hd 32 rfl) <| A6 (B3 rfl rfl rfl Bj (by first | omega | (dsimp only; omega))) <| Aa ?_; refine Af <| zmv rfl (hd 33 rfl) <| Ac (Dk rfl rfl (by decide) (r := (((dx + 4294967296 - dy - brw x y i) / 4294967296 : Nat) : Int)) (by rw [show (((dx + 4294967296 - dy - brw x y i : Nat) : Int).tdiv 4294967296) = (((dx + 4294967296 - dy - brw x y i) / 4294967296 : Nat) : Int) from rfl, A0 (by omega) (by omega)])) (hd 34 rfl) <| Ac (Bd rfl rfl (r := ((brw x y (i + 1) : Nat) : Int)) (by rw [← hv2]; rw [A0 (by omega) (by omega)]; omega)) (hd 35 rfl) <| zas rfl (hd 6 rfl) <| Aa <| Af <| Ac (Aw rfl rfl (Ag (by first | omega | (dsimp only; omega)) (by first | omega | (dsimp only; omega)))) (hd 36 rfl) <| zmv rfl (hd 14 rfl) <| Aa ?_
      refine ⟨i + 1, ?_, ?_, (by show [(⟨71, 1, 0, true, ints .u64 _⟩ : Ob)] = [⟨71, 1, 0, true, ints .u64 _⟩]; rw [Ng (by omega)]), A5 52 rfl rfl ?_⟩
      · omega
      · omega
      · exact (.cons rfl (.cons rfl (.v9 (.v9 (.u (.u (.u (.u .nil))))))))
    · refine Bh <| Ae ?_
      obtain rfl : i = (Aj B32 x).length := by omega
      refine Ia (k := .u64) (l' := dvl (x - y) (Aj B32 x).length) 5 rfl rfl (by rw [H6, Ez]; omega) (by rw [H6, List.drop_zero, List.take_of_length_le (by rw [Ez]; omega)]) hL <| Af <| zmv rfl (hd 37 rfl) ?_
      refine Ah Tryz.f68 (Ij (dvl (x - y) (Aj B32 x).length) (by rw [Ez]; omega)) rfl Tryz.func68 rfl rfl (Ab rfl Ad) (.cons .n .nil) (hd 38 rfl) ?_ (fun ch hp => by simp at hp)
      rintro _ ⟨⟩; refine zas rfl (hd 4 rfl) <| Aa <| Ao ?_
      refine ⟨_, _, (.cons rfl .nil), .n, ?_⟩
      rw [Pw dif_lt]



theorem Bit_s (x i : Nat) (hx : (Aj B32 x).length < 1099511627776) (hi : i < 9223372036854775808) : Spec Tryz.prog 79 [.n false .u64 (Aj B32 x), .i .i64 (i : Int)] (fun o => o = .ret (.i .i64 ((x / 2 ^ i % 2 : Nat) : Int))) := by
  refine Au [(0, .n false .u64 (Aj B32 x)), (1, .i .i64 (i : Int))] rfl Tryz.func79 rfl (zlb rfl) fun Γ hN hds hL hR => ?_
  have hd := Bt 24 hN
  have hm1 : (x / B32 ^ (i / 32) % B32) < 4294967296 := Nat.mod_lt _ (by decide)
  have hm2 : (x / B32 ^ (i / 32) % B32) / 2 ^ (i % 32) ≤ (x / B32 ^ (i / 32) % B32) := Nat.div_le_self _ _
  refine zsr <| zas rfl (hd 4 rfl) <| Aa <| Ae <| zsr <| zmv rfl (hd 5 rfl) <| Ac (Bo (Br rfl rfl) (by omega)) (hd 6 rfl) <| zmv rfl (hd 7 rfl) <| Ay 7 rfl rfl (Ar rfl) (hd 8 rfl) <| Ay 7 rfl rfl (Dk rfl rfl (by decide) (r := ((i / 32 : Nat) : Int)) (by rw [show ((i : Int).tdiv 32) = ((i / 32 : Nat) : Int) from rfl, Ag (by omega) (by omega)])) (hd 9 rfl) <| Ay 7 rfl rfl (Ar rfl) (hd 10 rfl) ?_; refine Ay 7 rfl rfl (As Cz rfl) (hd 11 rfl) <| Ay 7 rfl rfl (Eh rfl rfl) (hd 12 rfl) <| Ac (A3 rfl rfl) (hd 13 rfl) <| Aa ?_
  refine Bg rfl (fun h1 => ?_) (fun h1 => ?_)
  · refine zsr <| zas rfl (hd 4 rfl) <| Aa <| Ao ?_
    refine ⟨_, _, (.cons rfl .nil), .i, ?_⟩
    rw [Afw (by omega)]
    rfl
  · refine Ai <| zsr <| zmv rfl (hd 14 rfl) <| zmv rfl (hd 15 rfl) <| Ac (Dk rfl rfl (by decide) (r := ((i / 32 : Nat) : Int)) (by rw [show ((i : Int).tdiv 32) = ((i / 32 : Nat) : Int) from rfl, Ag (by omega) (by omega)])) (hd 16 rfl) <| Ac (B2 (i := i / 32) Cz rfl rfl (by first | rfl | omega) (by omega)) (hd 17 rfl) <| Ac (Ba (Bw Bj rfl rfl) (by exact congrArg (V.i .u64) (Hs (by decide) (i / 32) x))) (hd 18 rfl) <| zmv rfl (hd 19 rfl) <| Ac (Ba (Fi rfl rfl (by decide) rfl) (show V.i .i64 ((i : Int).tmod 32) = V.i .i64 ((i % 32 : Nat) : Int) from rfl)) (hd 20 rfl) <| Ac (Ba (D2 rfl rfl (by omega) rfl) (by exact congrArg (V.i .u64) (Hh (k := 2 ^ (i % 32)) (by rw [Int.toNat_natCast, Nat.min_eq_left (by have h : IntKind.u64.bits = 64 := rfl; omega)])))) (hd 21 rfl) <| Ac (Ba (F1 (by simp) rfl rfl rfl) (by exact congrArg (V.i .u64) (and1 (by omega)))) (hd 22 rfl) <| Ac (Cv G9 Jx rfl (Ag (by omega) (by omega))) (hd 23 rfl) ?_; refine zas rfl (hd 4 rfl) <| Aa <| Ao ?_
    refine ⟨_, _, (.cons rfl .nil), .i, ?_⟩
    rw [W5]

theorem Tail_s (x : Nat) (hx0 : x ≠ 0) (hx : (Aj B32 x).length < 1073741824) : Spec Tryz.prog 81 [.n false .u64 (Aj B32 x)] (fun o => ∃ t : Nat, o = .ret (.i .i64 (t : Int)) ∧ Tz x t) := by
  refine Au [(0, .n false .u64 (Aj B32 x))] rfl Tryz.func81 rfl (zlb rfl) fun Γ hN hds hL hR => ?_
  have hd := Bt 14 hN
  refine zsr <| zas rfl (hd 2 rfl) <| Aa <| Ae <| zsr <| zmv rfl (hd 4 rfl) <| Ac (As Cz rfl) (hd 5 rfl) <| Ac (Ch rfl rfl) (hd 6 rfl) <| Aa ?_
  refine Bg rfl (fun h1 => ?_) (fun h1 => ?_)
  · exact absurd (No.1 (List.eq_nil_of_length_eq_zero (by omega))) hx0
  · refine Ai <| zsr <| zas rfl (hd 3 rfl) <| Aa <| Ae <| Ap ?_
    refine Bq (G := Nat) (fun n => 2 ^ n ∣ x) (fun n => [(3, .i .i64 (n : Int)), (7, .u), (8, .u), (9, .u), (10, .u), (11, .u), (12, .u)]) (fun _ => _) (fun n => 32 * (Aj B32 x).length - n) 0 ?_ ?_ rfl ?_
    · exact ⟨x, by rw [Nat.pow_zero, Nat.one_mul]⟩
    · exact (.cons rfl (.v5 (.u .nil)))
    · rintro n hc1
      have hn := bit_lt hx0 hc1
      refine Ae <| zsr <| zmv rfl (hd 7 rfl) <| zmv rfl (hd 8 rfl) ?_
      refine Ah Tryz.f79 (Bit_s x n (by omega) (by omega)) rfl Tryz.func79 rfl rfl (Ab rfl (Ab rfl Ad)) (.cons .n (.cons .i .nil)) (hd 9 rfl) ?_ (fun ch hp => by simp at hp)
      rintro _ ⟨⟩; refine Ac (Ch rfl rfl) (hd 10 rfl) <| Aa ?_
      refine Bg rfl (fun h2 => ?_) (fun h2 => ?_)
      · refine Ai <| Ap <| Af <| zmv rfl (hd 11 rfl) <| Ac (Aw rfl rfl (Ag (by omega) (by omega))) (hd 12 rfl) <| zas rfl (hd 3 rfl) <| Aa ?_
        refine ⟨n + 1, ?_, ?_, rfl, A5 14 rfl rfl ?_⟩
        · exact Afx hc1 (by omega)
        · omega
        · exact (.cons rfl (.v5 (.u .nil)))
      · refine Bh <| zsr <| zmv rfl (hd 13 rfl) <| zas rfl (hd 2 rfl) <| Aa <| Ao ?_
        refine ⟨_, _, (.cons rfl .nil), .i, ?_⟩
        exact ⟨n, rfl, hc1, by omega⟩


theorem Lz_s (x : Nat) (hx : x < 18446744073709551616) : Spec Tryz.prog 127 [.i .u64 (x : Int)] (fun o => o = .ret (.i .i64 ((64 - bl 64 x : Nat) : Int))) := by
  refine Au [(0, .i .u64 (x : Int))] rfl Tryz.func127 rfl (zlb rfl) fun Γ hN hds hL hR => ?_
  have hd := Bt 6 hN
  have hb := W2 64 x
  refine zsr <| zas rfl (hd 2 rfl) <| Aa <| zsr <| zmv rfl (hd 3 rfl) ?_
  refine Ah Tryz.f73 (Xi x hx) rfl Tryz.func73 rfl rfl (Ab rfl Ad) (.cons .i .nil) (hd 4 rfl) ?_ (fun ch hp => by simp at hp)
  rintro _ ⟨⟩; refine Ac (Bd rfl rfl (r := ((64 - bl 64 x : Nat) : Int)) (by rw [Ag (by omega) (by omega)]; omega)) (hd 5 rfl) <| zas rfl (hd 2 rfl) <| Aa <| Ao ?_
  refine ⟨_, _, (.cons rfl .nil), .i, ?_⟩
  exact rfl

theorem Q7 (hi lo y : Int) (hh0 : 0 ≤ hi) (hhy : hi < y) (hl0 : 0 ≤ lo) (hl1 : lo < 18446744073709551616) (hy1 : y < 18446744073709551616) : Spec Tryz.prog 126 [.i .u64 hi, .i .u64 lo, .i .u64 y] (fun o => o = .ret (.t [.i .u64 ((hi * 18446744073709551616 + lo) / y), .i .u64 ((hi * 18446744073709551616 + lo) % y)])) := by
  refine Au [(0, .i .u64 hi), (1, .i .u64 lo), (2, .i .u64 y)] rfl Tryz.func126 rfl (zlb rfl) fun Γ hN hds hL hR => ?_
  have hd := Bt 135 hN
  obtain ⟨s, hs⟩ : ∃ s : Nat, 64 - bl 64 y.toNat = s := ⟨_, rfl⟩
  have hz := Abm (show 0 < y by omega) hy1
  rw [hs] at hz
  obtain ⟨s64, y0, y1⟩ := hz
  have hD := Zz s64 hh0 hhy hl0 hl1 y0 y1
  dsimp only at hD
  obtain ⟨Y, hY⟩ : ∃ Y, y * 2 ^ s = Y := ⟨_, rfl⟩
  obtain ⟨U, hU⟩ : ∃ U, hi * 2 ^ s + hiS lo s = U := ⟨_, rfl⟩
  obtain ⟨L, hLo⟩ : ∃ L, loS lo s = L := ⟨_, rfl⟩
  have hLb := @L7 lo s
  rw [hLo] at hLb
  rw [hY] at y0 y1
  rw [hY, hU, hLo] at hD
  obtain ⟨N1, hN1⟩ : ∃ N, U * 4294967296 + L / 4294967296 = N := ⟨_, rfl⟩
  rw [hN1] at hD
  obtain ⟨R1, hR1⟩ : ∃ N, N1 % Y = N := ⟨_, rfl⟩
  rw [hR1] at hD
  obtain ⟨N2, hN2⟩ : ∃ N, R1 * 4294967296 + L % 4294967296 = N := ⟨_, rfl⟩
  rw [hN2] at hD
  obtain ⟨hP1, hP2, hE1, hE2⟩ := hD
  have hU0 := hP1.u0
  have hU1 := hP1.lt
  have hp2 := Fs s
  have hhs : 0 ≤ hi * 2 ^ s := Int.mul_nonneg hh0 (Int.le_of_lt hp2)
  have hhb := Lh (s := s) (Nat.le_of_lt s64) hl0 hl1
  have hq1l := hP1.q_lt
  have hq1n := hP1.q_nn
  have hq2l := hP2.q_lt
  have hq2n := hP2.q_nn
  have hfi1 := hP1.first
  have hfi2 := hP2.first
  have hr20 := hP2.u0
  have hr21 := hP2.lt
  have hrr := hP2.rest_lt
  refine zsr <| zas rfl (hd 6 rfl) <| zas rfl (hd 7 rfl) <| Aa <| Ae <| zsr <| zmv rfl (hd 19 rfl) <| Ac (Bo (Ch rfl rfl) (by omega)) (hd 20 rfl) <| Aa <| A1 rfl <| Ai ?_; refine Ae <| zsr <| zmv rfl (hd 22 rfl) <| zmv rfl (hd 23 rfl) <| Ac (Bo (J5 rfl rfl) (by omega)) (hd 24 rfl) <| Aa <| A1 rfl <| Ai <| Ae <| zsr <| zmv rfl (hd 26 rfl) ?_; refine Ac (Ch rfl rfl) (hd 27 rfl) <| Aa ?_
  refine Bg rfl (fun h3 => ?_) (fun h3 => ?_)
  · obtain rfl : hi = 0 := h3
    refine Ae <| Bu (n := 8) _ rfl Cg <| zal 0 (Al (Ar rfl) (hd 28 rfl)) rfl <| zal 1 (Al (Ar rfl) (hd 29 rfl)) rfl <| zal 2 (Al (Dk rfl rfl (by omega) (r := lo / y) (Mz hl0 hl1 (by omega))) (hd 30 rfl)) rfl <| zal 3 (Al (Ar rfl) (hd 31 rfl)) rfl <| zal 4 (Al (Ar rfl) (hd 32 rfl)) rfl <| zal 5 (Al (Ba (Fi rfl rfl (by omega) rfl) (show V.i .u64 _ = V.i .u64 (lo % y) from congrArg (V.i .u64) (Int.tmod_eq_emod_of_nonneg hl0))) (hd 33 rfl)) rfl <| zal 6 (Al (Cm rfl) (hd 6 rfl)) rfl <| zal 7 (Al (Cm rfl) (hd 7 rfl)) rfl <| Bx (by kernel_rfl) <| Ao ?_
    refine ⟨_, _, (.cons rfl (.cons rfl .nil)), (.t1 .i (.t1 .i .t0)), ?_⟩
    rw [Int.zero_mul, Int.zero_add]
  · refine Ai <| zsr <| Ac (Ba (Ar rfl) (show V.i .u64 _ = V.i .u64 ((y.toNat : Int)) from congrArg (V.i .u64) (Int.toNat_of_nonneg (by omega)).symm)) (hd 34 rfl) ?_
    refine Ah Tryz.f127 (Lz_s y.toNat (by omega)) rfl Tryz.func127 rfl rfl (Ab rfl Ad) (.cons .i .nil) (hd 35 rfl) ?_ (fun ch hp => by simp at hp)
    rintro _ ⟨⟩; refine Ac (Cv Jx Kq rfl (r := (s : Int)) (by rw [hs]; exact A0 (by omega) (by omega))) (hd 36 rfl) <| zas rfl (hd 8 rfl) <| Aa <| zsr <| zmv rfl (hd 37 rfl) <| zmv rfl (hd 38 rfl) <| Ac (Ba (Fo rfl rfl (by omega) rfl) (show V.i .u64 _ = V.i .u64 (Y) from congrArg (V.i .u64) (Ac9 (by omega) hY (by omega) (by omega)))) (hd 39 rfl) <| zas rfl (hd 2 rfl) <| Aa <| zsr <| zmv rfl (hd 40 rfl) ?_; refine Ac (Ba (D2 rfl rfl (by omega) rfl) (show V.i .u64 _ = V.i .u64 (Y / 4294967296) from congrArg (V.i .u64) (P2 (by omega)))) (hd 41 rfl) <| zas rfl (hd 9 rfl) <| Aa <| zsr <| zmv rfl (hd 42 rfl) <| Ac (Ba (F1 (by simp) rfl rfl rfl) (show V.i .u64 _ = V.i .u64 (Y % 4294967296) from congrArg (V.i .u64) (W9 (by omega) (by omega)))) (hd 43 rfl) <| zas rfl (hd 10 rfl) <| Aa <| zsr <| zmv rfl (hd 44 rfl) <| zmv rfl (hd 45 rfl) ?_; refine Ac (Ba (Fo rfl rfl (by omega) rfl) (show V.i .u64 _ = V.i .u64 (loS hi s) from congrArg (V.i .u64) (Gv (by omega)))) (hd 46 rfl) <| zmv rfl (hd 47 rfl) <| zmv rfl (hd 48 rfl) <| Ac (Bd rfl rfl (r := ((64 - s : Nat) : Int)) (by rw [A0 (by omega) (by omega)]; omega)) (hd 49 rfl) <| Ac (Ba (D2 rfl rfl (by omega) rfl) (show V.i .u64 _ = V.i .u64 (lo / 2 ^ (64 - s)) from congrArg (V.i .u64) (Ih (by omega)))) (hd 50 rfl) <| Ac (Ba (F1 (by simp) rfl rfl rfl) (show V.i .u64 _ = V.i .u64 (U) from congrArg (V.i .u64) ((or_hi (by omega) hhs (by omega) hl0 hl1 hh0).trans hU))) (hd 51 rfl) <| zas rfl (hd 11 rfl) <| Aa <| zsr <| zmv rfl (hd 52 rfl) <| zmv rfl (hd 53 rfl) <| Ac (Ba (Fo rfl rfl (by omega) rfl) (show V.i .u64 _ = V.i .u64 (L) from congrArg (V.i .u64) ((Gv (by omega)).trans hLo))) (hd 54 rfl) ?_; refine zas rfl (hd 12 rfl) <| Aa <| zsr <| zmv rfl (hd 55 rfl) <| Ac (Ba (D2 rfl rfl (by omega) rfl) (show V.i .u64 _ = V.i .u64 (L / 4294967296) from congrArg (V.i .u64) (P2 (by omega)))) (hd 56 rfl) <| zas rfl (hd 13 rfl) <| Aa <| zsr <| zmv rfl (hd 57 rfl) <| Ac (Ba (F1 (by simp) rfl rfl rfl) (show V.i .u64 _ = V.i .u64 (L % 4294967296) from congrArg (V.i .u64) (W9 (by omega) (by omega)))) (hd 58 rfl) <| zas rfl (hd 14 rfl) ?_; refine Aa <| zsr <| zmv rfl (hd 59 rfl) <| zmv rfl (hd 60 rfl) <| Ac (Dk rfl rfl (by omega) (r := U / (Y / 4294967296)) (Mz (by omega) (by omega) (by omega))) (hd 61 rfl) <| zas rfl (hd 15 rfl) <| Aa <| zsr <| zmv rfl (hd 62 rfl) <| zmv rfl (hd 63 rfl) <| zmv rfl (hd 64 rfl) ?_; refine Ac (Dg rfl rfl rfl) (hd 65 rfl) <| Ac (Ba (Bd rfl rfl rfl) (show V.i .u64 _ = V.i .u64 (U - U / (Y / 4294967296) * (Y / 4294967296)) from congrArg (V.i .u64) (T4 hfi1.1.2.2.2 (by omega)))) (hd 66 rfl) <| zas rfl (hd 16 rfl) <| Aa ?_
    refine Ce (G := Unit) (fun _ => True) (fun _ => [(15, .i .u64 (N1 / Y)), (16, .u), (67, .u), (68, .u), (69, .u), (70, .u), (71, .u), (72, .u), (73, .u), (74, .u), (75, .u), (76, .u), (77, .u), (78, .u), (79, .u), (80, .u), (81, .u), (82, .u), (83, .u), (84, .u), (85, .u)]) ?_ ?_
    · refine Ap ?_
      refine Bq (G := Int × Int) (fun g => Hf N1 Y U g.1 g.2 ∧ 0 ≤ g.1 ∧ g.2 < 4294967296) (fun g => [(15, .i .u64 g.1), (16, .i .u64 g.2), (67, .u), (68, .u), (69, .u), (70, .u), (71, .u), (72, .u), (73, .u), (74, .u), (75, .u), (76, .u), (77, .u), (78, .u), (79, .u), (80, .u), (81, .u), (82, .u), (83, .u), (84, .u), (85, .u)]) (fun _ => _) (fun g => g.1.toNat) (U / (Y / 4294967296), U - U / (Y / 4294967296) * (Y / 4294967296)) ?_ ?_ rfl ?_
      · exact ⟨hP1.first.1, hP1.first.2.1, hP1.first.2.2⟩
      · exact (.cons rfl (.cons rfl (.v9 (.v5 (.u (.u (.u (.u .nil))))))))
      · rintro ⟨q, r⟩ ⟨hf, hq0, hr1⟩
        dsimp only at hf hq0 hr1
        have hf4 := hf
        obtain ⟨he, hQ, hq1, hr0⟩ := hf4
        have hmb := Jz (m := 4294967295) hq0 (show 0 ≤ Y % 4294967296 by omega)
        refine Ae <| zsr <| zmv rfl (hd 67 rfl) <| Ac (Eh rfl rfl) (hd 68 rfl) <| zmv rfl (hd 69 rfl) ?_
        refine D4 69 rfl (fun h4 => ?_) (fun h4 => ?_)
        · refine Bk 69 rfl rfl rfl (hd 70 rfl) <| Bk 69 rfl rfl rfl (hd 71 rfl) <| Bk 69 rfl rfl rfl (hd 72 rfl) <| Bk 69 rfl rfl rfl (hd 73 rfl) <| Bk 69 rfl rfl rfl (hd 74 rfl) <| Bk 69 rfl rfl rfl (hd 75 rfl) <| Bk 69 rfl rfl rfl (hd 76 rfl) <| Bk 69 rfl rfl rfl (hd 77 rfl) <| Ac (A9 rfl rfl) (hd 78 rfl) <| Aa <| B4 rfl <| Ai <| Ap ?_; refine Ae ?_
          obtain ⟨hn1, hn2, hn3⟩ := hP1.next hf (by first | (left; omega) | (right; omega))
          refine Af <| zmv rfl (hd 79 rfl) <| Ac (Bd rfl rfl (A0 (by first | omega | (dsimp only; omega)) (by first | omega | (dsimp only; omega)))) (hd 80 rfl) <| zas rfl (hd 15 rfl) <| Aa <| zsr <| zmv rfl (hd 81 rfl) <| zmv rfl (hd 82 rfl) <| Ac (Aw rfl rfl (A0 (by first | omega | (dsimp only; omega)) (by first | omega | (dsimp only; omega)))) (hd 83 rfl) <| zas rfl (hd 16 rfl) <| Aa <| Ae ?_; refine Af <| zmv rfl (hd 84 rfl) <| Ac (Eh rfl rfl) (hd 85 rfl) <| Aa ?_
          refine Bg rfl (fun h6 => ?_) (fun h6 => ?_)
          · refine Bh ?_
            refine ⟨(), ?_, rfl, A5 43 rfl rfl ?_⟩
            · trivial
            · exact (.cons (by show some (V.i .u64 _) = some (V.i .u64 _); congr 2; first | exact hP1.over hn1 (by omega) (by omega) (by omega) | exact hP1.last hf (by omega)) (.v9 (.v9 .nil)))
          · refine Ai ?_
            refine ⟨(q - 1, r + Y / 4294967296), ?_, ?_, rfl, A5 43 rfl rfl ?_⟩
            · exact ⟨hn1, by show 0 ≤ q - 1; omega, by show r + Y / 4294967296 < 4294967296; omega⟩
            · show (q - 1).toNat < q.toNat
              omega
            · exact (.cons rfl (.cons rfl (.v9 (.v5 (.u (.u (.u (.u .nil))))))))
        · refine Ay 69 rfl rfl (Ar rfl) (hd 70 rfl) <| Ay 69 rfl rfl (Ar rfl) (hd 71 rfl) <| Ay 69 rfl rfl (Dg rfl rfl (A0 (by have := hmb (by omega) (by omega); dsimp only; omega) (by have := hmb (by omega) (by omega); dsimp only; omega))) (hd 72 rfl) <| Ay 69 rfl rfl (Ar rfl) (hd 73 rfl) <| Ay 69 rfl rfl (Dg rfl rfl (A0 (by first | omega | (dsimp only; omega)) (by first | omega | (dsimp only; omega)))) (hd 74 rfl) <| Ay 69 rfl rfl (Ar rfl) (hd 75 rfl) <| Ay 69 rfl rfl (Aw rfl rfl (A0 (by first | omega | (dsimp only; omega)) (by first | omega | (dsimp only; omega)))) (hd 76 rfl) <| Ay 69 rfl rfl (Ca rfl rfl) (hd 77 rfl) <| Ac (A3 rfl rfl) (hd 78 rfl) <| Aa ?_
          refine Bg rfl (fun h7 => ?_) (fun h7 => ?_)
          · refine Ai <| Ap <| Ae ?_
            obtain ⟨hn1, hn2, hn3⟩ := hP1.next hf (by first | (left; omega) | (right; omega))
            refine Af <| zmv rfl (hd 79 rfl) <| Ac (Bd rfl rfl (A0 (by first | omega | (dsimp only; omega)) (by first | omega | (dsimp only; omega)))) (hd 80 rfl) <| zas rfl (hd 15 rfl) <| Aa <| zsr <| zmv rfl (hd 81 rfl) <| zmv rfl (hd 82 rfl) <| Ac (Aw rfl rfl (A0 (by first | omega | (dsimp only; omega)) (by first | omega | (dsimp only; omega)))) (hd 83 rfl) <| zas rfl (hd 16 rfl) <| Aa <| Ae ?_; refine Af <| zmv rfl (hd 84 rfl) <| Ac (Eh rfl rfl) (hd 85 rfl) <| Aa ?_
            refine Bg rfl (fun h8 => ?_) (fun h8 => ?_)
            · refine Bh ?_
              refine ⟨(), ?_, rfl, A5 43 rfl rfl ?_⟩
              · trivial
              · exact (.cons (by show some (V.i .u64 _) = some (V.i .u64 _); congr 2; first | exact hP1.over hn1 (by omega) (by omega) (by omega) | exact hP1.last hf (by omega)) (.v9 (.v9 .nil)))
            · refine Ai ?_
              refine ⟨(q - 1, r + Y / 4294967296), ?_, ?_, rfl, A5 43 rfl rfl ?_⟩
              · exact ⟨hn1, by show 0 ≤ q - 1; omega, by show r + Y / 4294967296 < 4294967296; omega⟩
              · show (q - 1).toNat < q.toNat
                omega
              · exact (.cons rfl (.cons rfl (.v9 (.v5 (.u (.u (.u (.u .nil))))))))
          · refine Bh ?_
            refine ⟨(), ?_, rfl, A5 34 rfl rfl ?_⟩
            · trivial
            · exact (.cons (by show some (V.i .u64 _) = some (V.i .u64 _); congr 2; first | exact hP1.over hn1 (by omega) (by omega) (by omega) | exact hP1.last hf (by omega)) (.v9 (.v9 .nil)))
    · rintro _ _; refine zsr <| zmv rfl (hd 86 rfl) <| Ac (Dg rfl rfl rfl) (hd 87 rfl) <| zmv rfl (hd 88 rfl) <| Ac (Aw rfl rfl rfl) (hd 89 rfl) <| zmv rfl (hd 90 rfl) <| zmv rfl (hd 91 rfl) <| Ac (Dg rfl rfl rfl) (hd 92 rfl) <| Ac (Ba (Bd rfl rfl rfl) (show V.i .u64 _ = V.i .u64 (R1) from congrArg (V.i .u64) (hP1.rest.trans hR1))) (hd 93 rfl) <| zas rfl (hd 17 rfl) <| Aa <| Ae ?_; refine Af <| zmv rfl (hd 94 rfl) <| zmv rfl (hd 95 rfl) <| Ac (Dk rfl rfl (by omega) (r := R1 / (Y / 4294967296)) (Mz (by omega) (by omega) (by omega))) (hd 96 rfl) <| zas rfl (hd 18 rfl) <| Aa <| zsr <| zmv rfl (hd 97 rfl) <| zmv rfl (hd 98 rfl) <| zmv rfl (hd 99 rfl) <| Ac (Dg rfl rfl rfl) (hd 100 rfl) <| Ac (Ba (Bd rfl rfl rfl) (show V.i .u64 _ = V.i .u64 (R1 - R1 / (Y / 4294967296) * (Y / 4294967296)) from congrArg (V.i .u64) (T4 hfi2.1.2.2.2 (by omega)))) (hd 101 rfl) ?_; refine zas rfl (hd 16 rfl) <| Aa ?_
      refine Ce (G := Unit) (fun _ => True) (fun _ => [(18, .i .u64 (N2 / Y)), (16, .u), (102, .u), (103, .u), (104, .u), (105, .u), (106, .u), (107, .u), (108, .u), (109, .u), (110, .u), (111, .u), (112, .u), (113, .u), (114, .u), (115, .u), (116, .u), (117, .u), (118, .u), (119, .u), (120, .u)]) ?_ ?_
      · refine Ap ?_
        refine Bq (G := Int × Int) (fun g => Hf N2 Y R1 g.1 g.2 ∧ 0 ≤ g.1 ∧ g.2 < 4294967296) (fun g => [(18, .i .u64 g.1), (16, .i .u64 g.2), (102, .u), (103, .u), (104, .u), (105, .u), (106, .u), (107, .u), (108, .u), (109, .u), (110, .u), (111, .u), (112, .u), (113, .u), (114, .u), (115, .u), (116, .u), (117, .u), (118, .u), (119, .u), (120, .u)]) (fun _ => _) (fun g => g.1.toNat) (R1 / (Y / 4294967296), R1 - R1 / (Y / 4294967296) * (Y / 4294967296)) ?_ ?_ rfl ?_
        · exact ⟨hP2.first.1, hP2.first.2.1, hP2.first.2.2⟩
        · exact (.cons rfl (.cons rfl (.v9 (.v5 (.u (.u (.u (.u .nil))))))))
        · rintro ⟨q, r⟩ ⟨hf, hq0, hr1⟩
          dsimp only at hf hq0 hr1
          have hf4 := hf
          obtain ⟨he, hQ, hq1, hr0⟩ := hf4
          have hmb := Jz (m := 4294967295) hq0 (show 0 ≤ Y % 4294967296 by omega)
          refine Ae <| zsr <| zmv rfl (hd 102 rfl) <| Ac (Eh rfl rfl) (hd 103 rfl) <| zmv rfl (hd 104 rfl) ?_
          refine D4 104 rfl (fun h9 => ?_) (fun h9 => ?_)
          · refine Bk 104 rfl rfl rfl (hd 105 rfl) <| Bk 104 rfl rfl rfl (hd 106 rfl) <| Bk 104 rfl rfl rfl (hd 107 rfl) <| Bk 104 rfl rfl rfl (hd 108 rfl) <| Bk 104 rfl rfl rfl (hd 109 rfl) <| Bk 104 rfl rfl rfl (hd 110 rfl) <| Bk 104 rfl rfl rfl (hd 111 rfl) <| Bk 104 rfl rfl rfl (hd 112 rfl) <| Ac (A9 rfl rfl) (hd 113 rfl) <| Aa <| B4 rfl <| Ai <| Ap ?_; refine Ae ?_
            obtain ⟨hn1, hn2, hn3⟩ := hP2.next hf (by first | (left; omega) | (right; omega))
            refine Af <| zmv rfl (hd 114 rfl) <| Ac (Bd rfl rfl (A0 (by first | omega | (dsimp only; omega)) (by first | omega | (dsimp only; omega)))) (hd 115 rfl) <| zas rfl (hd 18 rfl) <| Aa <| zsr <| zmv rfl (hd 116 rfl) <| zmv rfl (hd 117 rfl) <| Ac (Aw rfl rfl (A0 (by first | omega | (dsimp only; omega)) (by first | omega | (dsimp only; omega)))) (hd 118 rfl) <| zas rfl (hd 16 rfl) <| Aa <| Ae ?_; refine Af <| zmv rfl (hd 119 rfl) <| Ac (Eh rfl rfl) (hd 120 rfl) <| Aa ?_
            refine Bg rfl (fun h11 => ?_) (fun h11 => ?_)
            · refine Bh ?_
              refine ⟨(), ?_, rfl, A5 43 rfl rfl ?_⟩
              · trivial
              · exact (.cons (by show some (V.i .u64 _) = some (V.i .u64 _); congr 2; first | exact hP2.over hn1 (by omega) (by omega) (by omega) | exact hP2.last hf (by omega)) (.v9 (.v9 .nil)))
            · refine Ai ?_
              refine ⟨(q - 1, r + Y / 4294967296), ?_, ?_, rfl, A5 43 rfl rfl ?_⟩
              · exact ⟨hn1, by show 0 ≤ q - 1; omega, by show r + Y / 4294967296 < 4294967296; omega⟩
              · show (q - 1).toNat < q.toNat
                omega
              · exact (.cons rfl (.cons rfl (.v9 (.v5 (.u (.u (.u (.u .nil))))))))
          · refine Ay 104 rfl rfl (Ar rfl) (hd 105 rfl) <| Ay 104 rfl rfl (Ar rfl) (hd 106 rfl) <| Ay 104 rfl rfl (Dg rfl rfl (A0 (by have := hmb (by omega) (by omega); dsimp only; omega) (by have := hmb (by omega) (by omega); dsimp only; omega))) (hd 107 rfl) <| Ay 104 rfl rfl (Ar rfl) (hd 108 rfl) <| Ay 104 rfl rfl (Dg rfl rfl (A0 (by first | omega | (dsimp only; omega)) (by first | omega | (dsimp only; omega)))) (hd 109 rfl) <| Ay 104 rfl rfl (Ar rfl) (hd 110 rfl) <| Ay 104 rfl rfl (Aw rfl rfl (A0 (by first | omega | (dsimp only; omega)) (by first | omega | (dsimp only; omega)))) (hd 111 rfl) <| Ay 104 rfl rfl (Ca rfl rfl) (hd 112 rfl) <| Ac (A3 rfl rfl) (hd 113 rfl) <| Aa ?_
            refine Bg rfl (fun h12 => ?_) (fun h12 => ?_)
            · refine Ai <| Ap <| Ae ?_
              obtain ⟨hn1, hn2, hn3⟩ := hP2.next hf (by first | (left; omega) | (right; omega))
              refine Af <| zmv rfl (hd 114 rfl) <| Ac (Bd rfl rfl (A0 (by first | omega | (dsimp only; omega)) (by first | omega | (dsimp only; omega)))) (hd 115 rfl) <| zas rfl (hd 18 rfl) <| Aa <| zsr <| zmv rfl (hd 116 rfl) <| zmv rfl (hd 117 rfl) <| Ac (Aw rfl rfl (A0 (by first | omega | (dsimp only; omega)) (by first | omega | (dsimp only; omega)))) (hd 118 rfl) <| zas rfl (hd 16 rfl) <| Aa <| Ae ?_; refine Af <| zmv rfl (hd 119 rfl) <| Ac (Eh rfl rfl) (hd 120 rfl) <| Aa ?_
              refine Bg rfl (fun h13 => ?_) (fun h13 => ?_)
              · refine Bh ?_
                refine ⟨(), ?_, rfl, A5 43 rfl rfl ?_⟩
                · trivial
                · exact (.cons (by show some (V.i .u64 _) = some (V.i .u64 _); congr 2; first | exact hP2.over hn1 (by omega) (by omega) (by omega) | exact hP2.last hf (by omega)) (.v9 (.v9 .nil)))
              · refine Ai ?_
                refine ⟨(q - 1, r + Y / 4294967296), ?_, ?_, rfl, A5 43 rfl rfl ?_⟩
                · exact ⟨hn1, by show 0 ≤ q - 1; omega, by show r + Y / 4294967296 < 4294967296; omega⟩
                · show (q - 1).toNat < q.toNat
                  omega
                · exact (.cons rfl (.cons rfl (.v9 (.v5 (.u (.u (.u (.u .nil))))))))
            · refine Bh ?_
              refine ⟨(), ?_, rfl, A5 34 rfl rfl ?_⟩
              · trivial
              · exact (.cons (by show some (V.i .u64 _) = some (V.i .u64 _); congr 2; first | exact hP2.over hn1 (by omega) (by omega) (by omega) | exact hP2.last hf (by omega)) (.v9 (.v9 .nil)))
      · rintro _ _; refine zsr <| zmv rfl (hd 121 rfl) <| Ac (Dg rfl rfl (A0 (by first | omega | (dsimp only; omega)) (by first | omega | (dsimp only; omega)))) (hd 122 rfl) <| zmv rfl (hd 123 rfl) <| Ac (Aw rfl rfl (r := (hi * 18446744073709551616 + lo) / y) (by rw [A0 (by omega) (by omega)]; exact hE1)) (hd 124 rfl) <| zmv rfl (hd 125 rfl) <| Ac (Dg rfl rfl rfl) (hd 126 rfl) <| zmv rfl (hd 127 rfl) <| Ac (Aw rfl rfl rfl) (hd 128 rfl) <| zmv rfl (hd 129 rfl) <| zmv rfl (hd 130 rfl) <| Ac (Dg rfl rfl rfl) (hd 131 rfl) ?_; refine Ac (Ba (Bd rfl rfl rfl) (show V.i .u64 _ = V.i .u64 (N2 % Y) from congrArg (V.i .u64) hP2.rest)) (hd 132 rfl) <| zmv rfl (hd 133 rfl) <| Ac (Ba (D2 rfl rfl (by omega) rfl) (show V.i .u64 _ = V.i .u64 ((hi * 18446744073709551616 + lo) % y) from congrArg (V.i .u64) ((Ih (by omega)).trans hE2))) (hd 134 rfl) <| zas rfl (hd 6 rfl) <| zas rfl (hd 7 rfl) <| Aa <| Ao ?_
        refine ⟨_, _, (.cons rfl (.cons rfl .nil)), (.t1 .i (.t1 .i .t0)), ?_⟩
        rfl

theorem up_s (s : Nat) (a : List Int) (hl : a.length < 1099511627776) (hs : s < 64) (ua : Az a) : Spec Tryz.prog 128 [.n false .u64 a, .i .u64 (s : Int)] (fun o => o = .ret (.n true .u64 (upL a s))) := by
  refine Au [(0, .n false .u64 a), (1, .i .u64 (s : Int))] rfl Tryz.func128 rfl (zlb rfl) fun Γ hN hds hL hR => ?_
  have hd := Bt 39 hN
  refine zsr <| zas rfl (hd 4 rfl) <| Aa <| zsr <| zmv rfl (hd 8 rfl) <| Ac (As Bc rfl) (hd 9 rfl) <| Ac (Aw rfl rfl (r := ((a.length + 1 : Nat) : Int)) (by rw [Ag (by omega) (by omega)]; omega)) (hd 10 rfl) <| A4 (F5 (m := a.length + 1) Lr rfl rfl rfl (by show 8 * (a.length + 1) ≤ _; omega) (by unfold maxLen; omega) rfl) (hd 11 rfl) <| zas rfl (hd 5 rfl) <| Aa <| Ae ?_; refine Ae <| Lo (H' := [⟨71, 1, 0, true, ints .u64 (upR a s 0)⟩]) (by rw [← Acr]; rfl) <| Af <| zmv rfl (hd 12 rfl) <| Ac (As Bc rfl) (hd 13 rfl) <| zmv rfl (hd 14 rfl) <| Aa <| Ap ?_
  refine Bq (G := Nat) (fun i => i ≤ a.length) (fun i => [(14, .i .i64 (i : Int)), (6, .u), (7, .u), (15, .u), (16, .u), (17, .u), (18, .u), (19, .u), (20, .u), (21, .u), (22, .u), (23, .u), (24, .u), (25, .u), (26, .u), (27, .u), (28, .u), (29, .u), (30, .u), (31, .u), (32, .u), (33, .u), (34, .u), (35, .u), (36, .u), (37, .u)]) (fun i => [⟨71, 1, 0, true, ints .u64 (upR a s i)⟩]) (fun i => a.length - i) 0 ?_ ?_ rfl ?_
  · exact Nat.zero_le _
  · exact (.cons rfl (.v9 (.v9 (.v5 .nil))))
  · rintro i hc1
    have hf := Ps (s := s) hc1
    have hc := Tp (Nat.le_of_lt hs) ua i
    have hx := A2 ua i
    refine zsr <| Ac (Br rfl rfl) (hd 15 rfl) <| Aa <| Ae ?_
    refine Bg rfl (fun h1 => ?_) (fun h1 => ?_)
    · refine Ai <| Ae <| Ap <| zsr <| zmv rfl (hd 16 rfl) <| Ac (B2 (i := i) Bc rfl rfl (by first | rfl | omega) (by omega)) (hd 17 rfl) <| Ac (Bw Bj rfl rfl) (hd 18 rfl) <| zas rfl (hd 6 rfl) <| zas rfl (hd 7 rfl) <| Aa <| Ae <| Af ?_; refine zmv rfl (hd 19 rfl) <| zmv rfl (hd 20 rfl) <| Ac (Cd (i := i) Bc rfl rfl rfl (by first | rfl | omega) (by omega) rfl) (hd 21 rfl) <| Ac (Ba (D3 Bj rfl rfl (by omega)) (show V.i .u64 _ = V.i .u64 ((upN a s i).2) from congrArg (V.i .u64) Pt)) (hd 22 rfl) <| zmv rfl (hd 23 rfl) <| zmv rfl (hd 24 rfl) <| Ac (Ba (Fo rfl rfl (by omega) rfl) (show V.i .u64 _ = V.i .u64 (loS (a.getD i 0) s) from congrArg (V.i .u64) (Gv (by omega)))) (hd 25 rfl) <| Ac (Ba (F1 (by simp) rfl rfl rfl) (show V.i .u64 _ = V.i .u64 ((upN a s i).2 + loS (a.getD i 0) s) from congrArg (V.i .u64) (Qg (by omega) hc.1 hc.2 hx.1).1)) (hd 26 rfl) <| Ac (Cd (i := i) Bc rfl rfl rfl (by first | rfl | omega) (by omega) rfl) (hd 27 rfl) <| A6 (B3 rfl rfl rfl Bj (by omega)) <| Aa <| Af <| zmv rfl (hd 28 rfl) ?_; refine zmv rfl (hd 29 rfl) <| Ac (Aw rfl rfl (Ag (by omega) (by omega))) (hd 30 rfl) <| zmv rfl (hd 31 rfl) <| Ac (Ba (D2 rfl rfl (by omega) rfl) (show V.i .u64 _ = V.i .u64 (a.getD i 0 / 2) from congrArg (V.i .u64) (shr1 hx.1))) (hd 32 rfl) <| zmv rfl (hd 33 rfl) <| Ac (Bd rfl rfl (r := ((63 - s : Nat) : Int)) (by rw [A0 (by omega) (by omega)]; omega)) (hd 34 rfl) <| Ac (Ba (D2 rfl rfl (by omega) rfl) (show V.i .u64 _ = V.i .u64 (hiS (a.getD i 0) s) from congrArg (V.i .u64) ((Ih (by omega)).trans (P1 hs)))) (hd 35 rfl) <| Ac (Cd (i := i + 1) Bc rfl rfl rfl (by first | rfl | omega) (by omega) rfl) (hd 36 rfl) <| A6 (B3 rfl rfl rfl Bj (by simp only [List.length_set]; omega)) <| Aa <| Af <| Ac (Aw rfl rfl (Ag (by omega) (by omega))) (hd 37 rfl) <| zmv rfl (hd 14 rfl) ?_; refine Aa ?_
      refine ⟨i + 1, ?_, ?_, (by show [(⟨71, 1, 0, true, ints .u64 _⟩ : Ob)] = [⟨71, 1, 0, true, ints .u64 _⟩]; rw [Pr (by omega)]), A5 52 rfl rfl ?_⟩
      · omega
      · omega
      · exact (.cons rfl (.v9 (.v9 (.v5 .nil))))
    · obtain rfl : i = a.length := by omega
      rw [Mi] at hf ⊢
      refine Bh <| zsr <| zmv rfl (hd 38 rfl) <| zas rfl (hd 4 rfl) <| Aa <| Ao ?_
      refine ⟨_, _, (.cons rfl .nil), (.o (l := upL a s) rfl (by omega) rfl), ?_⟩
      rw [List.drop_zero, List.take_of_length_le (by omega)]

theorem up_n (s : Nat) (a : List Int) (hl : a.length < 1099511627776) (hs : s < 64) (ua : Az a) : SpecM Tryz.prog 128 [.n false .u64 a, .i .u64 (s : Int)] [] (fun o G => o = .ret (.o 0 0 0 (a.length + 1)) ∧ G = [⟨71, 1, 0, true, ints .u64 (upL a s)⟩]) := by
  refine Eb [(0, .n false .u64 a), (1, .i .u64 (s : Int))] rfl Tryz.func128 rfl (zlb rfl) fun Γ hN hds hL hR => ?_
  have hd := Bt 39 hN
  refine zsr <| zas rfl (hd 4 rfl) <| Aa <| zsr <| zmv rfl (hd 8 rfl) <| Ac (As Bc rfl) (hd 9 rfl) <| Ac (Aw rfl rfl (r := ((a.length + 1 : Nat) : Int)) (by rw [Ag (by omega) (by omega)]; omega)) (hd 10 rfl) <| A4 (F5 (m := a.length + 1) Lr rfl rfl rfl (by show 8 * (a.length + 1) ≤ _; omega) (by unfold maxLen; omega) rfl) (hd 11 rfl) <| zas rfl (hd 5 rfl) <| Aa <| Ae ?_; refine Ae <| Lo (H' := [⟨71, 1, 0, true, ints .u64 (upR a s 0)⟩]) (by rw [← Acr]; rfl) <| Af <| zmv rfl (hd 12 rfl) <| Ac (As Bc rfl) (hd 13 rfl) <| zmv rfl (hd 14 rfl) <| Aa <| Ap ?_
  refine Bq (G := Nat) (fun i => i ≤ a.length) (fun i => [(14, .i .i64 (i : Int)), (6, .u), (7, .u), (15, .u), (16, .u), (17, .u), (18, .u), (19, .u), (20, .u), (21, .u), (22, .u), (23, .u), (24, .u), (25, .u), (26, .u), (27, .u), (28, .u), (29, .u), (30, .u), (31, .u), (32, .u), (33, .u), (34, .u), (35, .u), (36, .u), (37, .u)]) (fun i => [⟨71, 1, 0, true, ints .u64 (upR a s i)⟩]) (fun i => a.length - i) 0 ?_ ?_ rfl ?_
  · exact Nat.zero_le _
  · exact (.cons rfl (.v9 (.v9 (.v5 .nil))))
  · rintro i hc1
    have hf := Ps (s := s) hc1
    have hc := Tp (Nat.le_of_lt hs) ua i
    have hx := A2 ua i
    refine zsr <| Ac (Br rfl rfl) (hd 15 rfl) <| Aa <| Ae ?_
    refine Bg rfl (fun h1 => ?_) (fun h1 => ?_)
    · refine Ai <| Ae <| Ap <| zsr <| zmv rfl (hd 16 rfl) <| Ac (B2 (i := i) Bc rfl rfl (by first | rfl | omega) (by omega)) (hd 17 rfl) <| Ac (Bw Bj rfl rfl) (hd 18 rfl) <| zas rfl (hd 6 rfl) <| zas rfl (hd 7 rfl) <| Aa <| Ae <| Af ?_; refine zmv rfl (hd 19 rfl) <| zmv rfl (hd 20 rfl) <| Ac (Cd (i := i) Bc rfl rfl rfl (by first | rfl | omega) (by omega) rfl) (hd 21 rfl) <| Ac (Ba (D3 Bj rfl rfl (by omega)) (show V.i .u64 _ = V.i .u64 ((upN a s i).2) from congrArg (V.i .u64) Pt)) (hd 22 rfl) <| zmv rfl (hd 23 rfl) <| zmv rfl (hd 24 rfl) <| Ac (Ba (Fo rfl rfl (by omega) rfl) (show V.i .u64 _ = V.i .u64 (loS (a.getD i 0) s) from congrArg (V.i .u64) (Gv (by omega)))) (hd 25 rfl) <| Ac (Ba (F1 (by simp) rfl rfl rfl) (show V.i .u64 _ = V.i .u64 ((upN a s i).2 + loS (a.getD i 0) s) from congrArg (V.i .u64) (Qg (by omega) hc.1 hc.2 hx.1).1)) (hd 26 rfl) <| Ac (Cd (i := i) Bc rfl rfl rfl (by first | rfl | omega) (by omega) rfl) (hd 27 rfl) <| A6 (B3 rfl rfl rfl Bj (by omega)) <| Aa <| Af <| zmv rfl (hd 28 rfl) ?_; refine zmv rfl (hd 29 rfl) <| Ac (Aw rfl rfl (Ag (by omega) (by omega))) (hd 30 rfl) <| zmv rfl (hd 31 rfl) <| Ac (Ba (D2 rfl rfl (by omega) rfl) (show V.i .u64 _ = V.i .u64 (a.getD i 0 / 2) from congrArg (V.i .u64) (shr1 hx.1))) (hd 32 rfl) <| zmv rfl (hd 33 rfl) <| Ac (Bd rfl rfl (r := ((63 - s : Nat) : Int)) (by rw [A0 (by omega) (by omega)]; omega)) (hd 34 rfl) <| Ac (Ba (D2 rfl rfl (by omega) rfl) (show V.i .u64 _ = V.i .u64 (hiS (a.getD i 0) s) from congrArg (V.i .u64) ((Ih (by omega)).trans (P1 hs)))) (hd 35 rfl) <| Ac (Cd (i := i + 1) Bc rfl rfl rfl (by first | rfl | omega) (by omega) rfl) (hd 36 rfl) <| A6 (B3 rfl rfl rfl Bj (by simp only [List.length_set]; omega)) <| Aa <| Af <| Ac (Aw rfl rfl (Ag (by omega) (by omega))) (hd 37 rfl) <| zmv rfl (hd 14 rfl) ?_; refine Aa ?_
      refine ⟨i + 1, ?_, ?_, (by show [(⟨71, 1, 0, true, ints .u64 _⟩ : Ob)] = [⟨71, 1, 0, true, ints .u64 _⟩]; rw [Pr (by omega)]), A5 52 rfl rfl ?_⟩
      · omega
      · omega
      · exact (.cons rfl (.v9 (.v9 (.v5 .nil))))
    · obtain rfl : i = a.length := by omega
      rw [Mi] at hf ⊢
      refine Bh <| zsr <| zmv rfl (hd 38 rfl) <| zas rfl (hd 4 rfl) <| Aa <| Ao ?_
      refine ⟨[0], _, (.o 0 0 0 (a.length + 1)), (.cons rfl .nil), rfl, rfl, (by decide), (by first | exact An A8 Ax | exact An rfl Ax), ?_⟩
      exact ⟨rfl, rfl⟩

theorem S7 (s : Nat) (a : List Int) (hl : a.length < 1099511627776) (hs : s < 64) (ua : Az a) : Spec Tryz.prog 130 [.n false .u64 a, .i .u64 (s : Int)] (fun o => o = .ret (.n true .u64 (trm (dnN a s a.length)))) := by
  refine Au [(0, .n false .u64 a), (1, .i .u64 (s : Int))] rfl Tryz.func130 rfl (zlb rfl) fun Γ hN hds hL hR => ?_
  have hd := Bt 47 hN
  refine zsr <| zas rfl (hd 4 rfl) <| Aa <| zsr <| zmv rfl (hd 8 rfl) <| Ac (As Bc rfl) (hd 9 rfl) <| A4 (F5 (m := a.length) Lr rfl rfl rfl (by show 8 * a.length ≤ _; omega) (by unfold maxLen; omega) rfl) (hd 10 rfl) <| zas rfl (hd 5 rfl) <| Aa <| Ae <| Ae ?_; refine Af <| zmv rfl (hd 11 rfl) <| Ac (As Bc rfl) (hd 12 rfl) <| zmv rfl (hd 13 rfl) <| Aa <| Ap ?_
  refine Bq (G := Nat) (fun i => i ≤ a.length) (fun i => [(13, .i .i64 (i : Int)), (6, .u), (7, .u), (14, .u), (15, .u), (16, .u), (17, .u), (18, .u), (19, .u), (20, .u), (21, .u), (22, .u), (23, .u), (24, .u), (25, .u), (26, .u), (27, .u), (28, .u), (29, .u), (30, .u), (31, .u), (32, .u), (33, .u), (34, .u), (35, .u), (36, .u), (37, .u), (38, .u), (39, .u), (40, .u), (41, .u), (42, .u), (43, .u), (44, .u)]) (fun i => [⟨71, 1, 0, true, ints .u64 (Ci (dnN a s i) a.length)⟩]) (fun i => a.length - i) 0 ?_ ?_ rfl ?_
  · exact Nat.zero_le _
  · exact (.cons rfl (.v9 (.v9 (.v9 (.u (.u (.u .nil)))))))
  · rintro i hc1
    have hf : (Ci (dnN a s i) a.length).length = a.length := Ey (by rw [Gj]; exact hc1)
    have hx := A2 ua i
    have hy := A2 ua (i + 1)
    refine zsr <| Ac (Br rfl rfl) (hd 14 rfl) <| Aa <| Ae ?_
    refine Bg rfl (fun h1 => ?_) (fun h1 => ?_)
    · refine Ai ?_
      refine Lf (G := Unit) (fun _ => True) (fun _ => [(6, .u), (7, .u), (15, .u), (16, .u), (17, .u), (18, .u), (19, .u), (20, .u), (21, .u), (22, .u), (23, .u), (24, .u), (25, .u), (26, .u), (27, .u), (28, .u), (29, .u), (30, .u), (31, .u), (32, .u), (33, .u), (34, .u), (35, .u), (36, .u), (37, .u), (38, .u), (39, .u), (40, .u), (41, .u), (42, .u), (43, .u)]) (fun _ => [⟨71, 1, 0, true, ints .u64 (Ci (dnN a s (i + 1)) a.length)⟩]) ?_ ?_
      · refine Ap <| zsr <| zmv rfl (hd 15 rfl) <| Ac (B2 (i := i) Bc rfl rfl (by first | rfl | omega) (by omega)) (hd 16 rfl) <| Ac (Bw Bj rfl rfl) (hd 17 rfl) <| zas rfl (hd 6 rfl) <| zas rfl (hd 7 rfl) <| Aa <| zsr <| zmv rfl (hd 18 rfl) <| zmv rfl (hd 19 rfl) ?_; refine zmv rfl (hd 20 rfl) <| zmv rfl (hd 21 rfl) <| Ac (Ba (D2 rfl rfl (by omega) rfl) (show V.i .u64 _ = V.i .u64 (a.getD i 0 / 2 ^ s) from congrArg (V.i .u64) (Ih (by omega)))) (hd 22 rfl) <| Ac (Cd (i := i) Bc rfl rfl rfl (by first | rfl | omega) (by omega) rfl) (hd 23 rfl) <| A6 (B3 rfl rfl rfl Bj (by omega)) <| Aa <| zsr <| zmv rfl (hd 24 rfl) <| Ac (Aw rfl rfl (Ag (by omega) (by omega))) (hd 25 rfl) <| zmv rfl (hd 26 rfl) <| Ac (As Bc rfl) (hd 27 rfl) <| Ac (Br rfl rfl) (hd 28 rfl) ?_; refine Aa ?_
        refine Bg rfl (fun h2 => ?_) (fun h2 => ?_)
        · refine Bu (n := 16) _ rfl Cg <| Av 0 [2, 3, 13, 14, 15] (Al (Ar rfl) (hd 29 rfl)) rfl <| Av 1 [2, 3, 13, 14, 15] (Al (Ar rfl) (hd 30 rfl)) rfl <| Av 2 [3, 13, 14, 15] (Al (Cd (i := i) Bc rfl rfl rfl (by first | rfl | omega) (by omega) rfl) (hd 31 rfl)) rfl <| zal 3 (Al (Ba (D3 Bj rfl rfl (by simp only [List.length_set]; omega)) (show V.i .u64 _ = V.i .u64 (a.getD i 0 / 2 ^ s) from congrArg (V.i .u64) (Wl (by omega)))) (hd 32 rfl)) rfl <| Av 4 [7, 8, 9, 12, 13, 14, 15] (Al (Ar rfl) (hd 33 rfl)) rfl <| Av 5 [6, 7, 8, 9, 12, 13, 14, 15] (Al (Ar rfl) (hd 34 rfl)) rfl <| Av 6 [7, 8, 9, 12, 13, 14, 15] (Al (Aw rfl rfl (r := ((i + 1 : Nat) : Int)) (by rw [Ag (by omega) (by omega)]; omega)) (hd 35 rfl)) rfl <| Av 7 [8, 9, 12, 13, 14, 15] (Al (B2 (i := i + 1) Bc rfl rfl (by first | rfl | omega) (by omega)) (hd 36 rfl)) rfl <| Av 8 [9, 12, 13, 14, 15] (Al (Bw Bj rfl rfl) (hd 37 rfl)) rfl <| Av 9 [12, 13, 14, 15] (Al (Ba (Fo rfl rfl (by omega) rfl) (show V.i .u64 _ = V.i .u64 (a.getD (i + 1) 0 * 2 % 18446744073709551616) from congrArg (V.i .u64) shl1)) (hd 38 rfl)) rfl <| Av 10 [11, 12, 13, 14, 15] (Al (Ar rfl) (hd 39 rfl)) rfl <| Av 11 [12, 13, 14, 15] (Al (Bd rfl rfl (r := ((63 - s : Nat) : Int)) (by rw [A0 (by omega) (by omega)]; omega)) (hd 40 rfl)) rfl ?_; refine zal 12 (Al (Ba (Fo rfl rfl (by omega) rfl) (show V.i .u64 _ = V.i .u64 (loS (a.getD (i + 1) 0) (64 - s)) from congrArg (V.i .u64) ((Gv (by omega)).trans (Uc hs)))) (hd 41 rfl)) rfl <| zal 13 (Al (Ba (F1 (by simp) rfl rfl rfl) (show V.i .u64 _ = V.i .u64 (dnD a s i) from congrArg (V.i .u64) (Afl (Nat.le_of_lt hs) hx.1 hx.2 hy.1).1)) (hd 42 rfl)) rfl <| zal 14 (Al (Cd (i := i) Bc rfl rfl rfl (by first | rfl | omega) (by omega) rfl) (hd 43 rfl)) rfl ?_
          refine B5 15 ?_ rfl (by kernel_rfl)
          refine D1 (B3 rfl rfl rfl Bj (by simp only [List.length_set]; omega)) rfl <| Bx (by kernel_rfl) ?_
          refine ⟨(), ?_, (by show [(⟨71, 1, 0, true, ints .u64 _⟩ : Ob)] = [⟨71, 1, 0, true, ints .u64 _⟩]; first | rw [← Kh (show a.length ≤ i + 1 by omega), Hn (by omega)] | rw [List.set_set, Hn (by omega)]), A5 31 rfl rfl ?_⟩
          · trivial
          · exact (.v9 (.v9 (.v9 (.u .nil))))
        · refine Ai ?_
          refine ⟨(), ?_, (by show [(⟨71, 1, 0, true, ints .u64 _⟩ : Ob)] = [⟨71, 1, 0, true, ints .u64 _⟩]; first | rw [← Kh (show a.length ≤ i + 1 by omega), Hn (by omega)] | rw [List.set_set, Hn (by omega)]), A5 16 rfl rfl ?_⟩
          · trivial
          · exact (.v9 (.v9 (.v9 (.u .nil))))
      · rintro _ _; refine Af <| Ac (Aw rfl rfl (Ag (by omega) (by omega))) (hd 44 rfl) <| zmv rfl (hd 13 rfl) <| Aa ?_
        refine ⟨i + 1, ?_, ?_, rfl, A5 68 rfl rfl ?_⟩
        · omega
        · omega
        · exact (.cons rfl (.v9 (.v9 (.v9 (.u (.u (.u .nil)))))))
    · obtain rfl : i = a.length := by omega
      refine Bh <| zsr <| Hl (k := .u64) (l := Ci (dnN a s a.length) a.length) (l' := dnN a s a.length) 5 rfl rfl (by omega) (by rw [List.drop_zero, List.take_of_length_le (by omega), Ed (Gj _ _ _)]) hL <| zmv rfl (hd 45 rfl) ?_
      refine Ah Tryz.f66 (E2 (dnN a s a.length) (by rw [Gj]; omega)) rfl Tryz.func66 rfl rfl (Ab rfl Ad) (.cons .n .nil) (hd 46 rfl) ?_ (fun ch hp => by simp at hp)
      rintro _ ⟨⟩; refine zas rfl (hd 4 rfl) <| Aa <| Ao ?_
      refine ⟨_, _, (.cons rfl .nil), .n, ?_⟩
      exact rfl

set_option maxRecDepth 100000 in
theorem Ae9 (U u v Q : List Int) (j n : Nat) (hU : j + (n + 3) ≤ U.length) (hUl : U.length < 4398046511104) (uU : Az U) (hu : slJ U j (n + 3) = u) (hP : GuP u v n) : SpecM Tryz.prog 129 [.o 0 0 j (n + 3), .n false .u64 v] ([⟨71, 1, 0, true, ints .u64 U⟩, ⟨71, 1, 0, true, ints .u64 Q⟩]) (fun o H' => o = .ret (.i .u64 (vl u / vl v)) ∧ ∃ r, H' = [⟨71, 1, 0, true, ints .u64 (rwJ U j r)⟩, ⟨71, 1, 0, true, ints .u64 Q⟩] ∧ r.length = n + 3 ∧ Az r ∧ vl r = vl u % vl v) := by
  refine Mo [(0, .o 0 0 j (n + 3)), (1, .n false .u64 v)] rfl (2) rfl Tryz.func129 rfl (zlb rfl) fun Γ hN hds => ?_
  have hd := Bt 195 hN
  have hlu := hP.lu
  have hlv := hP.lv
  have hv0 := hP.pos
  have hQ1 := hP.q_lt
  have hQ0 := hP.q_nn
  have hx0 := A2 hP.uu n
  have hx1 := A2 hP.uu (n + 1)
  have hx2 := A2 hP.uu (n + 2)
  have hy0 := A2 hP.uv n
  have hy1 := A2 hP.uv (n + 1)
  have hat2 : ∀ k, k < n + 3 → U.getD (j + k) 0 = u.getD k 0 := fun k hk => by rw [← hu, Ag8 hk]
  have hat : ∀ k, k < n + 3 → U.getD ((j + k) * 1) 0 = u.getD k 0 := fun k hk => by rw [Nat.mul_one]; exact hat2 k hk
  refine zsr <| zas rfl (hd 4 rfl) <| Aa <| zsr <| zmv rfl (hd 24 rfl) <| Ac (As Bc rfl) (hd 25 rfl) <| zas rfl (hd 5 rfl) <| Aa <| zsr <| zas rfl (hd 6 rfl) ?_; refine zas rfl (hd 7 rfl) <| Aa <| zsr <| zas rfl (hd 8 rfl) <| Aa ?_
  refine Ce (G := Int × Int × Bool) (fun g => vl u / vl v ≤ g.1 ∧ 0 ≤ g.1 ∧ g.1 < 18446744073709551616 ∧ (g.2.2 = false → Est u v n g.1 g.2.1 ∧ g.2.1 < 18446744073709551616) ∧ (g.2.2 = true → g.1 ≤ vl u / vl v + 1)) (fun g => [(6, .i .u64 g.1), (7, .i .u64 g.2.1), (8, .b g.2.2), (9, .u), (26, .u), (27, .u), (28, .u), (29, .u), (30, .u), (31, .u), (32, .u), (33, .u), (34, .u), (35, .u), (36, .u), (37, .u), (38, .u), (39, .u), (40, .u), (41, .u), (42, .u), (43, .u), (44, .u), (45, .u), (46, .u), (47, .u), (48, .u), (49, .u), (50, .u), (51, .u), (52, .u), (53, .u), (54, .u), (55, .u), (56, .u), (57, .u), (58, .u), (59, .u), (60, .u), (61, .u), (62, .u), (63, .u), (64, .u), (65, .u), (66, .u), (67, .u), (68, .u), (69, .u)]) ?_ ?_
  · refine Ae <| Bu (n := 10) _ rfl Cg <| Av 0 [2, 3, 9] (Al (Ar rfl) (hd 26 rfl)) rfl <| Av 1 [2, 3, 9] (Al (Ar rfl) (hd 27 rfl)) rfl <| Av 2 [3, 9] (Al (Cd (i := n + 2) Bc rfl rfl rfl (by first | rfl | omega) (by omega) rfl) (hd 28 rfl)) rfl <| zal 3 (Al (Ba (D3 Bj rfl rfl (by omega)) (show V.i .u64 _ = V.i .u64 (u.getD (n + 2) 0) from congrArg (V.i .u64) (hat (n + 2) (by omega)))) (hd 29 rfl)) rfl <| Av 4 [7, 8, 9] (Al (Ar rfl) (hd 30 rfl)) rfl <| Av 5 [6, 7, 8, 9] (Al (Ar rfl) (hd 31 rfl)) rfl <| Av 6 [7, 8, 9] (Al (Bd rfl rfl (r := ((n + 1 : Nat) : Int)) (by rw [Ag (by omega) (by omega)]; omega)) (hd 32 rfl)) rfl <| Av 7 [8, 9] (Al (B2 (i := n + 1) Bc rfl rfl (by first | rfl | omega) (by omega)) (hd 33 rfl)) rfl <| zal 8 (Al (Bw Bj rfl rfl) (hd 34 rfl)) rfl <| zal 9 (Al (Eh rfl rfl) (hd 35 rfl)) rfl <| Bx (by kernel_rfl) ?_
    refine Bg rfl (fun h1 => ?_) (fun h1 => ?_)
    · refine zsr <| zas rfl (hd 6 rfl) <| Aa <| zsr <| zas rfl (hd 9 rfl) <| Aa <| Ae <| Bu (n := 16) _ rfl Cg <| Av 0 [3, 4, 10, 11, 12, 13, 14, 15] (Al (Ar rfl) (hd 37 rfl)) rfl <| Av 1 [2, 3, 4, 10, 11, 12, 13, 14, 15] (Al (Ar rfl) (hd 38 rfl)) rfl <| Av 2 [3, 4, 10, 11, 12, 13, 14, 15] (Al (Bd rfl rfl (r := ((n + 1 : Nat) : Int)) (by rw [Ag (by omega) (by omega)]; omega)) (hd 39 rfl)) rfl ?_; refine Av 3 [4, 10, 11, 12, 13, 14, 15] (Al (Cd (i := n + 1) Bc rfl rfl rfl (by first | rfl | omega) (by omega) rfl) (hd 40 rfl)) rfl <| Av 4 [10, 11, 12, 13, 14, 15] (Al (Ba (D3 Bj rfl rfl (by omega)) (show V.i .u64 _ = V.i .u64 (u.getD (n + 1) 0) from congrArg (V.i .u64) (hat (n + 1) (by omega)))) (hd 41 rfl)) rfl <| Av 5 [8, 9, 10, 11, 12, 13, 14, 15] (Al (Ar rfl) (hd 42 rfl)) rfl <| Av 6 [7, 8, 9, 10, 11, 12, 13, 14, 15] (Al (Ar rfl) (hd 43 rfl)) rfl <| Av 7 [8, 9, 10, 11, 12, 13, 14, 15] (Al (Bd rfl rfl (r := ((n + 1 : Nat) : Int)) (by rw [Ag (by omega) (by omega)]; omega)) (hd 44 rfl)) rfl <| Av 8 [9, 10, 11, 12, 13, 14, 15] (Al (B2 (i := n + 1) Bc rfl rfl (by first | rfl | omega) (by omega)) (hd 45 rfl)) rfl <| Av 9 [10, 11, 12, 13, 14, 15] (Al (Bw Bj rfl rfl) (hd 46 rfl)) rfl ?_
      refine B5 10 ?_ rfl (by kernel_rfl)
      refine Jq (El (e := add64Entry) Tryz.func123 rfl rfl (by kernel_rfl) (by kernel_rfl) rfl rfl rfl (fun w => run_add64 _ _ _ hx1.1 hy1.1 (by decide) (by decide) w) Du) (hd 47 rfl) <| zal 11 (Al (Ar rfl) (hd 36 rfl)) rfl <| zal 12 (Al (Am rfl rfl) (hd 48 rfl)) rfl <| zal 13 (Al (Am rfl rfl) (hd 49 rfl)) rfl <| zal 14 (Al (Cm rfl) (hd 7 rfl)) rfl <| zal 15 (Al (Cm rfl) (hd 9 rfl)) rfl <| Bx (by kernel_rfl) <| Af <| zmv rfl (hd 50 rfl) <| Ac (Ec rfl rfl) (hd 51 rfl) <| zas rfl (hd 8 rfl) <| Aa ?_
      refine ⟨(18446744073709551615, (u.getD (n + 1) 0 + v.getD (n + 1) 0 + 0) % 18446744073709551616, decide ((u.getD (n + 1) 0 + v.getD (n + 1) 0 + 0) / 18446744073709551616 ≠ 0)), ?_, rfl, A5 31 rfl rfl ?_⟩
      · have hE := hP.first_eq (by omega)
        refine ⟨hE.2.1, hE.2.2.1, hE.2.2.2.1, fun h => ?_, fun h => ?_⟩
        · have h2 := of_decide_eq_false h
          have e : (u.getD (n + 1) 0 + v.getD (n + 1) 0 + 0) % 18446744073709551616 = u.getD (n + 1) 0 + v.getD (n + 1) 0 := by omega
          show Est u v n _ ((u.getD (n + 1) 0 + v.getD (n + 1) 0 + 0) % 18446744073709551616) ∧ (u.getD (n + 1) 0 + v.getD (n + 1) 0 + 0) % 18446744073709551616 < _
          rw [e]
          exact ⟨hE, by omega⟩
        · have h2 := of_decide_eq_true h
          exact hP.over hE (by omega)
      · exact (.cons rfl (.cons rfl (.cons rfl (.v9 (.v9 (.v9 (.v9 (.v5 .nil))))))))
    · refine Bu (n := 20) _ rfl Cg <| Av 0 [2, 3, 14, 15, 16, 17, 18, 19] (Al (Ar rfl) (hd 53 rfl)) rfl <| Av 1 [2, 3, 14, 15, 16, 17, 18, 19] (Al (Ar rfl) (hd 54 rfl)) rfl <| Av 2 [3, 14, 15, 16, 17, 18, 19] (Al (Cd (i := n + 2) Bc rfl rfl rfl (by first | rfl | omega) (by omega) rfl) (hd 55 rfl)) rfl <| Av 3 [14, 15, 16, 17, 18, 19] (Al (Ba (D3 Bj rfl rfl (by omega)) (show V.i .u64 _ = V.i .u64 (u.getD (n + 2) 0) from congrArg (V.i .u64) (hat (n + 2) (by omega)))) (hd 56 rfl)) rfl <| Av 4 [7, 8, 14, 15, 16, 17, 18, 19] (Al (Ar rfl) (hd 57 rfl)) rfl <| Av 5 [6, 7, 8, 14, 15, 16, 17, 18, 19] (Al (Ar rfl) (hd 58 rfl)) rfl <| Av 6 [7, 8, 14, 15, 16, 17, 18, 19] (Al (Bd rfl rfl (r := ((n + 1 : Nat) : Int)) (by rw [Ag (by omega) (by omega)]; omega)) (hd 59 rfl)) rfl <| Av 7 [8, 14, 15, 16, 17, 18, 19] (Al (Cd (i := n + 1) Bc rfl rfl rfl (by first | rfl | omega) (by omega) rfl) (hd 60 rfl)) rfl <| Av 8 [14, 15, 16, 17, 18, 19] (Al (Ba (D3 Bj rfl rfl (by omega)) (show V.i .u64 _ = V.i .u64 (u.getD (n + 1) 0) from congrArg (V.i .u64) (hat (n + 1) (by omega)))) (hd 61 rfl)) rfl <| Av 9 [12, 13, 14, 15, 16, 17, 18, 19] (Al (Ar rfl) (hd 62 rfl)) rfl <| Av 10 [11, 12, 13, 14, 15, 16, 17, 18, 19] (Al (Ar rfl) (hd 63 rfl)) rfl <| Av 11 [12, 13, 14, 15, 16, 17, 18, 19] (Al (Bd rfl rfl (r := ((n + 1 : Nat) : Int)) (by rw [Ag (by omega) (by omega)]; omega)) (hd 64 rfl)) rfl ?_; refine Av 12 [13, 14, 15, 16, 17, 18, 19] (Al (B2 (i := n + 1) Bc rfl rfl (by first | rfl | omega) (by omega)) (hd 65 rfl)) rfl <| Av 13 [14, 15, 16, 17, 18, 19] (Al (Bw Bj rfl rfl) (hd 66 rfl)) rfl ?_
      refine B5 14 ?_ rfl (by kernel_rfl)
      refine Bp Tryz.f126 (Q7 (u.getD (n + 2) 0) (u.getD (n + 1) 0) (v.getD (n + 1) 0) hx2.1 (by omega) hx1.1 hx1.2 hy1.2) rfl Tryz.func126 rfl rfl (Ab rfl (Ab rfl (Ab rfl Ad))) (.cons .i (.cons .i (.cons .i .nil))) (hd 67 rfl) ?_ (fun ch hp => by simp at hp)
      rintro _ ⟨⟩; refine zal 15 (Al (Ar rfl) (hd 52 rfl)) rfl <| zal 16 (Al (Am rfl rfl) (hd 68 rfl)) rfl <| zal 17 (Al (Am rfl rfl) (hd 69 rfl)) rfl <| zal 18 (Al (Cm rfl) (hd 6 rfl)) rfl <| zal 19 (Al (Cm rfl) (hd 7 rfl)) rfl <| Bx (by kernel_rfl) ?_
      refine ⟨((u.getD (n + 2) 0 * 18446744073709551616 + u.getD (n + 1) 0) / v.getD (n + 1) 0, (u.getD (n + 2) 0 * 18446744073709551616 + u.getD (n + 1) 0) % v.getD (n + 1) 0, false), ?_, rfl, A5 30 rfl rfl ?_⟩
      · have hE := hP.first_div (by omega)
        have hm := Int.emod_lt_of_pos (u.getD (n + 2) 0 * 18446744073709551616 + u.getD (n + 1) 0) (show 0 < v.getD (n + 1) 0 by omega)
        exact ⟨hE.2.1, hE.2.2.1, hE.2.2.2.1, fun _ => ⟨hE, by dsimp only; omega⟩, fun h => absurd h (by simp)⟩
      · exact (.cons rfl (.cons rfl (.cons rfl (.v9 (.v9 (.v9 (.v9 (.v5 .nil))))))))
  · rintro ⟨q0, r0, sure⟩ ⟨hc1, hc2, hc3, hc4, hc5⟩
    dsimp only at hc1 hc2 hc3 hc4 hc5
    refine Ce (G := Int) (fun g => vl u / vl v ≤ g ∧ 0 ≤ g ∧ g < 18446744073709551616 ∧ g ≤ vl u / vl v + 1) (fun g => [(6, .i .u64 g), (7, .u), (10, .u), (11, .u), (12, .u), (70, .u), (71, .u), (72, .u), (73, .u), (74, .u), (75, .u), (76, .u), (77, .u), (78, .u), (79, .u), (80, .u), (81, .u), (82, .u), (83, .u), (84, .u), (85, .u), (86, .u), (87, .u), (88, .u), (89, .u), (90, .u), (91, .u), (92, .u), (93, .u), (94, .u), (95, .u), (96, .u), (97, .u), (98, .u), (99, .u), (100, .u), (101, .u), (102, .u), (103, .u), (104, .u), (105, .u), (106, .u), (107, .u), (108, .u), (109, .u), (110, .u), (111, .u), (112, .u)]) ?_ ?_
    · refine Ap ?_
      refine Bq (G := Int × Int) (fun g => vl u / vl v ≤ g.1 ∧ 0 ≤ g.1 ∧ g.1 < 18446744073709551616 ∧ (sure = false → Est u v n g.1 g.2 ∧ g.2 < 18446744073709551616) ∧ (sure = true → g.1 ≤ vl u / vl v + 1)) (fun g => [(6, .i .u64 g.1), (7, .i .u64 g.2), (10, .u), (11, .u), (12, .u), (70, .u), (71, .u), (72, .u), (73, .u), (74, .u), (75, .u), (76, .u), (77, .u), (78, .u), (79, .u), (80, .u), (81, .u), (82, .u), (83, .u), (84, .u), (85, .u), (86, .u), (87, .u), (88, .u), (89, .u), (90, .u), (91, .u), (92, .u), (93, .u), (94, .u), (95, .u), (96, .u), (97, .u), (98, .u), (99, .u), (100, .u), (101, .u), (102, .u), (103, .u), (104, .u), (105, .u), (106, .u), (107, .u), (108, .u), (109, .u), (110, .u), (111, .u), (112, .u)]) (fun _ => _) (fun g => g.1.toNat) (q0, r0) ?_ ?_ rfl ?_
      · exact ⟨hc1, hc2, hc3, hc4, hc5⟩
      · exact (.cons rfl (.cons rfl (.v9 (.v9 (.v9 (.v9 (.v5 (.u .nil))))))))
      · rintro ⟨q, r⟩ ⟨hd1, hd2, hd3, hd4, hd5⟩
        dsimp only at hd1 hd2 hd3 hd4 hd5
        refine Ae <| zsr <| zmv rfl (hd 70 rfl) <| Ac (E1 rfl) (hd 71 rfl) <| Aa ?_
        refine Fm rfl (fun h2 => ?_) (fun h2 => ?_)
        · have hsf : sure = false := by simpa using h2
          obtain ⟨hE, hr⟩ := hd4 hsf
          obtain ⟨hE1, hE2, hE3, hE4, hE5⟩ := id hE
          refine Ai <| Ap <| zsr <| zmv rfl (hd 73 rfl) <| zmv rfl (hd 74 rfl) <| zmv rfl (hd 75 rfl) <| Ac (Bd rfl rfl (r := ((n : Nat) : Int)) (by rw [Ag (by omega) (by omega)]; omega)) (hd 76 rfl) <| Ac (B2 (i := n) Bc rfl rfl (by first | rfl | omega) (by omega)) (hd 77 rfl) <| Ac (Bw Bj rfl rfl) (hd 78 rfl) ?_
          refine Ah Tryz.f140 (Q4 q (v.getD n 0) hd2 hd3 hy0.1 hy0.2) rfl Tryz.func140 rfl rfl (Ab rfl (Ab rfl Ad)) (.cons .i (.cons .i .nil)) (hd 79 rfl) ?_ (fun ch hp => by simp at hp)
          rintro _ ⟨⟩; refine zmv rfl (hd 72 rfl) <| Ac (Am rfl rfl) (hd 80 rfl) <| Ac (Am rfl rfl) (hd 81 rfl) <| zas rfl (hd 10 rfl) <| zas rfl (hd 11 rfl) <| Aa <| Ae <| zsr <| zmv rfl (hd 82 rfl) <| zmv rfl (hd 83 rfl) <| Ac (Br rfl rfl) (hd 84 rfl) <| zmv rfl (hd 85 rfl) ?_
          refine D4 85 rfl (fun h3 => ?_) (fun h3 => ?_)
          · refine Bk 85 rfl rfl rfl (hd 86 rfl) <| Bk 85 rfl rfl rfl (hd 87 rfl) <| Bk 85 rfl rfl rfl (hd 88 rfl) <| Bk 85 rfl rfl rfl (hd 89 rfl) <| In 89 rfl rfl (hd 90 rfl) <| In 89 rfl rfl (hd 91 rfl) <| In 89 rfl rfl (hd 92 rfl) <| In 89 rfl rfl (hd 93 rfl) <| In 89 rfl rfl (hd 94 rfl) <| In 89 rfl rfl (hd 95 rfl) <| In 89 rfl rfl (hd 96 rfl) <| Bk 85 rfl rfl rfl (hd 97 rfl) <| Ac (A9 rfl rfl) (hd 98 rfl) ?_; refine Aa <| B4 rfl <| Bh ?_
            refine ⟨q, ?_, rfl, A5 80 rfl rfl ?_⟩
            · exact ⟨hd1, hd2, hd3, hP.last hE (by omega)⟩
            · exact (.cons rfl (.v9 (.v9 (.v9 (.v9 (.v5 (.u (.u .nil))))))))
          · refine Ay 85 rfl rfl (Ar rfl) (hd 86 rfl) <| Ay 85 rfl rfl (Ar rfl) (hd 87 rfl) <| Ay 85 rfl rfl (Ch rfl rfl) (hd 88 rfl) <| Ay 85 rfl rfl (Ar rfl) (hd 89 rfl) ?_
            refine D4 89 rfl (fun h5 => ?_) (fun h5 => ?_)
            · refine Ay 89 rfl rfl (Ar rfl) (hd 90 rfl) <| Ay 89 rfl rfl (Ar rfl) (hd 91 rfl) <| Ay 89 rfl rfl (Ar rfl) (hd 92 rfl) <| Ay 89 rfl rfl (Bd rfl rfl (r := ((n : Nat) : Int)) (by rw [Ag (by omega) (by omega)]; omega)) (hd 93 rfl) <| Ay 89 rfl rfl (Cd (i := n) Bc rfl rfl rfl (by first | rfl | omega) (by omega) rfl) (hd 94 rfl) <| Ay 89 rfl rfl (Ba (D3 Bj rfl rfl (by omega)) (show V.i .u64 _ = V.i .u64 (u.getD (n) 0) from congrArg (V.i .u64) (hat (n) (by omega)))) (hd 95 rfl) <| Ay 89 rfl rfl (J5 rfl rfl) (hd 96 rfl) <| Ay 85 rfl rfl (A9 rfl rfl) (hd 97 rfl) <| Ac (A3 rfl rfl) (hd 98 rfl) <| Aa ?_
              refine Bg rfl (fun h6 => ?_) (fun h6 => ?_)
              · refine Bh ?_
                refine ⟨q, ?_, rfl, A5 81 rfl rfl ?_⟩
                · exact ⟨hd1, hd2, hd3, hP.last hE (by omega)⟩
                · exact (.cons rfl (.v9 (.v9 (.v9 (.v9 (.v5 (.u (.u .nil))))))))
              · refine Ai <| Ae ?_
                obtain ⟨hN, hq1⟩ := hP.next hE (by omega)
                obtain ⟨hN1, hN2, hN3, hN4, hN5⟩ := id hN
                refine Af <| zmv rfl (hd 99 rfl) <| Ac (Bd rfl rfl (A0 (by first | omega | (dsimp only; omega)) (by first | omega | (dsimp only; omega)))) (hd 100 rfl) <| zas rfl (hd 6 rfl) <| Aa <| zsr <| zas rfl (hd 12 rfl) <| Aa <| zsr <| zmv rfl (hd 102 rfl) <| zmv rfl (hd 103 rfl) ?_; refine zmv rfl (hd 104 rfl) <| Ac (Bd rfl rfl (r := ((n + 1 : Nat) : Int)) (by rw [Ag (by omega) (by omega)]; omega)) (hd 105 rfl) <| Ac (B2 (i := n + 1) Bc rfl rfl (by first | rfl | omega) (by omega)) (hd 106 rfl) <| Ac (Bw Bj rfl rfl) (hd 107 rfl) <| A4 (El (e := add64Entry) Tryz.func123 rfl rfl (by kernel_rfl) (by kernel_rfl) rfl rfl rfl (fun w => run_add64 _ _ _ hE5 hy1.1 (by decide) (by decide) w) Du) (hd 108 rfl) <| zmv rfl (hd 101 rfl) <| Ac (Am rfl rfl) (hd 109 rfl) <| Ac (Am rfl rfl) (hd 110 rfl) <| zas rfl (hd 7 rfl) <| zas rfl (hd 12 rfl) <| Aa <| Ae <| Af ?_; refine zmv rfl (hd 111 rfl) <| Ac (Ec rfl rfl) (hd 112 rfl) <| Aa ?_
                refine Bg rfl (fun h7 => ?_) (fun h7 => ?_)
                · refine Bh ?_
                  refine ⟨(q - 1), ?_, rfl, A5 99 rfl rfl ?_⟩
                  · exact ⟨hN2, hN3, hN4, hP.over hN (by omega)⟩
                  · exact (.cons rfl (.v9 (.v9 (.v9 (.v9 (.v5 (.u (.u .nil))))))))
                · refine Ai ?_
                  refine ⟨(q - 1, (r + v.getD (n + 1) 0 + 0) % 18446744073709551616), ?_, ?_, rfl, A5 99 rfl rfl ?_⟩
                  · have e : (r + v.getD (n + 1) 0 + 0) % 18446744073709551616 = r + v.getD (n + 1) 0 := by omega
                    exact ⟨hN2, hN3, hN4, fun _ => by show Est u v n (q - 1) ((r + v.getD (n + 1) 0 + 0) % 18446744073709551616) ∧ (r + v.getD (n + 1) 0 + 0) % 18446744073709551616 < _; rw [e]; exact ⟨hN, by omega⟩, fun h => absurd (hsf.symm.trans h) (by simp)⟩
                  · show (q - 1).toNat < q.toNat
                    omega
                  · exact (.cons rfl (.cons rfl (.v9 (.v9 (.v9 (.v9 (.v5 (.u .nil))))))))
            · refine Bk 89 rfl rfl rfl (hd 90 rfl) <| Bk 89 rfl rfl rfl (hd 91 rfl) <| Bk 89 rfl rfl rfl (hd 92 rfl) <| Bk 89 rfl rfl rfl (hd 93 rfl) <| Bk 89 rfl rfl rfl (hd 94 rfl) <| Bk 89 rfl rfl rfl (hd 95 rfl) <| Bk 89 rfl rfl rfl (hd 96 rfl) <| Ay 85 rfl rfl (A3 rfl rfl) (hd 97 rfl) <| Ac (A3 rfl rfl) (hd 98 rfl) <| Aa <| A1 rfl <| Ai <| Ae ?_
              obtain ⟨hN, hq1⟩ := hP.next hE (by omega)
              obtain ⟨hN1, hN2, hN3, hN4, hN5⟩ := id hN
              refine Af <| zmv rfl (hd 99 rfl) <| Ac (Bd rfl rfl (A0 (by first | omega | (dsimp only; omega)) (by first | omega | (dsimp only; omega)))) (hd 100 rfl) <| zas rfl (hd 6 rfl) <| Aa <| zsr <| zas rfl (hd 12 rfl) <| Aa <| zsr <| zmv rfl (hd 102 rfl) <| zmv rfl (hd 103 rfl) ?_; refine zmv rfl (hd 104 rfl) <| Ac (Bd rfl rfl (r := ((n + 1 : Nat) : Int)) (by rw [Ag (by omega) (by omega)]; omega)) (hd 105 rfl) <| Ac (B2 (i := n + 1) Bc rfl rfl (by first | rfl | omega) (by omega)) (hd 106 rfl) <| Ac (Bw Bj rfl rfl) (hd 107 rfl) <| A4 (El (e := add64Entry) Tryz.func123 rfl rfl (by kernel_rfl) (by kernel_rfl) rfl rfl rfl (fun w => run_add64 _ _ _ hE5 hy1.1 (by decide) (by decide) w) Du) (hd 108 rfl) <| zmv rfl (hd 101 rfl) <| Ac (Am rfl rfl) (hd 109 rfl) <| Ac (Am rfl rfl) (hd 110 rfl) <| zas rfl (hd 7 rfl) <| zas rfl (hd 12 rfl) <| Aa <| Ae <| Af ?_; refine zmv rfl (hd 111 rfl) <| Ac (Ec rfl rfl) (hd 112 rfl) <| Aa ?_
              refine Bg rfl (fun h9 => ?_) (fun h9 => ?_)
              · refine Bh ?_
                refine ⟨(q - 1), ?_, rfl, A5 99 rfl rfl ?_⟩
                · exact ⟨hN2, hN3, hN4, hP.over hN (by omega)⟩
                · exact (.cons rfl (.v9 (.v9 (.v9 (.v9 (.v5 (.u (.u .nil))))))))
              · refine Ai ?_
                refine ⟨(q - 1, (r + v.getD (n + 1) 0 + 0) % 18446744073709551616), ?_, ?_, rfl, A5 99 rfl rfl ?_⟩
                · have e : (r + v.getD (n + 1) 0 + 0) % 18446744073709551616 = r + v.getD (n + 1) 0 := by omega
                  exact ⟨hN2, hN3, hN4, fun _ => by show Est u v n (q - 1) ((r + v.getD (n + 1) 0 + 0) % 18446744073709551616) ∧ (r + v.getD (n + 1) 0 + 0) % 18446744073709551616 < _; rw [e]; exact ⟨hN, by omega⟩, fun h => absurd (hsf.symm.trans h) (by simp)⟩
                · show (q - 1).toNat < q.toNat
                  omega
                · exact (.cons rfl (.cons rfl (.v9 (.v9 (.v9 (.v9 (.v5 (.u .nil))))))))
        · have hst : sure = true := by simpa using h2
          have hlast := hd5 hst
          refine Bh ?_
          refine ⟨q, ?_, rfl, A5 50 rfl rfl ?_⟩
          · exact ⟨hd1, hd2, hd3, hlast⟩
          · exact (.cons rfl (.v9 (.v9 (.v9 (.v9 (.v5 (.u (.u .nil))))))))
    · rintro q ⟨hq1, hq2, hq3, hq4⟩
      obtain ⟨hgQ, hgl, hgu, hgv⟩ := Abz hP.uu hP.uv (by omega) hv0 hq2 hq3 hq1 hq4
      unfold gsQ at hgQ
      have hmB := Aik u v q
      have hum := Aij hP.uu hP.uv hq2 hq3
      have hml0 := M4 u v q
      refine Ae <| Lo (H' := [⟨71, 1, 0, true, ints .u64 (rwJ U j (msN u v q 0).1)⟩, ⟨71, 1, 0, true, ints .u64 Q⟩]) (by show _ = [(⟨71, 1, 0, true, ints .u64 (rwJ U j [])⟩ : Ob), _]; rw [Ahh]) <| Af <| zas rfl (hd 13 rfl) <| zas rfl (hd 14 rfl) <| Aa <| Ae <| zsr <| zmv rfl (hd 113 rfl) <| Ac (As Bc rfl) (hd 114 rfl) <| zmv rfl (hd 115 rfl) <| Aa ?_; refine Ap ?_
      refine Bq (G := Nat) (fun i => i ≤ v.length) (fun i => [(13, .i .u64 (msN u v q i).2.1), (14, .i .u64 (msN u v q i).2.2), (115, .i .i64 (i : Int)), (15, .u), (16, .u), (17, .u), (18, .u), (19, .u), (20, .u), (116, .u), (117, .u), (118, .u), (119, .u), (120, .u), (121, .u), (122, .u), (123, .u), (124, .u), (125, .u), (126, .u), (127, .u), (128, .u), (129, .u), (130, .u), (131, .u), (132, .u), (133, .u), (134, .u), (135, .u), (136, .u), (137, .u), (138, .u), (139, .u), (140, .u), (141, .u), (142, .u), (143, .u), (144, .u), (145, .u), (146, .u), (147, .u), (148, .u)]) (fun i => [⟨71, 1, 0, true, ints .u64 (rwJ U j (msN u v q i).1)⟩, ⟨71, 1, 0, true, ints .u64 Q⟩]) (fun i => v.length - i) 0 ?_ ?_ rfl ?_
      · exact Nat.zero_le _
      · exact (.cons rfl (.cons rfl (.cons rfl (.v9 (.v9 (.v9 (.v5 (.u (.u (.u (.u .nil)))))))))))
      · rintro i hi1
        have hml := Gx u v q i
        have hf : (rwJ U j (msN u v q i).1).length = U.length := Ky (by omega)
        have hc := Aej (u := u) hP.uv hq2 hq3 i
        have hb := Aek u v q i
        have hxi := A2 hP.uu i
        have hyi := A2 hP.uv i
        have hmp := Ve hyi.1 hyi.2 hq2 hq3
        refine zsr <| Ac (Br rfl rfl) (hd 116 rfl) <| Aa <| Ae ?_
        refine Bg rfl (fun h10 => ?_) (fun h10 => ?_)
        · refine Ai <| Ae <| Ap <| zsr <| zmv rfl (hd 117 rfl) <| Ac (B2 (i := i) Bc rfl rfl (by first | rfl | omega) (by omega)) (hd 118 rfl) <| Ac (Bw Bj rfl rfl) (hd 119 rfl) <| zas rfl (hd 15 rfl) <| zas rfl (hd 16 rfl) <| Aa <| Ae <| Af ?_; refine zmv rfl (hd 121 rfl) <| zmv rfl (hd 122 rfl) ?_
          refine Ah Tryz.f140 (Q4 (v.getD i 0) q hyi.1 hyi.2 hq2 hq3) rfl Tryz.func140 rfl rfl (Ab rfl (Ab rfl Ad)) (.cons .i (.cons .i .nil)) (hd 123 rfl) ?_ (fun ch hp => by simp at hp)
          rintro _ ⟨⟩; refine zmv rfl (hd 120 rfl) <| Ac (Am rfl rfl) (hd 124 rfl) <| Ac (Am rfl rfl) (hd 125 rfl) <| zas rfl (hd 17 rfl) <| zas rfl (hd 18 rfl) <| Aa <| zsr <| zmv rfl (hd 127 rfl) <| zmv rfl (hd 128 rfl) <| A4 (El (e := add64Entry) Tryz.func123 rfl rfl (by kernel_rfl) (by kernel_rfl) rfl rfl rfl (fun w => run_add64 _ _ _ (Int.emod_nonneg _ (by decide)) hc.1 (by decide) (by decide) w) Du) (hd 129 rfl) <| zmv rfl (hd 126 rfl) <| Ac (Ba (Am rfl rfl) (show V.i .u64 _ = V.i .u64 (msS u v q i (msN u v q i).2.1) from congrArg (V.i .u64) (by unfold msS; rw [Int.add_zero]))) (hd 130 rfl) ?_; refine Ac (Am rfl rfl) (hd 131 rfl) <| zas rfl (hd 19 rfl) <| zas rfl (hd 20 rfl) <| Aa <| zsr <| zmv rfl (hd 132 rfl) <| zmv rfl (hd 133 rfl) <| Ac (Aw rfl rfl (r := msC v q i (msN u v q i).2.1) (by unfold msC; rw [Int.add_zero]; exact A0 (by omega) (by omega))) (hd 134 rfl) <| zas rfl (hd 13 rfl) <| Aa <| Af <| zmv rfl (hd 136 rfl) ?_; refine zmv rfl (hd 137 rfl) <| zmv rfl (hd 138 rfl) <| zmv rfl (hd 139 rfl) <| Ac (Cd (i := i) Bc rfl rfl rfl (by first | rfl | omega) (by omega) rfl) (hd 140 rfl) <| Ac (Ba (D3 Bj rfl rfl (by omega)) (show V.i .u64 _ = V.i .u64 (u.getD i 0) from congrArg (V.i .u64) ((Rl (by omega) (by omega)).trans (hat2 (i) (by omega))))) (hd 141 rfl) <| zmv rfl (hd 142 rfl) <| zmv rfl (hd 143 rfl) <| A4 (El (e := Fu) Tryz.func124 rfl rfl (by kernel_rfl) (by kernel_rfl) rfl rfl rfl (fun w => Iz _ _ _ hxi.1 hxi.2 (by unfold msS; omega) (by unfold msS; omega) hb.1 hb.2 w) Du) (hd 144 rfl) <| zmv rfl (hd 135 rfl) <| Ac (Ba (Am rfl rfl) (show V.i .u64 _ = V.i .u64 (sbD (u.getD i 0) (msS u v q i (msN u v q i).2.1) (msN u v q i).2.2) from congrArg (V.i .u64) rfl)) (hd 145 rfl) <| Ac (Ba (Am rfl rfl) (show V.i .u64 _ = V.i .u64 (sbB (u.getD i 0) (msS u v q i (msN u v q i).2.1) (msN u v q i).2.2) from congrArg (V.i .u64) rfl)) (hd 146 rfl) <| Ac (Cd (i := i) Bc rfl rfl rfl (by first | rfl | omega) (by omega) rfl) (hd 147 rfl) <| A6 (B3 rfl rfl rfl Bj (by omega)) ?_; refine zas rfl (hd 14 rfl) <| Aa <| Af <| Ac (Aw rfl rfl (Ag (by omega) (by omega))) (hd 148 rfl) <| zmv rfl (hd 115 rfl) <| Aa ?_
          refine ⟨i + 1, ?_, ?_, (by show [(⟨71, 1, 0, true, ints .u64 _⟩ : Ob), _] = [⟨71, 1, 0, true, ints .u64 _⟩, _]; rw [Aih (by omega)]), A5 84 rfl rfl ?_⟩
          · omega
          · omega
          · exact (.cons rfl (.cons rfl (.cons rfl (.v9 (.v9 (.v9 (.v5 (.u (.u (.u (.u .nil)))))))))))
        · obtain rfl : i = v.length := by omega
          refine Bh <| zsr <| zmv rfl (hd 150 rfl) <| zmv rfl (hd 151 rfl) <| zmv rfl (hd 152 rfl) <| zmv rfl (hd 153 rfl) <| Ac (Cd (i := v.length) Bc rfl rfl rfl (by first | rfl | omega) (by omega) rfl) (hd 154 rfl) <| Ac (Ba (D3 Bj rfl rfl (by omega)) (show V.i .u64 _ = V.i .u64 (u.getD v.length 0) from congrArg (V.i .u64) ((Rl (by omega) (by omega)).trans (hat2 (v.length) (by omega))))) (hd 155 rfl) <| zmv rfl (hd 156 rfl) <| zmv rfl (hd 157 rfl) <| A4 (El (e := Fu) Tryz.func124 rfl rfl (by kernel_rfl) (by kernel_rfl) rfl rfl rfl (fun w => Iz _ _ _ hxi.1 hxi.2 hc.1 hc.2 hb.1 hb.2 w) Du) (hd 158 rfl) <| zmv rfl (hd 149 rfl) ?_; refine Ac (Ba (Am rfl rfl) (show V.i .u64 _ = V.i .u64 (sbD (u.getD v.length 0) (msN u v q v.length).2.1 (msN u v q v.length).2.2) from congrArg (V.i .u64) rfl)) (hd 159 rfl) <| Ac (Ba (Am rfl rfl) (show V.i .u64 _ = V.i .u64 (msB u v q) from congrArg (V.i .u64) rfl)) (hd 160 rfl) <| Ac (Cd (i := v.length) Bc rfl rfl rfl (by first | rfl | omega) (by omega) rfl) (hd 161 rfl) <| A6 (B3 rfl rfl rfl Bj (by omega)) <| zas rfl (hd 14 rfl) <| Aa <| Ae <| Ae <| Lo (H' := [⟨71, 1, 0, true, ints .u64 (rwJ U j (msL u v q))⟩, ⟨71, 1, 0, true, ints .u64 Q⟩]) (by show [(⟨71, 1, 0, true, ints .u64 _⟩ : Ob), _] = [⟨71, 1, 0, true, ints .u64 _⟩, _]; rw [Ail (by omega)]) ?_
          have hW : (rwJ U j (msL u v q)).length = U.length := Ky (by omega)
          refine Af <| zmv rfl (hd 162 rfl) <| Ac (Ec rfl rfl) (hd 163 rfl) <| Aa ?_
          refine Bg rfl (fun h11 => ?_) (fun h11 => ?_)
          · have hb1 : msB u v q = 1 := by omega
            have hq9 : q - 1 = vl u / vl v := by omega
            have hgl2 : gsL u v q = bkL (msL u v q) v := if_neg (by omega)
            rw [hgl2] at hgl hgu hgv
            refine zsr <| zmv rfl (hd 164 rfl) <| Ac (Bd rfl rfl (r := vl u / vl v) (by rw [hq9]; exact A0 (by omega) (by omega))) (hd 165 rfl) <| zas rfl (hd 6 rfl) <| Aa <| Ae <| Lo (H' := [⟨71, 1, 0, true, ints .u64 (rwJ (rwJ U j (msL u v q)) j (adN (msL u v q) v 0).1)⟩, ⟨71, 1, 0, true, ints .u64 Q⟩]) (by show _ = [(⟨71, 1, 0, true, ints .u64 (rwJ (rwJ U j (msL u v q)) j [])⟩ : Ob), _]; rw [Ahh]) <| Af <| zas rfl (hd 21 rfl) <| Aa <| Ae <| Ae ?_; refine Af <| zmv rfl (hd 166 rfl) <| Ac (As Bc rfl) (hd 167 rfl) <| zmv rfl (hd 168 rfl) <| Aa <| Ap ?_
            refine Bq (G := Nat) (fun i => i ≤ v.length) (fun i => [(21, .i .u64 (adN (msL u v q) v i).2), (168, .i .i64 (i : Int)), (22, .u), (23, .u), (169, .u), (170, .u), (171, .u), (172, .u), (173, .u), (174, .u), (175, .u), (176, .u), (177, .u), (178, .u), (179, .u), (180, .u), (181, .u), (182, .u), (183, .u), (184, .u), (185, .u), (186, .u)]) (fun i => [⟨71, 1, 0, true, ints .u64 (rwJ (rwJ U j (msL u v q)) j (adN (msL u v q) v i).1)⟩, ⟨71, 1, 0, true, ints .u64 Q⟩]) (fun i => v.length - i) 0 ?_ ?_ rfl ?_
            · exact Nat.zero_le _
            · exact (.cons rfl (.cons rfl (.v9 (.v9 .nil))))
            · rintro i hi1
              have hal := C7 (msL u v q) v i
              have hf2 : (rwJ (rwJ U j (msL u v q)) j (adN (msL u v q) v i).1).length = (rwJ U j (msL u v q)).length := Ky (by omega)
              have hca := Tb hum hP.uv i
              have hxa := A2 hum i
              have hya := A2 hP.uv i
              refine zsr <| Ac (Br rfl rfl) (hd 169 rfl) <| Aa <| Ae ?_
              refine Bg rfl (fun h12 => ?_) (fun h12 => ?_)
              · refine Ai <| Ae <| Ap <| zsr <| zmv rfl (hd 170 rfl) <| Ac (B2 (i := i) Bc rfl rfl (by first | rfl | omega) (by omega)) (hd 171 rfl) <| Ac (Bw Bj rfl rfl) (hd 172 rfl) <| zas rfl (hd 22 rfl) <| zas rfl (hd 23 rfl) <| Aa <| Af <| zmv rfl (hd 174 rfl) ?_; refine zmv rfl (hd 175 rfl) <| zmv rfl (hd 176 rfl) <| zmv rfl (hd 177 rfl) <| Ac (Cd (i := i) Bc rfl rfl rfl (by first | rfl | omega) (by omega) rfl) (hd 178 rfl) <| Ac (Ba (D3 Bj rfl rfl (by omega)) (show V.i .u64 _ = V.i .u64 ((msL u v q).getD i 0) from congrArg (V.i .u64) ((Rl (by omega) (by omega)).trans (Uj (by omega) (by omega))))) (hd 179 rfl) <| zmv rfl (hd 180 rfl) <| zmv rfl (hd 181 rfl) <| A4 (El (e := add64Entry) Tryz.func123 rfl rfl (by kernel_rfl) (by kernel_rfl) rfl rfl rfl (fun w => run_add64 _ _ _ hxa.1 hya.1 hca.1 hca.2 w) Du) (hd 182 rfl) <| zmv rfl (hd 173 rfl) <| Ac (Am rfl rfl) (hd 183 rfl) <| Ac (Am rfl rfl) (hd 184 rfl) <| Ac (Cd (i := i) Bc rfl rfl rfl (by first | rfl | omega) (by omega) rfl) (hd 185 rfl) <| A6 (B3 rfl rfl rfl Bj (by omega)) ?_; refine zas rfl (hd 21 rfl) <| Aa <| Af <| Ac (Aw rfl rfl (Ag (by omega) (by omega))) (hd 186 rfl) <| zmv rfl (hd 168 rfl) <| Aa ?_
                refine ⟨i + 1, ?_, ?_, (by show [(⟨71, 1, 0, true, ints .u64 _⟩ : Ob), _] = [⟨71, 1, 0, true, ints .u64 _⟩, _]; rw [ad_set (by omega)]), A5 44 rfl rfl ?_⟩
                · omega
                · omega
                · exact (.cons rfl (.cons rfl (.v9 (.v9 .nil))))
              · obtain rfl : i = v.length := by omega
                refine Bh <| Af <| zmv rfl (hd 187 rfl) <| zmv rfl (hd 188 rfl) <| Ac (Cd (i := v.length) Bc rfl rfl rfl (by first | rfl | omega) (by omega) rfl) (hd 189 rfl) <| Ac (Ba (D3 Bj rfl rfl (by omega)) (show V.i .u64 _ = V.i .u64 ((msL u v q).getD v.length 0) from congrArg (V.i .u64) ((Rl (by omega) (by omega)).trans (Uj (by omega) (by omega))))) (hd 190 rfl) <| zmv rfl (hd 191 rfl) <| Ac (Ba (Aw rfl rfl rfl) (show V.i .u64 _ = V.i .u64 (((msL u v q).getD v.length 0 + (adN (msL u v q) v v.length).2) % 18446744073709551616) from congrArg (V.i .u64) Dr)) (hd 192 rfl) <| Ac (Cd (i := v.length) Bc rfl rfl rfl (by first | rfl | omega) (by omega) rfl) (hd 193 rfl) <| A6 (B3 rfl rfl rfl Bj (by omega)) <| Aa <| Ae <| Af ?_; refine zmv rfl (hd 194 rfl) <| zas rfl (hd 4 rfl) <| Aa <| Ao ?_
                refine ⟨_, (.cons rfl .nil), rfl, (.cons A8 (.cons A8 .nil)), ?_⟩
                exact ⟨rfl, bkL (msL u v q) v, by show [(⟨71, 1, 0, true, ints .u64 _⟩ : Ob), _] = [⟨71, 1, 0, true, ints .u64 _⟩, _]; rw [bk_row (by omega) (by omega)], by omega, hgu, hgv⟩
          · have hb0 : msB u v q = 0 := by omega
            have hq9 : q = vl u / vl v := by omega
            have hgl2 : gsL u v q = msL u v q := if_pos hb0
            rw [hgl2] at hgl hgu hgv
            refine Ai <| zsr <| zmv rfl (hd 194 rfl) <| zas rfl (hd 4 rfl) <| Aa <| Ao ?_
            refine ⟨_, (.cons rfl .nil), rfl, (.cons A8 (.cons A8 .nil)), ?_⟩
            rw [← hq9]
            exact ⟨rfl, (msL u v q), rfl, by omega, hgu, hgv⟩

set_option maxRecDepth 100000 in
theorem Zy (a b : List Int) (la : a.length < 4294967296) (lb : b.length < 4294967296) (ua : Az a) (ub : Az b) (ta : tpd a) (tb : tpd b) (hb : b ≠ []) : Spec Tryz.prog 107 [.n false .u64 a, .n false .u64 b] (fun o => o = .ret (.t [.n false .u64 (lm (vl a / vl b)), .n false .u64 (lm (vl a % vl b))])) := by
  refine Au [(0, .n false .u64 a), (1, .n false .u64 b)] rfl Tryz.func107 rfl (zlb rfl) fun Γ hN hds hL hR => ?_
  have hd := Bt 104 hN
  have hcv := Ns ua ub
  have hb0 := Aal ub tb hb
  have hva := Bf ua
  refine zsr <| zas rfl (hd 4 rfl) <| zas rfl (hd 5 rfl) <| Aa <| Ae <| zsr <| zmv rfl (hd 15 rfl) <| zmv rfl (hd 16 rfl) ?_
  refine Ah Tryz.f89 (Je a b la lb) rfl Tryz.func89 rfl rfl (Ab rfl (Ab rfl Ad)) (.cons .n (.cons .n .nil)) (hd 17 rfl) ?_ (fun ch hp => by simp at hp)
  rintro _ ⟨⟩; refine Ac (Br rfl rfl) (hd 18 rfl) <| Aa ?_
  refine Bg rfl (fun h1 => ?_) (fun h1 => ?_)
  · have hlt : vl a < vl b := by rcases hcv with ⟨c, v⟩ | ⟨c, v⟩ | ⟨c, v⟩ <;> omega
    refine zsr <| zmv rfl (hd 19 rfl) <| zas rfl (hd 4 rfl) <| zas rfl (hd 5 rfl) <| Aa <| Ao ?_
    refine ⟨_, _, (.cons rfl (.cons rfl .nil)), (.t1 (.nil (fr := false) (k := .u64)) (.t1 .nn .t0)), ?_⟩
    rw [Int.ediv_eq_zero_of_lt hva hlt, Int.emod_eq_of_lt hva hlt, Aey, lm_id ua ta]
  · have hge : vl b ≤ vl a := by rcases hcv with ⟨c, v⟩ | ⟨c, v⟩ | ⟨c, v⟩ <;> omega
    have hlen := kn_len ua ub tb hb hge
    refine Ai <| Ae <| zsr <| zmv rfl (hd 20 rfl) <| Ac (As Bc rfl) (hd 21 rfl) <| Ac (Ch rfl rfl) (hd 22 rfl) <| Aa ?_
    refine Bg rfl (fun h2 => ?_) (fun h2 => ?_)
    · obtain ⟨d, rfl⟩ : ∃ d, b = [d] := List.length_eq_one_iff.1 (by omega)
      have hdb := ub d (List.mem_singleton.2 rfl)
      have hd0 := Ty tb
      have hdp : 0 < d := by omega
      have hvd : vl [d] = d := by simp [vl]
      refine zsr <| zmv rfl (hd 23 rfl) <| Ac (As Bc rfl) (hd 24 rfl) <| A4 (F5 (m := a.length) Lr rfl rfl rfl (by show 8 * a.length ≤ _; omega) (by unfold maxLen; omega) rfl) (hd 25 rfl) <| zas rfl (hd 6 rfl) <| zas rfl (hd 7 rfl) <| Aa <| Ae <| zsr <| zmv rfl (hd 26 rfl) <| Ac (As Bc rfl) (hd 27 rfl) ?_; refine Ac (Bd rfl rfl (Ag (by omega) (by omega))) (hd 28 rfl) <| zas rfl (hd 8 rfl) <| Aa <| Ap <| Lo (H' := [⟨71, 1, 0, true, ints .u64 (List.replicate a.length 0 ++ (dvN a d (a.length - a.length)).1)⟩]) (by rw [Nat.sub_self]; show _ = [(⟨71, 1, 0, true, ints .u64 (List.replicate a.length 0 ++ [])⟩ : Ob)]; rw [List.append_nil]; rfl) ?_
      refine Bq (G := Nat) (fun k => k ≤ a.length) (fun k => [(7, .i .u64 (dvN a d (a.length - k)).2), (8, .i .i64 ((k : Int) - 1)), (29, .u), (30, .u), (31, .u), (32, .u), (33, .u), (34, .u), (35, .u), (36, .u), (37, .u), (38, .u), (39, .u), (40, .u), (41, .u), (42, .u), (43, .u), (44, .u), (45, .u), (46, .u), (47, .u)]) (fun k => [⟨71, 1, 0, true, ints .u64 (List.replicate k 0 ++ (dvN a d (a.length - k)).1)⟩]) (fun k => k) a.length ?_ ?_ rfl ?_
      · exact Nat.le_refl _
      · exact (.cons (by show some (V.i .u64 0) = some (V.i .u64 (dvN a d (a.length - a.length)).2); rw [Nat.sub_self]; rfl) (.cons rfl (.v9 (.v5 (.u (.u (.u (.u .nil))))))))
      · rintro k hc1
        have hr := Zv (a := a) hdp (a.length - k)
        have hx := A2 ua (k - 1)
        refine Ae <| zsr <| zmv rfl (hd 29 rfl) <| Ac (Eh rfl rfl) (hd 30 rfl) <| Aa ?_
        refine Bg rfl (fun h3 => ?_) (fun h3 => ?_)
        · refine Ai <| Ae <| Ap <| Bu (n := 17) _ rfl Cg <| zal 0 (Al (Ar rfl) (hd 34 rfl)) rfl <| zal 1 (Al (Ar rfl) (hd 35 rfl)) rfl <| Av 2 [10, 11, 12, 13, 14, 15, 16] (Al (Ar rfl) (hd 36 rfl)) rfl <| Av 3 [5, 6, 10, 11, 12, 13, 14, 15, 16] (Al (Ar rfl) (hd 37 rfl)) rfl <| Av 4 [5, 6, 10, 11, 12, 13, 14, 15, 16] (Al (Ar rfl) (hd 38 rfl)) rfl <| Av 5 [6, 10, 11, 12, 13, 14, 15, 16] (Al (B2 (i := k - 1) Bc rfl rfl (by omega) (by omega)) (hd 39 rfl)) rfl <| Av 6 [10, 11, 12, 13, 14, 15, 16] (Al (Bw Bj rfl rfl) (hd 40 rfl)) rfl <| Av 7 [8, 9, 10, 11, 12, 13, 14, 15, 16] (Al (Ar rfl) (hd 41 rfl)) rfl <| Av 8 [9, 10, 11, 12, 13, 14, 15, 16] (Al (B2 (i := 0) Bc rfl rfl rfl (by simp)) (hd 42 rfl)) rfl ?_; refine Av 9 [10, 11, 12, 13, 14, 15, 16] (Al (Bw Bj rfl rfl) (hd 43 rfl)) rfl ?_
          refine B5 10 ?_ rfl (by kernel_rfl)
          refine Bp Tryz.f126 (Q7 (dvN a d (a.length - k)).2 (a.getD (k - 1) 0) d hr.1 hr.2 hx.1 hx.2 hdb.2) rfl Tryz.func126 rfl rfl (Ab rfl (Ab rfl (Ab rfl Ad))) (.cons .i (.cons .i (.cons .i .nil))) (hd 44 rfl) ?_ (fun ch hp => by simp at hp)
          rintro _ ⟨⟩; refine zal 11 (Al (Ar rfl) (hd 33 rfl)) rfl <| zal 12 (Al (Am rfl rfl) (hd 45 rfl)) rfl <| zal 13 (Cr rfl rfl (hd 46 rfl)) rfl <| zal 14 (Al (Cd (i := k - 1) Bc rfl rfl rfl (by omega) (by omega) rfl) (hd 47 rfl)) rfl ?_
          refine B5 15 ?_ rfl (by kernel_rfl)
          refine D1 (B3 rfl rfl rfl Bj (by simp only [List.length_append, List.length_replicate, G4]; omega)) rfl <| zal 16 (Al (Cm rfl) (hd 7 rfl)) rfl <| Bx (by kernel_rfl) <| Af <| zmv rfl (hd 31 rfl) <| Ac (Bd rfl rfl (Ag (by omega) (by omega))) (hd 32 rfl) <| zas rfl (hd 8 rfl) <| Aa ?_
          refine ⟨k - 1, ?_, ?_, (by show [(⟨71, 1, 0, true, ints .u64 _⟩ : Ob)] = [⟨71, 1, 0, true, ints .u64 _⟩]; rw [Pb (by omega), Nh (by omega) hc1]), A5 42 rfl rfl ?_⟩
          · omega
          · omega
          · exact (.cons (by show some (V.i .u64 _) = some (V.i .u64 _); rw [Nh (by omega) hc1]) (.cons (by show some (V.i .i64 _) = some (V.i .i64 _); congr 2; omega) (.v9 (.v5 (.u (.u (.u (.u .nil))))))))
        · obtain rfl : k = 0 := by omega
          refine Bh <| zsr <| Hl (k := .u64) (l := List.replicate 0 0 ++ (dvN a d (a.length - 0)).1) (l' := (dvN a d a.length).1) 6 rfl rfl (by simp [G4]) (by rw [Nat.sub_zero, List.drop_zero]; show List.take _ (dvN a d a.length).1 = _; rw [List.take_of_length_le (by rw [G4]; exact Nat.le_refl _)]) hL <| zmv rfl (hd 48 rfl) ?_
          refine Ah Tryz.f66 (E2 (dvN a d a.length).1 (by rw [G4]; omega)) rfl Tryz.func66 rfl rfl (Ab rfl Ad) (.cons .n .nil) (hd 49 rfl) ?_ (fun ch hp => by simp at hp)
          rintro _ ⟨⟩; refine zmv rfl (hd 50 rfl) ?_
          refine Ah Tryz.f35 (Hu (dvN a d (a.length - 0)).2) rfl Tryz.func35 rfl rfl (Ab rfl Ad) (.cons .i .nil) (hd 51 rfl) ?_ (fun ch hp => by simp at hp)
          rintro _ ⟨⟩; refine zas rfl (hd 4 rfl) <| zas rfl (hd 5 rfl) <| Aa <| Ao ?_
          refine ⟨_, _, (.cons rfl (.cons rfl .nil)), (.t1 .nn (.t1 .nn .t0)), ?_⟩
          have hde := Ab1 ua hdp
          rw [Nat.sub_zero, hde.2, Zq (Int.emod_nonneg _ (by omega)) (by have := Int.emod_lt_of_pos (vl a) hdp; omega), hde.1, hvd]
    · have hbl : 0 < b.length := List.length_pos_iff.2 hb
      obtain ⟨n, hn⟩ : ∃ n, b.length = n + 2 := ⟨b.length - 2, by omega⟩
      have htb := tb hb
      rw [hn, show n + 2 - 1 = n + 1 by omega] at htb
      have hbt := A2 ub (n + 1)
      obtain ⟨s, hs⟩ : ∃ s : Nat, 64 - bl 64 (b.getD (n + 1) 0).toNat = s := ⟨_, rfl⟩
      have hz := Abm (show 0 < b.getD (n + 1) 0 by omega) hbt.2
      rw [hs] at hz
      obtain ⟨s64, y0, y1⟩ := hz
      obtain ⟨v, hv⟩ : ∃ v, (upL b s).take b.length = v := ⟨_, rfl⟩
      have hv2 := Agn s64 ub (by rw [hn]; exact y1) hb
      have uv : Az v := hv ▸ Ep (Xw s64 ub) _
      have hlv : v.length = n + 2 := by rw [← hv, List.length_take, Kp]; omega
      rw [hv] at hv2
      have htop := kn_top ub uv tb hn hlv hv2
      have hul := Kp a s
      refine Ai <| zsr <| zmv rfl (hd 52 rfl) <| zmv rfl (hd 53 rfl) <| Ac (As Bc rfl) (hd 54 rfl) <| Ac (Bd rfl rfl (r := ((n + 1 : Nat) : Int)) (by rw [Ag (by omega) (by omega)]; omega)) (hd 55 rfl) <| Ac (B2 (i := n + 1) Bc rfl rfl (by first | rfl | omega) (by omega)) (hd 56 rfl) <| Ac (Ba (Bw Bj rfl rfl) (show V.i .u64 _ = V.i .u64 (((b.getD (n + 1) 0).toNat : Int)) from congrArg (V.i .u64) (Int.toNat_of_nonneg hbt.1).symm)) (hd 57 rfl) ?_
      refine Ah Tryz.f127 (Lz_s (b.getD (n + 1) 0).toNat (by omega)) rfl Tryz.func127 rfl rfl (Ab rfl Ad) (.cons .i .nil) (hd 58 rfl) ?_ (fun ch hp => by simp at hp)
      rintro _ ⟨⟩; refine Ac (Cv Jx Kq rfl (r := (s : Int)) (by rw [hs]; exact A0 (by omega) (by omega))) (hd 59 rfl) <| zas rfl (hd 9 rfl) <| Aa <| Ae <| Bu (n := 11) _ rfl Cg <| Av 0 [2, 5, 8, 9, 10] (Al (Ar rfl) (hd 60 rfl)) rfl <| Av 1 [2, 5, 8, 9, 10] (Al (Ar rfl) (hd 61 rfl)) rfl <| Av 3 [5, 8, 9, 10] (Al (Ar rfl) (hd 63 rfl)) rfl <| Av 4 [5, 8, 9, 10] (Al (Ar rfl) (hd 64 rfl)) rfl <| Av 6 [7, 8, 10] (Al (Ar rfl) (hd 66 rfl)) rfl <| zal 7 (Al (As Bc rfl) (hd 67 rfl)) rfl ?_
      refine B5 2 ?_ rfl (by kernel_rfl)
      refine Es Tryz.f128 (up_n s a (by omega) s64 ua) (fun o G ⟨_, h⟩ => h ▸ An A8 Ax) rfl Tryz.func128 rfl rfl (Ab rfl (Ab rfl Ad)) (.cons .n (.cons .i .nil)) (hd 62 rfl) ?_ (fun ch G hp => by simp at hp)
      rintro y G ⟨hy, rfl⟩; injection hy with hy; subst hy
      show JA _ _ _ _ _ ((62, .o 0 0 0 (a.length + 1)) :: _) _ _
      refine B5 5 ?_ rfl (by kernel_rfl)
      refine Bp Tryz.f128 (up_s s b (by omega) s64 ub) rfl Tryz.func128 rfl rfl (Ab rfl (Ab rfl Ad)) (.cons .n (.cons .i .nil)) (hd 65 rfl) ?_ (fun ch hp => by simp at hp)
      rintro _ ⟨⟩; refine zal 8 (Al (Ba (La Bc rfl G5 (Db rfl rfl) (.inl rfl) (by omega) (by rw [Kp]; omega)) (show V.n _ .u64 _ = V.n _ .u64 v by rw [List.drop_zero, hv])) (hd 68 rfl)) rfl <| zal 9 (Al (Cm rfl) (hd 10 rfl)) rfl <| zal 10 (Al (Cm rfl) (hd 11 rfl)) rfl <| Bx (by kernel_rfl) <| zsr <| zmv rfl (hd 69 rfl) <| Ac (As Bc rfl) (hd 70 rfl) <| zas rfl (hd 12 rfl) <| Aa <| zsr <| zmv rfl (hd 71 rfl) ?_; refine Ac (As Bc rfl) (hd 72 rfl) <| zmv rfl (hd 73 rfl) <| Ac (Bd rfl rfl (r := ((a.length - v.length : Nat) : Int)) (by rw [Ag (by omega) (by omega)]; omega)) (hd 74 rfl) <| Ac (Aw rfl rfl (r := ((a.length - v.length + 1 : Nat) : Int)) (by rw [Ag (by omega) (by omega)]; omega)) (hd 75 rfl) <| A4 (F5 (m := a.length - v.length + 1) Lr rfl rfl rfl (by show 8 * (a.length - v.length + 1) ≤ _; omega) (by unfold maxLen; omega) rfl) (hd 76 rfl) <| zas rfl (hd 13 rfl) <| Aa <| Ae <| zsr <| zmv rfl (hd 77 rfl) <| Ac (As Bc rfl) (hd 78 rfl) <| zmv rfl (hd 79 rfl) ?_; refine Ac (Bd rfl rfl (r := ((a.length - v.length : Nat) : Int)) (by rw [Ag (by omega) (by omega)]; omega)) (hd 80 rfl) <| zas rfl (hd 14 rfl) <| Aa <| Ap <| Lo (H' := [⟨71, 1, 0, true, ints .u64 (upL a s)⟩, ⟨71, 1, 0, true, ints .u64 (List.replicate (a.length - b.length + 1) 0 ++ [])⟩]) (by rw [List.append_nil, hn, ← hlv]; rfl) ?_
      refine Bq (G := Nat × List Int × List Int) (fun g => g.1 ≤ a.length - b.length + 1 ∧ Kn (vl a * 2 ^ s) v (a.length + 1) g.1 g.2.1 g.2.2 ∧ g.2.2.length = a.length - b.length + 1 - g.1) (fun g => [(14, .i .i64 ((g.1 : Int) - 1)), (81, .u), (82, .u), (83, .u), (84, .u), (85, .u), (86, .u), (87, .u), (88, .u), (89, .u), (90, .u), (91, .u), (92, .u), (93, .u), (94, .u), (95, .u), (96, .u)]) (fun g => [⟨71, 1, 0, true, ints .u64 g.2.1⟩, ⟨71, 1, 0, true, ints .u64 (List.replicate g.1 0 ++ g.2.2)⟩]) (fun g => g.1) (a.length - b.length + 1, upL a s, []) ?_ ?_ rfl ?_
      · exact ⟨Nat.le_refl _, Ze s64 ua ub tb hb hv2 hlen, by show 0 = _; omega⟩
      · exact (.cons (by show some (V.i .i64 _) = some (V.i .i64 _); congr 2; omega) (.v9 (.v5 (.u .nil))))
      · rintro ⟨k, U, Qs⟩ ⟨hk, hK, hQl⟩
        dsimp only at hk hK hQl
        refine Ae <| zsr <| zmv rfl (hd 81 rfl) <| Ac (Eh rfl rfl) (hd 82 rfl) <| Aa ?_
        refine Bg rfl (fun h4 => ?_) (fun h4 => ?_)
        · obtain ⟨k, rfl⟩ : ∃ m, k = m + 1 := ⟨k - 1, by omega⟩
          have hG := hK.gup uv hlv htop (by omega)
          have hKl := hK.lu
          refine Ai <| Ae <| Ap <| Af <| zmv rfl (hd 85 rfl) <| zmv rfl (hd 86 rfl) <| zmv rfl (hd 87 rfl) <| zmv rfl (hd 88 rfl) <| zmv rfl (hd 89 rfl) <| zmv rfl (hd 90 rfl) <| Ac (Aw rfl rfl (r := ((k + v.length : Nat) : Int)) (by rw [Ag (by omega) (by omega)]; omega)) (hd 91 rfl) <| Ac (Aw rfl rfl (r := ((k + v.length + 1 : Nat) : Int)) (by rw [Ag (by omega) (by omega)]; omega)) (hd 92 rfl) <| Ac (Vh (l := k) (h := k + (n + 3)) (r := k) (n := n + 3) Bc rfl rfl (Db rfl (by omega)) (Db rfl (by omega)) (by omega) (by omega) (by omega) (by omega)) (hd 93 rfl) ?_; refine zmv rfl (hd 94 rfl) ?_
          refine G1 Tryz.f129 (Ae9 U (slJ U k (n + 3)) v (List.replicate (k + 1) 0 ++ Qs) k n (by omega) (by omega) hK.uu rfl hG) rfl Tryz.func129 rfl rfl (Ab rfl (Ab rfl Ad)) (.cons (.same rfl) (.cons .n .nil)) (C8 Et (C8 Et Dx)) (hd 95 rfl) ?_ (fun ch H2 hp => by simp at hp)
          rintro y H2 ⟨hy, r, rfl, hrl, hru, hrv⟩; injection hy with hy; subst hy; refine Ac (Cd (i := k) Bc rfl rfl rfl (by omega) (by omega) rfl) (hd 96 rfl) <| A6 (B3 rfl rfl rfl Bj (by simp only [List.length_append, List.length_replicate]; omega)) <| Aa <| Af <| zmv rfl (hd 83 rfl) <| Ac (Bd rfl rfl (Ag (by omega) (by omega))) (hd 84 rfl) <| zas rfl (hd 14 rfl) <| Aa ?_
          refine ⟨(k, rwJ U k r, vl (slJ U k (n + 3)) / vl v :: Qs), ?_, ?_, (by show [_, (⟨71, 1, 0, true, ints .u64 _⟩ : Ob)] = [_, ⟨71, 1, 0, true, ints .u64 _⟩]; rw [Afj]), A5 34 rfl rfl ?_⟩
          · exact ⟨by show k ≤ _; omega, hK.next hG (by omega) hrl hru hrv, by show (_ :: Qs).length = _; rw [List.length_cons]; omega⟩
          · show k < k + 1
            omega
          · exact (.cons (by show some (V.i .i64 _) = some (V.i .i64 _); congr 2; omega) (.v9 (.v5 (.u .nil))))
        · obtain rfl : k = 0 := by omega
          have hKl := hK.lu
          obtain ⟨hf1, hf2, hf3⟩ := hK.fin s64 hv2 hb0 ua uv (by omega)
          refine Bh <| Ae <| Ia (k := .u64) (l := List.replicate 0 0 ++ Qs) (l' := Qs) 13 rfl rfl (by simp only [List.length_append, List.length_replicate]; omega) (by rw [List.drop_zero]; show List.take _ Qs = _; rw [List.take_of_length_le (by omega)]) hL <| Ia (k := .u64) (l := U) (l' := U) 10 rfl rfl (by omega) (by rw [List.drop_zero, List.take_of_length_le (by omega)]) hL <| Bu (n := 9) _ rfl Cg <| Av 0 [1, 6, 7, 8] (Al (Ar rfl) (hd 97 rfl)) rfl <| Av 2 [4, 6, 7, 8] (Al (Ar rfl) (hd 99 rfl)) rfl <| Av 3 [4, 6, 7, 8] (Al (Ar rfl) (hd 100 rfl)) rfl <| Av 4 [6, 7, 8] (Al (Ba (La Bc rfl G5 (Db rfl rfl) (.inl rfl) (by omega) (by omega)) (show V.n _ .u64 _ = V.n _ .u64 (U.take v.length) by rw [List.drop_zero])) (hd 101 rfl)) rfl <| Av 5 [6, 7, 8] (Al (Ar rfl) (hd 102 rfl)) rfl ?_
          refine B5 1 ?_ rfl (by kernel_rfl)
          refine Bp Tryz.f66 (E2 Qs (by omega)) rfl Tryz.func66 rfl rfl (Ab rfl Ad) (.cons .n .nil) (hd 98 rfl) ?_ (fun ch hp => by simp at hp)
          rintro y hy; injection hy with hy; subst hy
          refine B5 6 ?_ rfl (by kernel_rfl)
          refine Bp Tryz.f130 (S7 s (U.take v.length) (by rw [List.length_take]; omega) s64 (Ep hK.uu _)) rfl Tryz.func130 rfl rfl (Ab rfl (Ab rfl Ad)) (.cons .n (.cons .i .nil)) (hd 103 rfl) ?_ (fun ch hp => by simp at hp)
          rintro _ ⟨⟩; refine zal 7 (Al (Cm rfl) (hd 4 rfl)) rfl <| zal 8 (Al (Cm rfl) (hd 5 rfl)) rfl <| Bx (by kernel_rfl) <| Ao ?_
          refine ⟨_, _, (.cons rfl (.cons rfl .nil)), (.t1 .nn (.t1 .nn .t0)), ?_⟩
          rw [hf1, hf3]

theorem Lm (v : Int) (hl : (lm v).length < 1099511627776) : Spec Tryz.prog 66 [.n false .u64 (lm v)] (fun o => o = .ret (.n true .u64 (lm v))) := by
  have h := E2 (lm v) hl
  rwa [Ku (Aev v)] at h
theorem Di (v : Int) (hl : (lm v).length < 1099511627776) : Spec Tryz.prog 30 [.n false .u64 (lm v)] (fun o => o = .ret (.i .i64 (Aq v : Int))) := by
  have h := Ee (lm v) hl (Dc v)
  rwa [Le] at h
theorem Po (v w : Int) (hv : (lm v).length < 4294967296) (hw : (lm w).length < 4294967296) : Spec Tryz.prog 89 [.n false .u64 (lm v), .n false .u64 (lm w)] (fun o => o = .ret (.i .i64 (Ht v.natAbs w.natAbs))) := by
  have h := Je (lm v) (lm w) hv hw
  rw [Ku (Aev v), Ku (Aev w)] at h
  have e : Qy (lm v) (lm w) = Ht v.natAbs w.natAbs := Pg (by decide) _ _
  rwa [e] at h
theorem L6 (s : Bool) (l : List Int) (v : Int) (hl : l.length < 1099511627776) (hu : Az l) (hv : sv s l = v) : Spec Tryz.prog 101 [.a [.b s, .n false .u64 l]] (fun o => o = .ret (.a [.b (decide (v < 0)), .n true .u64 (lm v)])) := by
  have h := Aie s l hl
  have e := K5 hu hv
  rwa [e.1, e.2.1] at h
theorem Jc (v w : Int) (hv : (lm v).length < 4294967296) (hw : (lm w).length < 4294967296) (h0 : w ≠ 0) : Spec Tryz.prog 107 [.n false .u64 (lm v), .n false .u64 (lm w)] (fun o => o = .ret (.t [.n false .u64 (lm (qn v w)), .n false .u64 (lm (rn v w))])) := by
  have h := Zy (lm v) (lm w) hv hw (Dc v) (Dc w) (Aev v) (Aev w) (Qn h0)
  rwa [S2, S2] at h
theorem Sub_v (v w : Int) (h0 : 0 ≤ w) (hle : w ≤ v) (hv : Aq v ≤ 67108864) : Spec Tryz.prog 105 [.n false .u64 (lm v), .n false .u64 (lm w)] (fun o => o = .ret (.t [.n false .u64 (lm (v - w)), .i .i64 0])) := by
  have hw : Aq w ≤ 67108864 := Nat.le_trans (Cc (by omega)) hv
  have hlv := Bv hv
  have hlw := Bv hw
  have ev : vl (lm v) = v := by rw [S2]; omega
  have ew : vl (lm w) = w := by rw [S2]; omega
  have hd : vl (Z1 (lm v) (lm w)) = v - w := by rw [Acm (Dc v) (Dc w) (by omega), ev, ew]
  have hu : Az (Z1 (lm v) (lm w)) := Sy (Bz (Dc v)) (Bz (Dc w)) _
  have e := Fv hu hd
  have hc := Ns (Dc v) (Dc w)
  have h := Sub_ok (lm v) (lm w) (by omega) (by omega) (Dc v) (Dc w) (by rcases hc with ⟨c, x⟩ | ⟨c, x⟩ | ⟨c, x⟩ <;> omega) (by rw [e, Le]; exact Nat.le_trans (Cc (by omega)) hv)
  rwa [e] at h
theorem Add1_v (v : Int) (h0 : 0 ≤ v) (hv : Aq (v + 1) ≤ 67108864) : Spec Tryz.prog 104 [.n false .u64 (lm v), .n false .u64 [1]] (fun o => o = .ret (.t [.n false .u64 (lm (v + 1)), .i .i64 0])) := by
  have hlv := Bv (Nat.le_trans (Cc (show v.natAbs ≤ (v + 1).natAbs by omega)) hv)
  have ev : vl (lm v) = v := by rw [S2]; omega
  have u1 : Az [1] := Ts (by decide) (by decide)
  have hd : vl (N9 (lm v) [1]) = v + 1 := by rw [Tk, ev]; rfl
  have hc := Tb (a := (swL (trm (lm v)) (trm [1])).1) (b := (swL (trm (lm v)) (trm [1])).2) (by unfold swL; split; exact Bz u1; exact Bz (Dc v)) (by unfold swL; split; exact Bz (Dc v); exact Bz u1) (swL (trm (lm v)) (trm [1])).1.length
  have hu : Az (N9 (lm v) [1]) := Eg (Ta _) hc.1 (by omega)
  have e := Fv hu hd
  have h := Add_ok (lm v) [1] (by omega) (by decide) (Dc v) u1 (by rw [e, Le]; exact hv)
  rwa [e] at h
theorem and_1 {x : Int} (h0 : 0 ≤ x) (h1 : x < 18446744073709551616) : F7 .and .u64 x 1 = x % 2 := by
  obtain ⟨n, rfl⟩ := Int.eq_ofNat_of_zero_le h0
  rw [and1 (by omega)]; omega
theorem Aew (v : Int) : (lm v).getD 0 0 % 2 = (v.natAbs : Int) % 2 := by
  unfold lm
  rw [Hs (by decide)]
  simp only [Nat.pow_zero, Nat.div_one]
  omega

theorem Bit0_v (v : Int) (hl : (lm v).length < 1099511627776) : Spec Tryz.prog 121 [.n false .u64 (lm v), .i .i64 0] (fun o => o = .ret (.i .i64 ((v.natAbs : Int) % 2))) := by
  refine Au [(0, .n false .u64 (lm v)), (1, .i .i64 0)] rfl Tryz.func121 rfl (zlb rfl) fun Γ hN hds hL hR => ?_
  have hd := Bt 25 hN
  have ht := A2 (Dc v) 0
  have he := Aew v
  refine zsr <| zas rfl (hd 4 rfl) <| Aa <| Ae <| zsr <| zmv rfl (hd 5 rfl) <| Ac (Bo (Br rfl rfl) (by decide)) (hd 6 rfl) <| zmv rfl (hd 7 rfl) <| Ay 7 rfl rfl (Ar rfl) (hd 8 rfl) <| Ay 7 rfl rfl (Dk rfl rfl (by omega) (r := 0) rfl) (hd 9 rfl) <| Ay 7 rfl rfl (Ar rfl) (hd 10 rfl) ?_; refine Ay 7 rfl rfl (As Bc rfl) (hd 11 rfl) <| Ay 7 rfl rfl (Ba (Eh rfl rfl) (show V.b _ = V.b (decide ((lm v).length = 0)) by congr 1; rw [decide_eq_decide]; omega)) (hd 12 rfl) <| Ac (A3 rfl rfl) (hd 13 rfl) <| Aa ?_
  refine Bg rfl (fun h1 => ?_) (fun h1 => ?_)
  · have hz : lm v = [] := List.eq_nil_of_length_eq_zero h1
    rw [hz] at he
    refine zsr <| zas rfl (hd 4 rfl) <| Aa <| Ao ?_
    refine ⟨_, _, (.cons rfl .nil), .i, ?_⟩
    have : (v.natAbs : Int) % 2 = 0 := by rw [← he]; rfl
    rw [this]
  · refine Ai <| zsr <| zmv rfl (hd 14 rfl) <| zmv rfl (hd 15 rfl) <| Ac (Dk rfl rfl (by omega) (r := 0) rfl) (hd 16 rfl) <| Ac (B2 (i := 0) Bc rfl rfl rfl (by omega)) (hd 17 rfl) <| Ac (Bw Bj rfl rfl) (hd 18 rfl) <| zmv rfl (hd 19 rfl) <| Ac (Ba (Fi rfl rfl (by omega) rfl) (show V.i .i64 _ = V.i .i64 0 from rfl)) (hd 20 rfl) <| Ac (Cv Jx Kq rfl (r := 0) rfl) (hd 21 rfl) <| Ac (Ba (D2 rfl rfl (by omega) rfl) (show V.i .u64 _ = V.i .u64 ((lm v).getD 0 0) from congrArg (V.i .u64) (by show Int.fdiv _ 1 = _; exact Int.fdiv_one _))) (hd 22 rfl) <| Ac (Ba (F1 (by simp) rfl rfl rfl) (show V.i .u64 _ = V.i .u64 ((lm v).getD 0 0 % 2) from congrArg (V.i .u64) (and_1 ht.1 ht.2))) (hd 23 rfl) ?_; refine Ac (Cv G9 Jx rfl (Ag (by omega) (by omega))) (hd 24 rfl) <| zas rfl (hd 4 rfl) <| Aa <| Ao ?_
    refine ⟨_, _, (.cons rfl .nil), .i, ?_⟩
    rw [he]

theorem Aaj (v w : Int) : Spec Tryz.prog 118 [.n false .u64 (lm (qn v w)), .n false .u64 (lm (rn v w)), .n false .u64 (lm w), .b (ng v w), .b (decide (w < 0)), .b (decide (v < 0))] (fun o => o = .ret (.b (gro 1 v w))) := by
  refine Au [(0, .n false .u64 (lm (qn v w))), (1, .n false .u64 (lm (rn v w))), (2, .n false .u64 (lm w)), (3, .b (ng v w)), (4, .b (decide (w < 0))), (5, .b (decide (v < 0)))] rfl Tryz.func118 rfl (zlb rfl) fun Γ hN hds hL hR => ?_
  have hd := Bt 14 hN
  refine zsr <| zas rfl (hd 12 rfl) <| Aa <| zsr <| zmv rfl (hd 13 rfl) <| zas rfl (hd 12 rfl) <| Aa <| Ao ?_
  refine ⟨_, _, (.cons rfl .nil), .b, ?_⟩
  exact rfl

theorem Aai (v w : Int) : Spec Tryz.prog 119 [.n false .u64 (lm (qn v w)), .n false .u64 (lm (rn v w)), .n false .u64 (lm w), .b (ng v w), .b (decide (w < 0)), .b (decide (v < 0))] (fun o => o = .ret (.b (gro 2 v w))) := by
  refine Au [(0, .n false .u64 (lm (qn v w))), (1, .n false .u64 (lm (rn v w))), (2, .n false .u64 (lm w)), (3, .b (ng v w)), (4, .b (decide (w < 0))), (5, .b (decide (v < 0)))] rfl Tryz.func119 rfl (zlb rfl) fun Γ hN hds hL hR => ?_
  have hd := Bt 15 hN
  refine zsr <| zas rfl (hd 12 rfl) <| Aa <| zsr <| zmv rfl (hd 13 rfl) <| Ac (E1 rfl) (hd 14 rfl) <| zas rfl (hd 12 rfl) <| Aa <| Ao ?_
  refine ⟨_, _, (.cons rfl .nil), .b, ?_⟩
  exact rfl


theorem Xj : Spec Tryz.prog 35 [.i .u64 1] (fun o => o = .ret (.n true .u64 [1])) := Hu 1
theorem Og (s : Bool) (l : List Int) (v : Int) (hl : l.length < 1099511627776) (hu : Az l) (hv : sv s l = v) (h : Aq v ≤ 67108864) : SpecM Tryz.prog 106 [.b s, .n false .u64 l, .i .i64 0] [] (fun o G => o = .ret (.t [.a [.b (decide (v < 0)), .o 0 0 0 (lm v).length], .i .i64 0]) ∧ G = [⟨71, 1, 0, true, ints .u64 (lm v)⟩]) :=
  (Yf s l 0 v (.inl ⟨rfl, hu, hl, hv⟩)).mono fun o G ⟨s2, r, e, ho, hG, hR⟩ => by
    rcases hR with ⟨_, h1, h2, h3⟩ | ⟨hb, _⟩
    · subst h1; subst h2; subst h3; exact ⟨ho, hG⟩
    · omega


theorem Q2 (x n : Nat) (hx : (Aj B32 x).length < 549755813888) (hn : n < 4294967296) : Spec Tryz.prog 78 [.n false .u64 (Aj B32 x), .i .i64 (n : Int)] (fun o => o = .ret (.n false .u64 (Aj B32 (x * 2 ^ n)))) := by
  refine Au [(0, .n false .u64 (Aj B32 x)), (1, .i .i64 (n : Int))] rfl Tryz.func78 rfl (zlb rfl) fun Γ hN hds hL hR => ?_
  have hd := Bt 55 hN
  have hr := Hy (b := B32) (by decide) x
  have hs : n % 32 < 32 := by omega
  refine zsr <| zas rfl (hd 4 rfl) <| Aa <| Ae <| zsr <| zmv rfl (hd 9 rfl) <| Ac (As Cz rfl) (hd 10 rfl) <| Ac (Ch rfl rfl) (hd 11 rfl) <| Aa ?_
  refine Bg rfl (fun h1 => ?_) (fun h1 => ?_)
  · refine zsr <| zas rfl (hd 4 rfl) <| Aa <| Ao ?_
    refine ⟨_, _, (.cons rfl .nil), (.nil (fr := false) (k := .u64)), ?_⟩
    have hz : (Aj B32 x) = [] := List.eq_nil_of_length_eq_zero (by omega)
    rw [No.1 hz, Nat.zero_mul, Ct]
  · refine Ai <| zsr <| zmv rfl (hd 12 rfl) <| Ac (As Cz rfl) (hd 13 rfl) <| zmv rfl (hd 14 rfl) <| Ac (Dk rfl rfl (by omega) (r := ((n / 32 : Nat) : Int)) (P9 (by omega))) (hd 15 rfl) <| Ac (Aw rfl rfl (r := (((Aj B32 x).length + n / 32 : Nat) : Int)) (by rw [Ag (by omega) (by omega)]; omega)) (hd 16 rfl) <| Ac (Aw rfl rfl (r := (((Aj B32 x).length + n / 32 + 1 : Nat) : Int)) (by rw [Ag (by omega) (by omega)]; omega)) (hd 17 rfl) <| A4 (F5 (m := (Aj B32 x).length + n / 32 + 1) Xl rfl rfl rfl (by show 8 * ((Aj B32 x).length + n / 32 + 1) ≤ _; omega) (by unfold maxLen; omega) rfl) (hd 18 rfl) <| zas rfl (hd 5 rfl) <| Aa <| Ae ?_; refine Af <| zmv rfl (hd 19 rfl) <| Ac (Ba (Fi rfl rfl (by omega) rfl) (show V.i .i64 _ = V.i .i64 (((n % 32 : Nat) : Int)) from congrArg (V.i .i64) Ahp)) (hd 20 rfl) <| zas rfl (hd 6 rfl) <| Aa <| Ae <| zsr <| zmv rfl (hd 21 rfl) <| Ac (As Cz rfl) (hd 22 rfl) <| zmv rfl (hd 23 rfl) <| Aa <| Ap ?_; refine Lo (H' := [⟨71, 1, 0, true, ints .u64 (shR (Aj B32 x) (n % 32) (n / 32) 0)⟩]) (by rw [← shR_0]; rfl) ?_
    refine Bq (G := Nat) (fun i => i ≤ (Aj B32 x).length) (fun i => [(23, .i .i64 (i : Int)), (7, .u), (8, .u), (24, .u), (25, .u), (26, .u), (27, .u), (28, .u), (29, .u), (30, .u), (31, .u), (32, .u), (33, .u), (34, .u), (35, .u), (36, .u), (37, .u), (38, .u), (39, .u), (40, .u), (41, .u), (42, .u), (43, .u), (44, .u), (45, .u), (46, .u), (47, .u), (48, .u), (49, .u), (50, .u), (51, .u), (52, .u)]) (fun i => [⟨71, 1, 0, true, ints .u64 (shR (Aj B32 x) (n % 32) (n / 32) i)⟩]) (fun i => (Aj B32 x).length - i) 0 ?_ ?_ rfl ?_
    · exact Nat.zero_le _
    · exact (.cons rfl (.v9 (.v9 (.v9 (.u .nil)))))
    · rintro i hc1
      have hf := Adb (s := (n % 32)) (w := (n / 32)) hc1
      have hc := Ue hs hr i
      have hx := I1 (by decide) hr i
      have hp := Ud hs hr i
      have hel := Ahc (x := (Aj B32 x).getD i 0) hs hc.1 hc.2
      refine zsr <| Ac (Br rfl rfl) (hd 24 rfl) <| Aa <| Ae ?_
      refine Bg rfl (fun h2 => ?_) (fun h2 => ?_)
      · refine Ai <| Ae <| Ap <| zsr <| zmv rfl (hd 25 rfl) <| Ac (B2 (i := i) Cz rfl rfl (by first | rfl | omega) (by omega)) (hd 26 rfl) <| Ac (Bw Bj rfl rfl) (hd 27 rfl) <| zas rfl (hd 7 rfl) <| zas rfl (hd 8 rfl) <| Aa <| Ae <| Bu (n := 14) _ rfl Cg ?_; refine Av 0 [5, 6, 11, 12, 13] (Al (Ar rfl) (hd 28 rfl)) rfl <| Av 1 [4, 5, 6, 11, 12, 13] (Al (Ar rfl) (hd 29 rfl)) rfl <| Av 2 [3, 4, 5, 6, 11, 12, 13] (Al (Ar rfl) (hd 30 rfl)) rfl <| Av 3 [4, 5, 6, 11, 12, 13] (Al (Dk rfl rfl (by omega) (r := ((n / 32 : Nat) : Int)) (P9 (by omega))) (hd 31 rfl)) rfl <| Av 4 [5, 6, 11, 12, 13] (Al (Aw rfl rfl (r := ((i + n / 32 : Nat) : Int)) (by rw [Ag (by omega) (by omega)]; omega)) (hd 32 rfl)) rfl <| Av 5 [6, 11, 12, 13] (Al (Cd (i := i + n / 32) Cz rfl rfl rfl (by first | rfl | omega) (by omega) rfl) (hd 33 rfl)) rfl <| zal 6 (Al (Ba (D3 Bj rfl rfl (by omega)) (show V.i .u64 _ = V.i .u64 ((Jf (Aj B32 x) (n % 32) i).2) from congrArg (V.i .u64) Adc)) (hd 34 rfl)) rfl <| Av 7 [9, 10, 11, 12, 13] (Al (Ar rfl) (hd 35 rfl)) rfl <| Av 8 [9, 10, 11, 12, 13] (Al (Ar rfl) (hd 36 rfl)) rfl <| Av 9 [10, 11, 12, 13] (Al (Ba (Fo rfl rfl (by omega) rfl) (show V.i .u64 _ = V.i .u64 (((Aj B32 x).getD i 0 * 2 ^ (n % 32))) from congrArg (V.i .u64) (P3 hs hx.1 hx.2))) (hd 37 rfl)) rfl <| zal 10 (Al (Ba (Fi rfl rfl (by decide) rfl) (show V.i .u64 _ = V.i .u64 (((Aj B32 x).getD i 0 * 2 ^ (n % 32)) % 4294967296) from congrArg (V.i .u64) (Int.tmod_eq_emod_of_nonneg hp.1))) (hd 38 rfl)) rfl <| zal 11 (Al (Aw rfl rfl (A0 hel.1 (Int.lt_trans hel.2 (by decide)))) (hd 39 rfl)) rfl <| zal 12 (Al (Cd (i := i + n / 32) Cz rfl rfl rfl (by first | rfl | omega) (by omega) rfl) (hd 40 rfl)) rfl ?_
        refine B5 13 ?_ rfl (by kernel_rfl)
        refine D1 (B3 rfl rfl rfl Bj (by omega)) rfl <| Bx (by kernel_rfl) <| Af <| zmv rfl (hd 41 rfl) <| zmv rfl (hd 42 rfl) <| zmv rfl (hd 43 rfl) <| Ac (Dk rfl rfl (by omega) (r := ((n / 32 : Nat) : Int)) (P9 (by omega))) (hd 44 rfl) <| Ac (Aw rfl rfl (r := ((i + n / 32 : Nat) : Int)) (by rw [Ag (by omega) (by omega)]; omega)) (hd 45 rfl) <| Ac (Aw rfl rfl (r := ((i + n / 32 + 1 : Nat) : Int)) (by rw [Ag (by omega) (by omega)]; omega)) (hd 46 rfl) <| zmv rfl (hd 47 rfl) <| zmv rfl (hd 48 rfl) <| Ac (Ba (Fo rfl rfl (by omega) rfl) (show V.i .u64 _ = V.i .u64 (((Aj B32 x).getD i 0 * 2 ^ (n % 32))) from congrArg (V.i .u64) (P3 hs hx.1 hx.2))) (hd 49 rfl) <| Ac (Dk rfl rfl (by decide) (r := ((Aj B32 x).getD i 0 * 2 ^ (n % 32)) / 4294967296) (Mz hp.1 (by omega) (by decide))) (hd 50 rfl) ?_; refine Ac (Cd (i := i + n / 32 + 1) Cz rfl rfl rfl (by first | rfl | omega) (by omega) rfl) (hd 51 rfl) <| A6 (B3 rfl rfl rfl Bj (by simp only [List.length_set]; omega)) <| Aa <| Af <| Ac (Aw rfl rfl (Ag (by omega) (by omega))) (hd 52 rfl) <| zmv rfl (hd 23 rfl) <| Aa ?_
        refine ⟨i + 1, ?_, ?_, (by show [(⟨71, 1, 0, true, ints .u64 _⟩ : Ob)] = [⟨71, 1, 0, true, ints .u64 _⟩]; rw [Ada (by omega)]), A5 64 rfl rfl ?_⟩
        · omega
        · omega
        · exact (.cons rfl (.v9 (.v9 (.v9 (.u .nil)))))
      · obtain rfl : i = (Aj B32 x).length := by omega
        refine Bh <| zsr <| Hl (k := .u64) (l := shR (Aj B32 x) (n % 32) (n / 32) (Aj B32 x).length) (l' := shR (Aj B32 x) (n % 32) (n / 32) (Aj B32 x).length) 5 rfl rfl (by omega) (by rw [List.drop_zero, List.take_of_length_le (by omega)]) hL <| zmv rfl (hd 53 rfl) ?_
        refine Ah Tryz.f68 (Ij (shR (Aj B32 x) (n % 32) (n / 32) (Aj B32 x).length) (by omega)) rfl Tryz.func68 rfl rfl (Ab rfl Ad) (.cons .n .nil) (hd 54 rfl) ?_ (fun ch hp => by simp at hp)
        rintro _ ⟨⟩; refine zas rfl (hd 4 rfl) <| Aa <| Ao ?_
        refine ⟨_, _, (.cons rfl .nil), .n, ?_⟩
        rw [Add]

theorem K6 (x y : Nat) (hx : (Aj B32 x).length < 4294967296) (hy : (Aj B32 y).length < 4294967296) (h0 : 0 < y) : Spec Tryz.prog 77 [.n false .u64 (Aj B32 x), .n false .u64 (Aj B32 y)] (fun o => o = .ret (.t [.n false .u64 (Aj B32 (x / y)), .n false .u64 (Aj B32 (x % y))])) := by
  refine Au [(0, .n false .u64 (Aj B32 x)), (1, .n false .u64 (Aj B32 y))] rfl Tryz.func77 rfl (zlb rfl) fun Γ hN hds hL hR => ?_
  have hd := Bt 60 hN
  refine zsr <| zas rfl (hd 4 rfl) <| zas rfl (hd 5 rfl) <| Aa <| zsr <| zas rfl (hd 6 rfl) <| Aa <| zsr <| zmv rfl (hd 12 rfl) <| Ac (As Cz rfl) (hd 13 rfl) ?_; refine A4 (F5 (m := (Aj B32 x).length) Xl rfl rfl rfl (by show 8 * (Aj B32 x).length ≤ _; omega) (by unfold maxLen; omega) rfl) (hd 14 rfl) <| zas rfl (hd 7 rfl) <| Aa <| Ae <| Ae <| Ae5 (k := .u64) 6 rfl <| Af <| zmv rfl (hd 15 rfl) <| Ac (As Cz rfl) (hd 16 rfl) <| Ac (Bd rfl rfl (Ag (by omega) (by omega))) (hd 17 rfl) <| zas rfl (hd 8 rfl) <| Aa <| Ap ?_; refine Lo (H' := [⟨71, 1, 0, true, ints .u64 (List.replicate (Aj B32 x).length 0 ++ [])⟩]) (by rw [List.append_nil]; rfl) ?_
  refine Gd (G := Nat × List Int) 1 (fun g => g.1 ≤ (Aj B32 x).length ∧ Qd x y g.1 g.2) (fun g => [(6, .n false .u64 (Aj B32 (x / B32 ^ g.1 % y))), (8, .i .i64 ((g.1 : Int) - 1)), (9, .u), (10, .u), (11, .u), (18, .u), (19, .u), (20, .u), (21, .u), (22, .u), (23, .u), (24, .u), (25, .u), (26, .u), (27, .u), (28, .u), (29, .u), (30, .u), (31, .u), (32, .u), (33, .u), (34, .u), (35, .u), (36, .u), (37, .u), (38, .u), (39, .u), (40, .u), (41, .u), (42, .u), (43, .u), (44, .u), (45, .u), (46, .u), (47, .u), (48, .u), (49, .u), (50, .u), (51, .u), (52, .u), (53, .u), (54, .u), (55, .u), (56, .u)]) (fun g => [⟨71, 1, 0, true, ints .u64 (List.replicate g.1 0 ++ g.2)⟩]) (fun g => g.1) ((Aj B32 x).length, []) ?_ ?_ rfl hR rfl (fun _ _ => rfl) (fun g _ => .cons A8 .nil) ?_
  · exact ⟨Nat.le_refl _, qd_0⟩
  · exact (.cons (by show some (V.n false .u64 []) = some (V.n false .u64 (Aj B32 (x / B32 ^ (Aj B32 x).length % y))); rw [Agz, Nat.zero_mod, Ct]) (.cons rfl (.v9 (.v9 (.v9 (.v9 (.u (.u .nil))))))))
  · rintro ⟨k, Q⟩ ⟨hk, hQ⟩
    dsimp only at hk hQ
    obtain ⟨R, hR0⟩ : ∃ R, x / B32 ^ k % y * B32 + x / B32 ^ (k - 1) % B32 = R := ⟨_, rfl⟩
    have hRb := dv_R (x := x) (k := k) h0
    rw [hR0] at hRb
    have hlR := R7 hRb
    have hlA := Aiu (Nat.le_of_lt (Nat.mod_lt (x / B32 ^ k) h0))
    have hAB : x / B32 ^ k % y * 2 ^ 32 < y * B32 := Nat.mul_lt_mul_of_pos_right (Nat.mod_lt (x / B32 ^ k) h0) (by decide)
    have hlAB := R7 hAB
    have hdB := Nat.mod_lt (x / B32 ^ (k - 1)) (show 0 < B32 by decide)
    have hlD : (Aj B32 (x / B32 ^ (k - 1) % B32)).length ≤ 1 := E0 (by decide) 1 _ (by rw [Nat.pow_one]; exact hdB)
    have hNm : Spec Tryz.prog 68 [.n false .u64 [((x / B32 ^ (k - 1) % B32 : Nat) : Int)]] (fun o => o = .ret (.n false .u64 (Aj B32 (x / B32 ^ (k - 1) % B32)))) := by have h := Ij [((x / B32 ^ (k - 1) % B32 : Nat) : Int)] (by simp); rwa [trm_1 hdB] at h
    have hAdd : Spec Tryz.prog 80 [.n false .u64 (Aj B32 (x / B32 ^ k % y * 2 ^ 32)), .n false .u64 (Aj B32 (x / B32 ^ (k - 1) % B32))] (fun o => o = .ret (.n false .u64 (Aj B32 R))) := by have h := Rx (x / B32 ^ k % y * 2 ^ 32) (x / B32 ^ (k - 1) % B32) (by omega) (by omega); rw [show x / B32 ^ k % y * 2 ^ 32 + x / B32 ^ (k - 1) % B32 = R from hR0] at h; exact h
    refine Ae <| zsr <| zmv rfl (hd 18 rfl) <| Ac (Eh rfl rfl) (hd 19 rfl) <| Aa ?_
    refine Bg rfl (fun h1 => ?_) (fun h1 => ?_)
    · refine Ai <| Ae <| Ap <| Ae <| Bu (n := 10) _ rfl Cg <| Av 0 [1, 7, 8, 9] (Al (Ar rfl) (hd 22 rfl)) rfl <| Av 2 [4, 5, 6, 7, 8, 9] (Al (Ar rfl) (hd 24 rfl)) rfl <| Av 3 [4, 5, 6, 7, 8, 9] (Al (Ar rfl) (hd 25 rfl)) rfl <| Av 4 [5, 6, 7, 8, 9] (Al (B2 (i := k - 1) Cz rfl rfl (by omega) (by omega)) (hd 26 rfl)) rfl <| Av 5 [6, 7, 8, 9] (Al (Ba (Bw Bj rfl rfl) (by show V.i .u64 _ = V.i .u64 (((x / B32 ^ (k - 1) % B32 : Nat) : Int)); exact congrArg (V.i .u64) (Hs (by decide) (k - 1) x))) (hd 27 rfl)) rfl ?_
      refine O8 1 6 ?_ ?_ rfl rfl (by kernel_rfl)
      · refine Bp Tryz.f78 (Q2 (x / B32 ^ k % y) 32 (by omega) (by decide)) rfl Tryz.func78 rfl rfl (Ab rfl (Ab rfl Ad)) (.cons .n (.cons .i .nil)) (hd 23 rfl) ?_ (fun ch hp => by simp at hp)
        rintro y hy; injection hy with hy; subst hy
        refine B5 6 ?_ rfl (by kernel_rfl)
        refine Jq (Dl (id := 1) (xs := [.tmp 27]) Xl rfl (Ab rfl Ad) rfl (Cx rfl) (by decide) rfl) (hd 28 rfl) <| Abx (k := .u64) (l := [((x / B32 ^ (k - 1) % B32 : Nat) : Int)]) (l' := [((x / B32 ^ (k - 1) % B32 : Nat) : Int)]) 28 rfl rfl (Nat.le_refl _) rfl hL ?_
        refine B5 7 ?_ rfl (by kernel_rfl)
        refine Bp Tryz.f68 (hNm) rfl Tryz.func68 rfl rfl (Ab rfl Ad) (.cons .n .nil) (hd 29 rfl) ?_ (fun ch hp => by simp at hp)
        rintro y hy; injection hy with hy; subst hy
        refine B5 8 ?_ rfl (by kernel_rfl)
        refine Bp Tryz.f80 (hAdd) rfl Tryz.func80 rfl rfl (Ab rfl (Ab rfl Ad)) (.cons .n (.cons .n .nil)) (hd 30 rfl) ?_ (fun ch hp => by simp at hp)
        rintro _ ⟨⟩; refine zal 9 (Al (Cm rfl) (hd 6 rfl)) rfl <| Bx (by kernel_rfl) <| zsr <| zas rfl (hd 9 rfl) <| Aa ?_
        refine Ce (G := Unit) (fun _ => True) (fun _ => [(6, .n false .u64 (Aj B32 (R % y))), (9, .i .u64 ((R / y : Nat) : Int)), (10, .u), (11, .u), (31, .u), (32, .u), (33, .u), (34, .u), (35, .u), (36, .u), (37, .u), (38, .u), (39, .u), (40, .u), (41, .u), (42, .u), (43, .u), (44, .u), (45, .u), (46, .u), (47, .u), (48, .u), (49, .u), (50, .u), (51, .u), (52, .u)]) ?_ ?_
        · refine zsr <| zmv rfl (hd 31 rfl) <| zmv rfl (hd 32 rfl) ?_
          refine Ah Tryz.f21 (Ok R y (by omega) (by omega)) rfl Tryz.func21 rfl rfl (Ab rfl (Ab rfl Ad)) (.cons .n (.cons .n .nil)) (hd 33 rfl) ?_ (fun ch hp => by simp at hp)
          rintro _ ⟨⟩; refine Ac (Eh rfl rfl) (hd 34 rfl) <| Aa ?_
          refine Bg rfl (fun h2 => ?_) (fun h2 => ?_)
          · refine zsr <| zas rfl (hd 10 rfl) <| Aa <| Ap ?_
            refine Bq (G := Nat × Nat) (fun g => Hlv R y g.1 g.2) (fun g => [(6, .n false .u64 (Aj B32 (R - y * g.2))), (9, .i .u64 (g.2 : Int)), (10, .i .i64 ((g.1 : Int) - 1)), (11, .u), (35, .u), (36, .u), (37, .u), (38, .u), (39, .u), (40, .u), (41, .u), (42, .u), (43, .u), (44, .u), (45, .u), (46, .u), (47, .u), (48, .u), (49, .u), (50, .u), (51, .u), (52, .u)]) (fun _ => _) (fun g => g.1) (32, 0) ?_ ?_ rfl ?_
            · exact hlv_0 hRb
            · exact (.cons (by show some (V.n false .u64 (Aj B32 R)) = some (V.n false .u64 (Aj B32 (R - y * 0))); rw [Nat.mul_zero, Nat.sub_zero]) (.cons rfl (.cons rfl (.v9 (.v5 (.u (.u (.u (.u .nil)))))))))
            · rintro ⟨t, q⟩ hH
              dsimp only at hH
              have hlq := V8 (t := t) (q := q) hRb
              refine Ae <| zsr <| zmv rfl (hd 35 rfl) <| Ac (Eh rfl rfl) (hd 36 rfl) <| Aa ?_
              refine Bg rfl (fun h3 => ?_) (fun h3 => ?_)
              · obtain ⟨s, rfl⟩ : ∃ s, t = s + 1 := ⟨t - 1, by omega⟩
                have hs : s < 32 := by have := hH.1; omega
                have hls := Abt (y := y) h0 hs
                refine Ai ?_
                refine Ce (G := Nat) (fun g => Hlv R y s g) (fun g => [(6, .n false .u64 (Aj B32 (R - y * g))), (9, .i .u64 (g : Int)), (11, .u), (39, .u), (40, .u), (41, .u), (42, .u), (43, .u), (44, .u), (45, .u), (46, .u), (47, .u), (48, .u), (49, .u), (50, .u), (51, .u), (52, .u)]) ?_ ?_
                · refine Ap <| zsr <| zmv rfl (hd 39 rfl) <| Ac (Ba (Ar rfl) (show V.i .i64 _ = V.i .i64 (s : Int) by congr 1; omega)) (hd 40 rfl) ?_
                  refine Ah Tryz.f78 (Q2 y s (by omega) (by omega)) rfl Tryz.func78 rfl rfl (Ab rfl (Ab rfl Ad)) (.cons .n (.cons .i .nil)) (hd 41 rfl) ?_ (fun ch hp => by simp at hp)
                  rintro _ ⟨⟩; refine zas rfl (hd 11 rfl) <| Aa <| zsr <| zmv rfl (hd 42 rfl) <| zmv rfl (hd 43 rfl) ?_
                  refine Ah Tryz.f21 (Ok (R - y * q) (y * 2 ^ s) (by omega) (by omega)) rfl Tryz.func21 rfl rfl (Ab rfl (Ab rfl Ad)) (.cons .n (.cons .n .nil)) (hd 44 rfl) ?_ (fun ch hp => by simp at hp)
                  rintro _ ⟨⟩; refine Ac (Eh rfl rfl) (hd 45 rfl) <| Aa ?_
                  refine Bg rfl (fun h4 => ?_) (fun h4 => ?_)
                  · have hle := Ab9 h4
                    obtain ⟨hy1, hy2⟩ := V7 hH hle
                    have hqb := hy1.2.2.2
                    refine zsr <| zmv rfl (hd 46 rfl) <| zmv rfl (hd 47 rfl) ?_
                    refine Ah Tryz.f99 (Abc (R - y * q) (y * 2 ^ s) hle (by omega) (by omega)) rfl Tryz.func99 rfl rfl (Ab rfl (Ab rfl Ad)) (.cons .n (.cons .n .nil)) (hd 48 rfl) ?_ (fun ch hp => by simp at hp)
                    rintro _ ⟨⟩; refine zas rfl (hd 6 rfl) <| Aa <| Af <| zmv rfl (hd 49 rfl) <| Ac (Ba (Ar rfl) (show V.i .i64 _ = V.i .i64 (s : Int) by congr 1; omega)) (hd 50 rfl) <| Ac (Ba (Fo rfl rfl (by omega) rfl) (show V.i .u64 _ = V.i .u64 (((2 ^ s : Nat) : Int)) from congrArg (V.i .u64) (W4 hs))) (hd 51 rfl) <| Ac (Aw rfl rfl (r := ((q + 2 ^ s : Nat) : Int)) (by generalize 2 ^ s = u at *; rw [A0 (by omega) (by omega)]; omega)) (hd 52 rfl) <| zas rfl (hd 9 rfl) <| Aa ?_
                    refine ⟨(q + 2 ^ s), ?_, rfl, A5 17 rfl rfl ?_⟩
                    · exact hy1
                    · exact (.cons (by show some (V.n false .u64 _) = some (V.n false .u64 _); rw [hy2]) (.cons rfl (.v9 (.v5 .nil))))
                  · have hno := Aby hH (fun hle => h4 (Ws hle))
                    refine Ai ?_
                    refine ⟨q, ?_, rfl, A5 8 rfl rfl ?_⟩
                    · exact hno
                    · exact (.cons rfl (.cons rfl (.v9 (.v5 .nil))))
                · rintro q' hH'; refine Af <| zmv rfl (hd 37 rfl) <| Ac (Bd rfl rfl (Ag (by omega) (by omega))) (hd 38 rfl) <| zas rfl (hd 10 rfl) <| Aa ?_
                  refine ⟨(s, q'), ?_, ?_, rfl, A5 44 rfl rfl ?_⟩
                  · exact hH'
                  · show s < s + 1
                    omega
                  · exact (.cons rfl (.cons rfl (.cons (by show some (V.i .i64 _) = some (V.i .i64 _); congr 2; omega) (.v9 (.v5 (.u (.u (.u (.u .nil)))))))))
              · obtain rfl : t = 0 := by omega
                obtain ⟨he1, he2⟩ := V9 hH
                refine Bh ?_
                refine ⟨(), ?_, rfl, A5 29 rfl rfl ?_⟩
                · trivial
                · exact (.cons (by show some (V.n false .u64 _) = some (V.n false .u64 _); rw [he2]) (.cons (by show some (V.i .u64 _) = some (V.i .u64 _); rw [he1]) (.v9 (.v9 (.u (.u (.u (.u .nil))))))))
          · have hlt := Wr h2
            refine Ai ?_
            refine ⟨(), ?_, rfl, A5 4 rfl rfl ?_⟩
            · trivial
            · exact (.cons (by show some (V.n false .u64 _) = some (V.n false .u64 _); rw [Nat.mod_eq_of_lt hlt]) (.cons (by show some (V.i .u64 _) = some (V.i .u64 _); rw [Nat.div_eq_of_lt hlt]; rfl) (.v9 (.v9 (.u (.u (.u (.u .nil))))))))
        · rintro _ _; refine Af <| zmv rfl (hd 53 rfl) <| zmv rfl (hd 54 rfl) <| zmv rfl (hd 55 rfl) <| Ac (Cd (i := k - 1) Cz rfl rfl rfl (by omega) (by omega) rfl) (hd 56 rfl) <| A6 (B3 rfl rfl rfl Bj (by simp only [List.length_append, List.length_replicate]; omega)) <| Aa <| Af <| zmv rfl (hd 20 rfl) <| Ac (Bd rfl rfl (Ag (by omega) (by omega))) (hd 21 rfl) <| zas rfl (hd 8 rfl) <| Aa ?_
          refine ⟨(k - 1, ((R / y : Nat) : Int) :: Q), ?_, ?_, (by show [(⟨71, 1, 0, true, ints .u64 _⟩ : Ob)] = [⟨71, 1, 0, true, ints .u64 _⟩]; rw [Pb (by omega)]), A5 91 rfl rfl ?_⟩
          · exact ⟨by show k - 1 ≤ _; omega, by rw [← hR0]; exact hQ.next h0 (by omega) hk⟩
          · show k - 1 < k
            omega
          · exact (.cons (by show some (V.n false .u64 _) = some (V.n false .u64 _); rw [(Ni h0 (by omega)).2, hR0]) (.cons (by show some (V.i .i64 _) = some (V.i .i64 _); congr 2; omega) (.v9 (.v9 (.v9 (.v9 (.u (.u .nil))))))))
      · refine Jq (Dl (id := 1) (xs := [.tmp 27]) Xl rfl (Ab rfl Ad) rfl (Cx rfl) (by decide) rfl) (hd 28 rfl) <| Abx (k := .u64) (l := [((x / B32 ^ (k - 1) % B32 : Nat) : Int)]) (l' := [((x / B32 ^ (k - 1) % B32 : Nat) : Int)]) 28 rfl rfl (Nat.le_refl _) rfl hL ?_
        refine B5 1 ?_ rfl (by kernel_rfl)
        refine Bp Tryz.f78 (Q2 (x / B32 ^ k % y) 32 (by omega) (by decide)) rfl Tryz.func78 rfl rfl (Ab rfl (Ab rfl Ad)) (.cons .n (.cons .i .nil)) (hd 23 rfl) ?_ (fun ch hp => by simp at hp)
        rintro y hy; injection hy with hy; subst hy
        refine B5 7 ?_ rfl (by kernel_rfl)
        refine Bp Tryz.f68 (hNm) rfl Tryz.func68 rfl rfl (Ab rfl Ad) (.cons .n .nil) (hd 29 rfl) ?_ (fun ch hp => by simp at hp)
        rintro y hy; injection hy with hy; subst hy
        refine B5 8 ?_ rfl (by kernel_rfl)
        refine Bp Tryz.f80 (hAdd) rfl Tryz.func80 rfl rfl (Ab rfl (Ab rfl Ad)) (.cons .n (.cons .n .nil)) (hd 30 rfl) ?_ (fun ch hp => by simp at hp)
        rintro _ ⟨⟩; refine zal 9 (Al (Cm rfl) (hd 6 rfl)) rfl <| Bx (by kernel_rfl) <| zsr <| zas rfl (hd 9 rfl) <| Aa ?_
        refine Ce (G := Unit) (fun _ => True) (fun _ => [(6, .n false .u64 (Aj B32 (R % y))), (9, .i .u64 ((R / y : Nat) : Int)), (10, .u), (11, .u), (31, .u), (32, .u), (33, .u), (34, .u), (35, .u), (36, .u), (37, .u), (38, .u), (39, .u), (40, .u), (41, .u), (42, .u), (43, .u), (44, .u), (45, .u), (46, .u), (47, .u), (48, .u), (49, .u), (50, .u), (51, .u), (52, .u)]) ?_ ?_
        · refine zsr <| zmv rfl (hd 31 rfl) <| zmv rfl (hd 32 rfl) ?_
          refine Ah Tryz.f21 (Ok R y (by omega) (by omega)) rfl Tryz.func21 rfl rfl (Ab rfl (Ab rfl Ad)) (.cons .n (.cons .n .nil)) (hd 33 rfl) ?_ (fun ch hp => by simp at hp)
          rintro _ ⟨⟩; refine Ac (Eh rfl rfl) (hd 34 rfl) <| Aa ?_
          refine Bg rfl (fun h5 => ?_) (fun h5 => ?_)
          · refine zsr <| zas rfl (hd 10 rfl) <| Aa <| Ap ?_
            refine Bq (G := Nat × Nat) (fun g => Hlv R y g.1 g.2) (fun g => [(6, .n false .u64 (Aj B32 (R - y * g.2))), (9, .i .u64 (g.2 : Int)), (10, .i .i64 ((g.1 : Int) - 1)), (11, .u), (35, .u), (36, .u), (37, .u), (38, .u), (39, .u), (40, .u), (41, .u), (42, .u), (43, .u), (44, .u), (45, .u), (46, .u), (47, .u), (48, .u), (49, .u), (50, .u), (51, .u), (52, .u)]) (fun _ => _) (fun g => g.1) (32, 0) ?_ ?_ rfl ?_
            · exact hlv_0 hRb
            · exact (.cons (by show some (V.n false .u64 (Aj B32 R)) = some (V.n false .u64 (Aj B32 (R - y * 0))); rw [Nat.mul_zero, Nat.sub_zero]) (.cons rfl (.cons rfl (.v9 (.v5 (.u (.u (.u (.u .nil)))))))))
            · rintro ⟨t, q⟩ hH
              dsimp only at hH
              have hlq := V8 (t := t) (q := q) hRb
              refine Ae <| zsr <| zmv rfl (hd 35 rfl) <| Ac (Eh rfl rfl) (hd 36 rfl) <| Aa ?_
              refine Bg rfl (fun h6 => ?_) (fun h6 => ?_)
              · obtain ⟨s, rfl⟩ : ∃ s, t = s + 1 := ⟨t - 1, by omega⟩
                have hs : s < 32 := by have := hH.1; omega
                have hls := Abt (y := y) h0 hs
                refine Ai ?_
                refine Ce (G := Nat) (fun g => Hlv R y s g) (fun g => [(6, .n false .u64 (Aj B32 (R - y * g))), (9, .i .u64 (g : Int)), (11, .u), (39, .u), (40, .u), (41, .u), (42, .u), (43, .u), (44, .u), (45, .u), (46, .u), (47, .u), (48, .u), (49, .u), (50, .u), (51, .u), (52, .u)]) ?_ ?_
                · refine Ap <| zsr <| zmv rfl (hd 39 rfl) <| Ac (Ba (Ar rfl) (show V.i .i64 _ = V.i .i64 (s : Int) by congr 1; omega)) (hd 40 rfl) ?_
                  refine Ah Tryz.f78 (Q2 y s (by omega) (by omega)) rfl Tryz.func78 rfl rfl (Ab rfl (Ab rfl Ad)) (.cons .n (.cons .i .nil)) (hd 41 rfl) ?_ (fun ch hp => by simp at hp)
                  rintro _ ⟨⟩; refine zas rfl (hd 11 rfl) <| Aa <| zsr <| zmv rfl (hd 42 rfl) <| zmv rfl (hd 43 rfl) ?_
                  refine Ah Tryz.f21 (Ok (R - y * q) (y * 2 ^ s) (by omega) (by omega)) rfl Tryz.func21 rfl rfl (Ab rfl (Ab rfl Ad)) (.cons .n (.cons .n .nil)) (hd 44 rfl) ?_ (fun ch hp => by simp at hp)
                  rintro _ ⟨⟩; refine Ac (Eh rfl rfl) (hd 45 rfl) <| Aa ?_
                  refine Bg rfl (fun h7 => ?_) (fun h7 => ?_)
                  · have hle := Ab9 h7
                    obtain ⟨hy1, hy2⟩ := V7 hH hle
                    have hqb := hy1.2.2.2
                    refine zsr <| zmv rfl (hd 46 rfl) <| zmv rfl (hd 47 rfl) ?_
                    refine Ah Tryz.f99 (Abc (R - y * q) (y * 2 ^ s) hle (by omega) (by omega)) rfl Tryz.func99 rfl rfl (Ab rfl (Ab rfl Ad)) (.cons .n (.cons .n .nil)) (hd 48 rfl) ?_ (fun ch hp => by simp at hp)
                    rintro _ ⟨⟩; refine zas rfl (hd 6 rfl) <| Aa <| Af <| zmv rfl (hd 49 rfl) <| Ac (Ba (Ar rfl) (show V.i .i64 _ = V.i .i64 (s : Int) by congr 1; omega)) (hd 50 rfl) <| Ac (Ba (Fo rfl rfl (by omega) rfl) (show V.i .u64 _ = V.i .u64 (((2 ^ s : Nat) : Int)) from congrArg (V.i .u64) (W4 hs))) (hd 51 rfl) <| Ac (Aw rfl rfl (r := ((q + 2 ^ s : Nat) : Int)) (by generalize 2 ^ s = u at *; rw [A0 (by omega) (by omega)]; omega)) (hd 52 rfl) <| zas rfl (hd 9 rfl) <| Aa ?_
                    refine ⟨(q + 2 ^ s), ?_, rfl, A5 17 rfl rfl ?_⟩
                    · exact hy1
                    · exact (.cons (by show some (V.n false .u64 _) = some (V.n false .u64 _); rw [hy2]) (.cons rfl (.v9 (.v5 .nil))))
                  · have hno := Aby hH (fun hle => h7 (Ws hle))
                    refine Ai ?_
                    refine ⟨q, ?_, rfl, A5 8 rfl rfl ?_⟩
                    · exact hno
                    · exact (.cons rfl (.cons rfl (.v9 (.v5 .nil))))
                · rintro q' hH'; refine Af <| zmv rfl (hd 37 rfl) <| Ac (Bd rfl rfl (Ag (by omega) (by omega))) (hd 38 rfl) <| zas rfl (hd 10 rfl) <| Aa ?_
                  refine ⟨(s, q'), ?_, ?_, rfl, A5 44 rfl rfl ?_⟩
                  · exact hH'
                  · show s < s + 1
                    omega
                  · exact (.cons rfl (.cons rfl (.cons (by show some (V.i .i64 _) = some (V.i .i64 _); congr 2; omega) (.v9 (.v5 (.u (.u (.u (.u .nil)))))))))
              · obtain rfl : t = 0 := by omega
                obtain ⟨he1, he2⟩ := V9 hH
                refine Bh ?_
                refine ⟨(), ?_, rfl, A5 29 rfl rfl ?_⟩
                · trivial
                · exact (.cons (by show some (V.n false .u64 _) = some (V.n false .u64 _); rw [he2]) (.cons (by show some (V.i .u64 _) = some (V.i .u64 _); rw [he1]) (.v9 (.v9 (.u (.u (.u (.u .nil))))))))
          · have hlt := Wr h5
            refine Ai ?_
            refine ⟨(), ?_, rfl, A5 4 rfl rfl ?_⟩
            · trivial
            · exact (.cons (by show some (V.n false .u64 _) = some (V.n false .u64 _); rw [Nat.mod_eq_of_lt hlt]) (.cons (by show some (V.i .u64 _) = some (V.i .u64 _); rw [Nat.div_eq_of_lt hlt]; rfl) (.v9 (.v9 (.u (.u (.u (.u .nil))))))))
        · rintro _ _; refine Af <| zmv rfl (hd 53 rfl) <| zmv rfl (hd 54 rfl) <| zmv rfl (hd 55 rfl) <| Ac (Cd (i := k - 1) Cz rfl rfl rfl (by omega) (by omega) rfl) (hd 56 rfl) <| A6 (B3 rfl rfl rfl Bj (by simp only [List.length_append, List.length_replicate]; omega)) <| Aa <| Af <| zmv rfl (hd 20 rfl) <| Ac (Bd rfl rfl (Ag (by omega) (by omega))) (hd 21 rfl) <| zas rfl (hd 8 rfl) <| Aa ?_
          refine ⟨(k - 1, ((R / y : Nat) : Int) :: Q), ?_, ?_, (by show [(⟨71, 1, 0, true, ints .u64 _⟩ : Ob)] = [⟨71, 1, 0, true, ints .u64 _⟩]; rw [Pb (by omega)]), A5 91 rfl rfl ?_⟩
          · exact ⟨by show k - 1 ≤ _; omega, by rw [← hR0]; exact hQ.next h0 (by omega) hk⟩
          · show k - 1 < k
            omega
          · exact (.cons (by show some (V.n false .u64 _) = some (V.n false .u64 _); rw [(Ni h0 (by omega)).2, hR0]) (.cons (by show some (V.i .i64 _) = some (V.i .i64 _); congr 2; omega) (.v9 (.v9 (.v9 (.v9 (.u (.u .nil))))))))
    · obtain rfl : k = 0 := by omega
      refine Bh <| zsr <| Hl (k := .u64) (l := List.replicate 0 0 ++ Q) (l' := Q) 7 rfl rfl (by have := hQ.l; simp only [List.length_append, List.length_replicate]; omega) (by have := hQ.l; rw [List.drop_zero]; show List.take _ Q = _; rw [List.take_of_length_le (by omega)]) hL <| zmv rfl (hd 57 rfl) ?_
      refine Ah Tryz.f68 (Ij Q (by have := hQ.l; omega)) rfl Tryz.func68 rfl rfl (Ab rfl Ad) (.cons .n .nil) (hd 58 rfl) ?_ (fun ch hp => by simp at hp)
      rintro _ ⟨⟩; refine zmv rfl (hd 59 rfl) <| zas rfl (hd 4 rfl) <| zas rfl (hd 5 rfl) <| Aa <| Ao ?_
      refine ⟨_, _, (.cons rfl (.cons rfl .nil)), (.t1 .n (.t1 .n .t0)), ?_⟩
      rw [hQ.fin, Nat.pow_zero, Nat.div_one]





def xr5 (x : Int) : Int := F7 .xor .u64 x 5
def xorL (l : List Int) : List Int := l.map xr5
def xorI (l : List Int) (i : Nat) : List Int := xorL (l.take i) ++ l.drop i
def cpI (l : List Int) (i : Nat) : List Int := Ci (l.take i) l.length
theorem cpI_0 (l : List Int) : List.replicate l.length (0 : Int) = cpI l 0 := by simp [cpI, Ci]
theorem Afs {l : List Int} {i : Nat} (h : i ≤ l.length) : (cpI l i).length = l.length := Ey (by rw [List.length_take]; omega)
theorem Aft (l : List Int) : cpI l l.length = l := by rw [cpI, List.take_length, Ed rfl]
theorem Afr {l : List Int} {i : Nat} (h : i < l.length) : (cpI l i).set ((0 + i) * 1) (l.getD i 0) = cpI l (i + 1) := by
  rw [Nat.zero_add, Nat.mul_one]
  unfold cpI
  have e : (l.take i).length = i := by rw [List.length_take]; omega
  have := Fk (l := l.take i) (n := l.length) (v := l.getD i 0) (by omega)
  rw [e] at this
  rw [this, List.take_add_one, List.getElem?_eq_getElem h, List.getD_eq_getElem?_getD, List.getElem?_eq_getElem h]
  rfl
theorem Zd (a b : Int) : Aq (a + b) ≤ max (Aq a) (Aq b) + 1 := by
  have h := Zb a (-b)
  rw [Int.sub_neg] at h
  have e : Aq (-b) = Aq b := by unfold Aq; rw [Int.natAbs_neg]
  rwa [e] at h


theorem P7 {b : Nat} {l l' : List Int} (h : rng b l) (h' : rng b l') : rng b (l ++ l') := fun x hx => by
  rcases List.mem_append.1 hx with h1 | h1
  · exact h x h1
  · exact h' x h1
theorem Adk {b : Nat} {x : Int} (h0 : 0 ≤ x) (h1 : x < b) : rng b [x] := fun y hy => by
  rw [List.mem_singleton.1 hy]; exact ⟨h0, h1⟩
theorem Ul {b k : Nat} (hb : 0 < b) : rng b (List.replicate k 0) := fun x hx => by
  rw [(List.mem_replicate.1 hx).2]; omega
theorem Ko (b : Nat) : ∀ l l' : List Int, vb b (l ++ l') = vb b l + (b : Int) ^ l.length * vb b l'
  | [], l' => by simp [vb]
  | x :: l, l' => by
    rw [List.cons_append, vb, vb, Ko b l l', List.length_cons, Int.pow_succ, Int.mul_add, Int.mul_comm ((b : Int) ^ l.length) b, Int.mul_assoc]
    omega
theorem Aan {b : Nat} : ∀ {l l' : List Int}, rng b l → rng b l' → l.length = l'.length → vb b l = vb b l' → l = l'
  | [], [], _, _, _, _ => rfl
  | [], _ :: _, _, _, h, _ => by simp at h
  | _ :: _, [], _, _, h, _ => by simp at h
  | x :: l, y :: l', h1, h2, h3, h4 => by
    have hx := h1 x (List.mem_cons_self ..)
    have hy := h2 y (List.mem_cons_self ..)
    simp only [vb] at h4
    have e : x = y := by
      have e1 : (x + b * vb b l) % b = x := by rw [Int.add_mul_emod_self_left]; exact Int.emod_eq_of_lt hx.1 hx.2
      have e2 : (y + b * vb b l') % b = y := by rw [Int.add_mul_emod_self_left]; exact Int.emod_eq_of_lt hy.1 hy.2
      rw [← e1, ← e2, h4]
    subst e
    have hb : (b : Int) ≠ 0 := by omega
    have e2 : vb b l = vb b l' := Int.eq_of_mul_eq_mul_left hb (by omega)
    rw [Aan (Fq h1) (Fq h2) (by simpa using h3) e2]
theorem Agm {b : Nat} : ∀ {l : List Int}, rng b l → vb b l < (b : Int) ^ l.length
  | [], _ => by simp [vb]
  | x :: l, h => by
    have hx := h x (List.mem_cons_self ..)
    have ih := Agm (Fq h)
    rw [vb, List.length_cons, Int.pow_succ]
    have : (b : Int) * (vb b l + 1) ≤ b * (b : Int) ^ l.length := Int.mul_le_mul_of_nonneg_left (by omega) (by omega)
    rw [Int.mul_comm ((b : Int) ^ l.length)]
    rw [Int.mul_add] at this
    omega
def Qc (b m x : Nat) : List Int := Aj b x ++ List.replicate (m - (Aj b x).length) 0
theorem Kd {b : Nat} (hb : 2 ≤ b) (m x : Nat) : rng b (Qc b m x) := P7 (Hy hb x) (Ul (by omega))
theorem Qb {b : Nat} (hb : 2 ≤ b) (m x : Nat) : vb b (Qc b m x) = x := by rw [Qc, N6, Jj hb]
theorem U6 {b : Nat} (m x : Nat) : (Qc b m x).length = max m (Aj b x).length := by simp [Qc]; omega
theorem Ke {b : Nat} (hb : 2 ≤ b) {m x : Nat} (h : x < b ^ m) : (Qc b m x).length = m := by
  have := E0 hb m x h
  rw [U6]; omega
theorem Ad7 {b : Nat} (hb : 2 ≤ b) {m x : Nat} {l : List Int} (hr : rng b l) (hl : l.length = m) (hv : vb b l = x) : l = Qc b m x := by
  have h := Agm hr
  rw [hv, hl] at h
  have h' : x < b ^ m := by exact_mod_cast h
  exact Aan hr (Kd hb m x) (by rw [hl, Ke hb h']) (by rw [hv, Qb hb])
theorem Yx {b : Nat} (hb : 2 ≤ b) {n m q r : Nat} (hq : q < b ^ m) (hr : r < b ^ n) : Qc b n r ++ Qc b m q = Qc b (n + m) (q * b ^ n + r) := by
  refine Ad7 hb (P7 (Kd hb _ _) (Kd hb _ _)) (by rw [List.length_append, Ke hb hr, Ke hb hq]) ?_
  rw [Ko, Ke hb hr, Qb hb, Qb hb, Int.natCast_add, Int.natCast_mul, Int.natCast_pow, Int.mul_comm]
  omega
def hdg (b m x : Nat) : List Int := (Qc b m x).reverse
theorem Ma {b : Nat} (m x : Nat) : (hdg b m x).length = max m (Aj b x).length := by rw [hdg, List.length_reverse, U6]
theorem Ae8 {b : Nat} (hb : 2 ≤ b) {n m q r : Nat} (hq : q < b ^ m) (hr : r < b ^ n) : hdg b m q ++ hdg b n r = hdg b (n + m) (q * b ^ n + r) := by
  unfold hdg
  rw [← Yx hb hq hr, List.reverse_append]
theorem Ae7 {b : Nat} (hb : 2 ≤ b) (m x : Nat) : rng b (hdg b m x) := fun y hy => Kd hb m x y (List.mem_reverse.1 hy)
theorem Np {b x : Nat} (hb : 2 ≤ b) (h : x ≠ 0) : Aj b x ≠ [] := fun e => by
  have := Jj hb x
  rw [e] at this
  simp [vb] at this
  omega
theorem Qt {b : Nat} (hb : 2 ≤ b) {m x : Nat} (hx : x ≠ 0) : hdg b m x = List.replicate (m - (Aj b x).length) 0 ++ hdg b 1 x := by
  have h1 : 0 < (Aj b x).length := List.length_pos_iff.2 (Np hb hx)
  unfold hdg Qc
  rw [List.reverse_append, List.reverse_append, show 1 - (Aj b x).length = 0 by omega]
  simp
theorem Zn {b : Nat} (hb : 2 ≤ b) {x : Nat} (hx : x ≠ 0) : (hdg b 1 x).getD 0 0 ≠ 0 := by
  have h1 : 0 < (Aj b x).length := List.length_pos_iff.2 (Np hb hx)
  have ht := Mm hb x (Np hb hx)
  unfold hdg Qc
  rw [show 1 - (Aj b x).length = 0 by omega]
  simp only [List.replicate_zero, List.append_nil]
  rw [List.getD_eq_getElem?_getD, List.getElem?_reverse (by omega), Nat.sub_zero, ← List.getD_eq_getElem?_getD]
  exact ht


theorem w63 {n p : Nat} (h : 2 ^ n ≤ p) (hp : p ≤ 9223372036854775808) : n ≤ 63 :=
  (Nat.pow_le_pow_iff_right (by decide : 1 < 2)).1 (Nat.le_trans h (show p ≤ 2 ^ 63 from hp))
theorem Agg {b n p : Nat} (hb : 2 ≤ b) (h1 : p = b ^ n) (h2 : 2 ^ n ≤ p) (h3 : p ≤ 9223372036854775808 / b) : p * b = b ^ (n + 1) ∧ 2 ^ (n + 1) ≤ p * b ∧ p * b ≤ 9223372036854775808 := by
  refine ⟨by rw [h1, Nat.pow_succ], ?_, (Nat.le_div_iff_mul_le (by omega)).1 h3⟩
  rw [Nat.pow_succ]
  exact Nat.mul_le_mul h2 hb
theorem Agh {b n p : Nat} (hb : 2 ≤ b) (hb2 : b ≤ 36) (h1 : p = b ^ n) (h3 : ¬ p ≤ 9223372036854775808 / b) : 1 ≤ n := by
  rcases Nat.eq_zero_or_pos n with h | h
  · subst h
    exact absurd ((Nat.le_div_iff_mul_le (by omega)).2 (by rw [h1, Nat.pow_zero]; omega)) h3
  · exact h
theorem dg_in {b : Nat} (acc : List Int) (r : Int) : vb b (acc ++ [r % b]) + (b : Int) ^ (acc.length + 1) * (r / b) = vb b acc + (b : Int) ^ acc.length * r := by
  rw [Ko]
  simp only [vb]
  rw [Int.pow_succ, Int.mul_zero, Int.add_zero, Int.mul_assoc, Int.add_assoc, ← Int.mul_add, Int.emod_add_mul_ediv]
theorem Ab3 {b n i : Nat} {r : Int} (hb : 2 ≤ b) (hi : i < n) (h0 : 0 ≤ r) (h : r < (b : Int) ^ (n - i)) : 0 ≤ r / b ∧ r / b < (b : Int) ^ (n - (i + 1)) := by
  refine ⟨Int.ediv_nonneg h0 (by omega), Int.ediv_lt_of_lt_mul (by omega) ?_⟩
  rw [← Int.pow_succ]
  rwa [show (n - (i + 1)).succ = n - i by omega]
theorem dg_out {b n : Nat} {acc acc' : List Int} {v r : Int} (hl : acc'.length = acc.length + n) (h : vb b acc' + (b : Int) ^ acc'.length * r = vb b acc + (b : Int) ^ acc.length * (v % ((b ^ n : Nat) : Int))) (hr : r = 0) : vb b acc' + (b : Int) ^ acc'.length * (v / ((b ^ n : Nat) : Int)) = vb b acc + (b : Int) ^ acc.length * v := by
  subst hr
  rw [Int.mul_zero, Int.add_zero] at h
  rw [h, hl, Int.pow_add, ← Int.natCast_pow b n, Int.mul_assoc, Int.add_assoc, ← Int.mul_add, Int.emod_add_mul_ediv]
theorem Oo : ∀ n, pB n = ((2 ^ (64 * n) : Nat) : Int)
  | 0 => rfl
  | n + 1 => by
    rw [pB, Oo n, show 64 * (n + 1) = 64 * n + 64 by omega, Nat.pow_add, Int.natCast_mul, Int.mul_comm]
    rfl
theorem dg_cap {b L : Nat} (hb : 2 ≤ b) {acc l : List Int} {v : Int} (hr : rng b acc) (hv : 0 < v) (hu : Az l) (hL : l.length ≤ L) (h : vb b acc + (b : Int) ^ acc.length * v = vl l) : acc.length < 64 * L := by
  have h0 := Iu hr
  have hlt := E4 hu
  have e := Oo l.length
  have h1 : ((2 ^ acc.length : Nat) : Int) ≤ (b : Int) ^ acc.length := by
    rw [← Int.natCast_pow]
    exact_mod_cast Nat.pow_le_pow_left hb acc.length
  have h2 : (b : Int) ^ acc.length * 1 ≤ (b : Int) ^ acc.length * v := Int.mul_le_mul_of_nonneg_left (by omega) (by have : (0 : Int) ≤ ((2 ^ acc.length : Nat) : Int) := Int.natCast_nonneg _; omega)
  have h3 : ((2 ^ acc.length : Nat) : Int) < ((2 ^ (64 * l.length) : Nat) : Int) := by omega
  have h4 : acc.length < 64 * l.length := (Nat.pow_lt_pow_iff_right (by decide : 1 < 2)).1 (by exact_mod_cast h3)
  omega
theorem Ab4 {b n : Nat} {v : Int} (hb : 2 ≤ b) : 0 ≤ v % ((b ^ n : Nat) : Int) ∧ v % ((b ^ n : Nat) : Int) < (b : Int) ^ (n - 0) := by
  have hp : (0 : Int) < ((b ^ n : Nat) : Int) := by exact_mod_cast Nat.pow_pos (by omega)
  refine ⟨Int.emod_nonneg _ (by omega), ?_⟩
  rw [Nat.sub_zero, ← Int.natCast_pow]
  exact Int.emod_lt_of_pos _ hp
theorem Afo {b : Nat} {r : Int} (h0 : 0 ≤ r) {n : Nat} (h : r < (b : Int) ^ (n - n)) : r = 0 := by
  rw [Nat.sub_self, Int.pow_zero] at h
  omega
theorem Afp {v : Int} {b n : Nat} (hv : 0 < v) (hb : 2 ≤ b) (hn : 1 ≤ n) : (v / ((b ^ n : Nat) : Int)).toNat < v.toNat := by
  have hp : 2 ≤ b ^ n := Nat.le_trans (show 2 ≤ b ^ 1 by rw [Nat.pow_one]; exact hb) (Nat.pow_le_pow_right (by omega) hn)
  have h1 : v / ((b ^ n : Nat) : Int) < v := Int.ediv_lt_self_of_pos_of_ne_one hv (by omega)
  omega
theorem Ya {b : Nat} {l : List Int} (h : rng b l) (k : Nat) : rng b (l.take k) := fun x hx => h x (List.mem_of_mem_take hx)
theorem N8 {l : List Int} {k : Nat} (hk : 0 < k) (hl : k ≤ l.length) : l.take k = l.take (k - 1) ++ [l.getD (k - 1) 0] := by
  obtain ⟨j, rfl⟩ : ∃ j, k = j + 1 := ⟨k - 1, by omega⟩
  rw [Nat.add_sub_cancel, List.take_add_one, List.getD_eq_getElem?_getD, List.getElem?_eq_getElem (by omega)]
  rfl
theorem Z2 {b k : Nat} {acc : List Int} (hk : 0 < k) (hl : k ≤ acc.length) (h0 : acc.getD (k - 1) 0 = 0) : vb b (acc.take (k - 1)) = vb b (acc.take k) := by
  rw [N8 hk hl, h0]
  exact (N6 b (acc.take (k - 1)) 1).symm
theorem Sk {b k x : Nat} (hb : 2 ≤ b) {acc : List Int} (hl : k ≤ acc.length) (hr : rng b acc) (hv : vb b (acc.take k) = x) (ht : k = 0 ∨ acc.getD (k - 1) 0 ≠ 0) : acc.take k = Aj b x := by
  have h := Nn hb (Ya hr k) (fun hne => by
    rcases ht with h | h
    · subst h; exact absurd rfl hne
    · have hk : 0 < k := by
        rcases Nat.eq_zero_or_pos k with e | e
        · subst e; exact absurd rfl hne
        · exact e
      rw [List.length_take, Nat.min_eq_left hl, List.getD_eq_getElem?_getD, List.getElem?_take, if_pos (by omega), ← List.getD_eq_getElem?_getD]
      exact h)
  rw [← h, hv, Int.toNat_natCast]
theorem Ad6 {b m k x : Nat} {C : List Int} (h1 : C.take k = Aj b x ++ List.replicate (k - (Aj b x).length) 0) (h2 : (Aj b x).length ≤ k) (h3 : m ≤ k) (h4 : k ≤ max m (Aj b x).length) : C.take k = Qc b m x := by
  rw [h1, Qc]
  congr 2
  omega
theorem Yw {D C C' : List Int} {k : Nat} (hD : D.length ≤ k) (h1 : C.take k = D ++ List.replicate (k - D.length) 0) (h2 : C'.take (k + 1) = C.take k ++ [0]) : C'.take (k + 1) = D ++ List.replicate (k + 1 - D.length) 0 := by
  rw [h2, h1, List.append_assoc, show k + 1 - D.length = (k - D.length) + 1 by omega, List.replicate_succ']
theorem getT {C acc : List Int} {j : Nat} (h : C.take acc.length = acc) (hj : j < acc.length) : C.getD ((0 + j) * 1) 0 = acc.getD j 0 := by
  have e : acc.getD j 0 = (C.take acc.length).getD j 0 := by rw [h]
  rw [e, Nat.zero_add, Nat.mul_one, List.getD_eq_getElem?_getD, List.getD_eq_getElem?_getD, List.getElem?_take, if_pos hj]
theorem takeT {C acc : List Int} {k : Nat} (h : C.take acc.length = acc) (hk : k ≤ acc.length) : C.take k = acc.take k := by
  have := congrArg (List.take k) h
  rw [List.take_take, Nat.min_eq_left hk] at this
  exact this
def Rr (B : List Int) (i : Nat) : List Int := List.replicate (B.length - i) 0 ++ (B.take i).reverse
theorem Ahn (B : List Int) : Rr B 0 = List.replicate B.length 0 := by simp [Rr]
theorem Rq {B : List Int} {i : Nat} (h : i ≤ B.length) : (Rr B i).length = B.length := by simp [Rr]; omega
theorem Ye (B : List Int) : Rr B B.length = B.reverse := by simp [Rr]
theorem Yd {B : List Int} {i : Nat} (h : i < B.length) : (Rr B i).set (B.length - 1 - i) (B.getD i 0) = Rr B (i + 1) := by
  have e : B.take (i + 1) = B.take i ++ [B.getD i 0] := by
    have := N8 (l := B) (k := i + 1) (by omega) (by omega)
    rwa [Nat.add_sub_cancel] at this
  unfold Rr
  obtain ⟨j, hj⟩ : ∃ j, B.length - 1 - i = j := ⟨_, rfl⟩
  rw [hj, show B.length - i = j + 1 by omega, show B.length - (i + 1) = j by omega, e, List.reverse_append, List.replicate_succ', List.append_assoc, List.set_append_right _ _ (by simp)]
  simp

def pwV (b k : Nat) : V := .n true .u64 (lm ((b ^ 2 ^ k : Nat) : Int))
def pwR (b K : Nat) : List (List V) := (List.range K).map fun k => [pwV b k]
theorem Om {b K : Nat} : (pwR b K).length = K := by simp [pwR]
theorem U0 {b K : Nat} : (pwR b K).flatten ++ [pwV b K] = (pwR b (K + 1)).flatten := by
  unfold pwR
  rw [List.range_succ, List.map_append, List.flatten_append]
  rfl
theorem Ahy {b : Nat} : [pwV b 0] = (pwR b 1).flatten := rfl
theorem Ad2 {b j k : Nat} (hb : 2 ≤ b) (h : j ≤ k) : Aq ((b ^ 2 ^ j : Nat) : Int) ≤ Aq ((b ^ 2 ^ k : Nat) : Int) := by
  refine Cc ?_
  rw [Int.natAbs_natCast, Int.natAbs_natCast]
  exact Nat.pow_le_pow_right (by omega) (Nat.pow_le_pow_right (by decide) h)
theorem Ah1 {b k : Nat} {v : Int} (hv : Aq v ≤ 67108864) (h0 : 0 ≤ v) (h : 67108864 < Aq ((b ^ 2 ^ k : Nat) : Int)) : v.toNat < b ^ 2 ^ k := by
  rcases Nat.lt_or_ge v.toNat (b ^ 2 ^ k) with h1 | h1
  · exact h1
  · have := Cc (v := ((b ^ 2 ^ k : Nat) : Int)) (w := v) (by rw [Int.natAbs_natCast]; omega)
    omega
theorem Zt {x : Int} {r : List Int} {e : Int} (h : Xk x r e) : r.length ≤ 1048576 := by
  rcases h with ⟨_, h, hh⟩ | ⟨_, h, _⟩
  · rw [h]; exact Bv hh
  · rw [h]; simp
theorem errL_u {x : Int} {r : List Int} {e : Int} (h : Xk x r e) : Az r := by
  rcases h with ⟨_, h, hh⟩ | ⟨_, h, _⟩
  · rw [h]; exact Dc _
  · rw [h]; exact fun x hx => by simp at hx
theorem Aff {x : Int} {r : List Int} {e : Int} (h : Xk x r e) (he : e ≠ 0) : 67108864 < Aq x := by
  rcases h with ⟨h, _⟩ | ⟨_, _, h⟩
  · exact absurd h he
  · exact h
theorem Afg {x : Int} {r : List Int} {e : Int} (h : Xk x r e) (he : e = 0) : r = lm x ∧ Aq x ≤ 67108864 := by
  rcases h with ⟨_, h⟩ | ⟨h, _⟩
  · exact h
  · omega
theorem pw_at {b K k : Nat} (h : k < K) : (pwR b K)[k]? = some [pwV b k] := by
  unfold pwR
  rw [List.getElem?_map, List.getElem?_range h]; rfl
theorem M1 {b : Nat} : ∀ K, (pwR b K).flatten = (List.range K).map (pwV b)
  | 0 => rfl
  | K + 1 => by rw [← U0, M1 K, List.range_succ, List.map_append]; rfl
theorem Ad3 {b K : Nat} : (pwR b K).flatten.length = K := by rw [M1]; simp
theorem Ahz {b K k : Nat} (h : k < K) : (pwR b K).flatten[k]? = some (pwV b k) := by
  rw [M1, List.getElem?_map, List.getElem?_range h]; rfl
theorem pw_sz {b K : Nat} : ∀ r ∈ pwR b K, r.length = 1 := fun r hr => by
  obtain ⟨k, _, rfl⟩ := List.mem_map.1 hr; rfl
theorem Ad1 {b K : Nat} : ∀ r ∈ pwR b K, r.all Fh = true := fun r hr => by
  obtain ⟨k, _, rfl⟩ := List.mem_map.1 hr; rfl
theorem pw_id {b K n : Nat} : (pwR b K).flatten.all (idB n) = true := by
  rw [M1, List.all_map, List.all_eq_true]; intro x _; rfl
theorem Abe {b k : Nat} (hb : 2 ≤ b) : 0 < b ^ 2 ^ k := Nat.pow_pos (by omega)
theorem Ahx {b k : Nat} : b ^ 2 ^ k * b ^ 2 ^ k = b ^ 2 ^ (k + 1) := by
  rw [← Nat.pow_add]; congr 1; rw [Nat.pow_succ]; omega
theorem Ahw {b k : Nat} : vl (lm ((b ^ 2 ^ k : Nat) : Int)) * vl (lm ((b ^ 2 ^ k : Nat) : Int)) = ((b ^ 2 ^ (k + 1) : Nat) : Int) := by
  rw [J3 (Int.natCast_nonneg _), ← Int.natCast_mul, Ahx]
theorem Ah0 {b k x L : Nat} (hb : 2 ≤ b) (h : b ^ 2 ^ k ≤ x) (hx : x < 2 ^ L) : 2 ^ k < L := by
  have h1 : 2 ^ 2 ^ k ≤ b ^ 2 ^ k := Nat.pow_le_pow_left hb _
  exact (Nat.pow_lt_pow_iff_right (by decide : 1 < 2)).1 (Nat.lt_of_le_of_lt h1 (Nat.lt_of_le_of_lt h hx))
theorem Yr {b k x : Nat} (hb : 2 ≤ b) (h : b ^ 2 ^ k ≤ x) (hx : x < 2 ^ 67108864) : k ≤ 26 := by
  have h1 := Ah0 hb h hx
  have h2 : 2 ^ k < 2 ^ 26 := h1
  have := (Nat.pow_lt_pow_iff_right (by decide : 1 < 2)).1 h2
  omega
theorem Kt {k n : Nat} (h : k ≤ n) : 2 ^ k ≤ 2 ^ n := Nat.pow_le_pow_right (by decide) h
theorem Abl {l : List Int} (hu : Az l) : ((vl l).toNat : Int) = vl l := Int.toNat_of_nonneg (Bf hu)
theorem Zc {v : Int} {L : Nat} (h0 : 0 ≤ v) (h : Aq v ≤ L) : v.toNat < 2 ^ L := by
  have h1 : v.natAbs < 2 ^ L := Cn.1 h
  have : v.toNat = v.natAbs := by omega
  omega
theorem Qx {b : Nat} {l : List Int} (hu : Az l) (hb : 2 ≤ b) : (Aj b (vl l).toNat).length ≤ 64 * l.length := by
  refine E0 hb _ _ ?_
  have h := E4 hu
  have h0 := Bf hu
  rw [Oo] at h
  have h1 : (vl l).toNat < 2 ^ (64 * l.length) := by omega
  exact Nat.lt_of_lt_of_le h1 (Nat.pow_le_pow_left hb _)
theorem Abg {b j x : Nat} (h : x < b ^ 2 ^ (j + 1)) : x / b ^ 2 ^ j < b ^ 2 ^ j := by
  rw [← Ahx] at h
  exact Nat.div_lt_of_lt_mul h
theorem Abf {b j x : Nat} (hb : 2 ≤ b) : x % b ^ 2 ^ j < b ^ 2 ^ j := Nat.mod_lt _ (Abe hb)
theorem On {b j x : Nat} (hb : 2 ≤ b) (h : x < b ^ 2 ^ (j + 1)) : hdg b (2 ^ j) (x / b ^ 2 ^ j) ++ hdg b (2 ^ j) (x % b ^ 2 ^ j) = hdg b (2 ^ (j + 1)) x := by
  rw [Ae8 hb (Abg h) (Abf hb), Nat.div_add_mod' x]
  congr 1; rw [Nat.pow_succ]; omega
theorem Ady {v : Int} {p x : Nat} (h : v = (x : Int)) : (vl (lm (qn v (p : Int)))).toNat = x / p := by
  subst h
  rw [show qn (x : Int) (p : Int) = ((x / p : Nat) : Int) from by unfold qn; simp, J3 (Int.natCast_nonneg _)]; rfl
theorem Adl {v : Int} {p x : Nat} (h : v = (x : Int)) : (vl (lm (rn v (p : Int)))).toNat = x % p := by
  subst h
  rw [show rn (x : Int) (p : Int) = ((x % p : Nat) : Int) from by unfold rn; simp, J3 (Int.natCast_nonneg _)]; rfl
theorem Ab6 {b m x i : Nat} (hb : 2 ≤ b) (hx : x ≠ 0) (hm : (Aj b x).length ≤ m) (hi : i ≤ m - (Aj b x).length) (hend : (hdg b m x).length - 1 ≤ i ∨ (hdg b m x).getD i 0 ≠ 0) : i = m - (Aj b x).length := by
  have h1 : 0 < (Aj b x).length := List.length_pos_iff.2 (Np hb hx)
  rcases hend with h | h
  · rw [Ma] at h; omega
  · rcases Nat.lt_or_ge i (m - (Aj b x).length) with hlt | hge
    · exfalso
      apply h
      rw [Qt hb hx, List.getD_eq_getElem?_getD, List.getElem?_append_left (by simpa using hlt), List.getElem?_replicate, if_pos hlt]
      rfl
    · omega
theorem Sj {b m x i : Nat} (hb : 2 ≤ b) (hx : x ≠ 0) (hm : (Aj b x).length ≤ m) (hi : i ≤ m - (Aj b x).length) (h0 : (hdg b m x).getD i 0 = 0) : i + 1 ≤ m - (Aj b x).length := by
  rcases Nat.lt_or_ge i (m - (Aj b x).length) with hlt | hge
  · exact hlt
  · exfalso
    obtain rfl : i = m - (Aj b x).length := by omega
    apply Zn hb hx
    rw [Qt hb hx, List.getD_eq_getElem?_getD, List.getElem?_append_right (by simp)] at h0
    simpa using h0
theorem Z3 {b m x : Nat} (hb : 2 ≤ b) (hx : x ≠ 0) : (hdg b m x).drop (m - (Aj b x).length) = hdg b 1 x := by
  rw [Qt hb hx, List.drop_append_of_le_length (by simp)]
  simp

def Abr : ByteArray := ⟨#[48, 49, 50, 51, 52, 53, 54, 55, 56, 57, 97, 98, 99, 100, 101, 102, 103, 104, 105, 106, 107, 108, 109, 110, 111, 112, 113, 114, 115, 116, 117, 118, 119, 120, 121, 122]⟩
def ltr (x : Int) : Int := Id Abr x.toNat
def ltrB (x : Int) : UInt8 := UInt8.ofNat (ltr x).toNat
def txt (l : List Int) : ByteArray := ⟨(l.map ltrB).toArray⟩
theorem Aeq (x : Int) : 0 ≤ ltr x ∧ ltr x < 256 := Pj _ _
theorem Aer (x : Int) : ((ltrB x).toNat : Int) = ltr x := by
  have h := Aeq x
  unfold ltrB
  rw [UInt8.toNat_ofNat_of_lt' (by show (ltr x).toNat < 256; omega)]
  omega
theorem Agy (l : List Int) : Gq (txt l) = l.map ltr := by
  unfold Gq txt
  rw [List.toList_toArray, List.map_map]
  exact List.map_congr_left fun x _ => Aer x
theorem X0 (l : List Int) : (txt l).size = l.length := by
  have := Mc (txt l)
  rw [Agy, List.length_map] at this
  omega
theorem X1 {l : List Int} {i : Nat} (h : i < l.length) : (l.map ltr).getD i 0 = ltr (l.getD i 0) := by
  rw [List.getD_eq_getElem?_getD, List.getElem?_map, List.getD_eq_getElem?_getD, List.getElem?_eq_getElem h]; rfl
theorem rng36 {b : Nat} (hb : b ≤ 36) {l : List Int} (h : rng b l) : rng 36 l := fun x hx => by have := h x hx; omega

def hv (b : Nat) (l : List Int) : Int := vb b l.reverse
def dgv (c : Int) : Int := if 48 ≤ c ∧ c ≤ 57 then c - 48 else if 97 ≤ c ∧ c ≤ 122 then c - 97 + 10 else 36
def dgs (s : ByteArray) : List Int := (Gq s).map dgv

def ordW (s t : ByteArray) : Int := if s.size < t.size ∨ (s.size = t.size ∧ Op.bytesLess s.toList t.toList = true) then -1 else if s = t then 0 else 1
end Go.Proofs.YtnadmljoefecfaaGreatDoor.Vc
