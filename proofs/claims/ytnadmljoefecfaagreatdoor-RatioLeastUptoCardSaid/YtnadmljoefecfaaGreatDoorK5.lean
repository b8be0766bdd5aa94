/- The law RatioLeast of every input of bulk at most 1048576: it returns true, and the input reads as it did. Texts joined: We, Wf, Wg, Wh, Wi, Wj, Wk, Wl, Wm, Wn, Wo, Wp, Wq, Wr, Ws, Wt, Wv, Wx, Wy, Wz, Ya, Yb, Ye, Yg, Yh. -/
import Derived.Test.YtnadmljoefecfaaGreatDoorK4
set_option linter.unusedVariables false
set_option linter.unusedSimpArgs false
set_option maxHeartbeats 4000000
namespace Go.Proofs.YtnadmljoefecfaaGreatDoor.Vc
open Go Go.RowKit
theorem Ab6 (a b : List Int) (ha : a.length < 4294967296) (hb : b.length < 4294967296) (ua : Av a) (ub : Av b) (hle : 0 ≤ Nw (trm a) (trm b)) (h : Dn (trm (Qp a b)) ≤ 67108864) : Spec Tryz.prog 105 [.n false .u64 a, .n false .u64 b] (fun o => o = .ret (.t [.n false .u64 (trm (Qp a b)), .i .i64 0])) := by
  refine Aw [(0, .n false .u64 a), (1, .n false .u64 b)] rfl Tryz.func105 rfl (Zb rfl) fun Γ hN hds hL hR => ?_
  have hd := B2 52 hN
  have hma := Cy a
  have hmb := Cy b
  have uX := A8 ua
  have uY := A8 ub
  refine Zs <| Za rfl (hd 4 rfl) <| Za rfl (hd 5 rfl) <| Ab <| Ae <| Zs <| Zm rfl (hd 10 rfl) <| Zm rfl (hd 11 rfl) ?_
  refine Ag Tryz.f89 (Fu a b (by omega) (by omega)) rfl Tryz.func89 rfl rfl (Aa rfl (Aa rfl Ad)) (.cons .n (.cons .n .nil)) (hd 12 rfl) ?_ (fun _ h => by simp at h)
  rintro _ ⟨⟩; refine Ac (B0 (Ca rfl rfl) (by omega)) (hd 13 rfl) <| Ab <| A6 rfl <| Aj <| Zs <| Zm rfl (hd 14 rfl) ?_
  refine Ag Tryz.f72 (Ey a (by omega)) rfl Tryz.func72 rfl rfl (Aa rfl Ad) (.cons .n .nil) (hd 15 rfl) ?_ (fun _ h => by simp at h)
  rintro _ ⟨⟩; refine Zm rfl (hd 16 rfl) ?_
  refine Ag Tryz.f72 (Ey b (by omega)) rfl Tryz.func72 rfl rfl (Aa rfl Ad) (.cons .n .nil) (hd 17 rfl) ?_ (fun _ h => by simp at h)
  rintro _ ⟨⟩; refine Za rfl (hd 0 rfl) <| Za rfl (hd 1 rfl) <| Ab <| Zs <| Zm rfl (hd 18 rfl) <| Ac (Ar A7 rfl) (hd 19 rfl) <| A1 (Gv (m := (trm a).length) Lg rfl rfl rfl (by show 8 * (trm a).length ≤ _; omega) (by unfold maxLen; omega) rfl) (hd 20 rfl) <| Za rfl (hd 6 rfl) <| Ab <| Zs <| Za rfl (hd 7 rfl) ?_; refine Ab <| Ae <| Zs <| Zm rfl (hd 21 rfl) <| Ac (Ar A7 rfl) (hd 22 rfl) <| Zm rfl (hd 23 rfl) <| Ab <| At ?_
  refine Ch (G := Nat) (fun i => i ≤ (trm a).length) (fun i => [(7, .i .u64 (sbN (trm a) (trm b) i).2), (23, .i .i64 (i : Int)), (8, .u), (9, .u), (24, .u), (25, .u), (26, .u), (27, .u), (28, .u), (29, .u), (30, .u), (31, .u), (32, .u), (33, .u), (34, .u), (35, .u), (36, .u), (37, .u), (38, .u), (39, .u), (40, .u), (41, .u), (42, .u), (43, .u), (44, .u), (45, .u), (46, .u), (47, .u)]) (fun i => [⟨71, 1, 0, true, ints .u64 (D2 (sbN (trm a) (trm b) i).1 (trm a).length)⟩]) (fun i => (trm a).length - i) 0 ?_ ?_ rfl ?_
  · exact Nat.zero_le _
  · exact (.cons rfl (.cons rfl (.v9 (.v9 (.v5 (.u .nil))))))
  · rintro i hc1
    have hf := Ff (l := (sbN (trm a) (trm b) i).1) (n := (trm a).length) (by rw [Db]; omega)
    have hc := Sz (trm a) (trm b) i
    have hx := A2 uX i
    have hy := A2 uY i
    refine Zs <| Ac (Ca rfl rfl) (hd 24 rfl) <| Ab <| Ae ?_
    refine Bh rfl (fun h2 => ?_) (fun h2 => ?_)
    · refine Aj <| Ae <| At <| Zs <| Zm rfl (hd 25 rfl) <| Za rfl (hd 8 rfl) <| Ab <| Zs <| Za rfl (hd 9 rfl) <| Ab ?_
      refine C9 (G := Unit) (fun _ => True) (fun _ => [(9, .i .u64 ((trm b).getD i 0)), (26, .u), (27, .u), (28, .u), (29, .u), (30, .u), (31, .u), (32, .u), (33, .u)]) ?_ ?_
      · refine Zs <| Zm rfl (hd 26 rfl) <| Zm rfl (hd 27 rfl) <| Ac (Ar A7 rfl) (hd 28 rfl) <| Ac (Ca rfl rfl) (hd 29 rfl) <| Ab ?_
        refine Bh rfl (fun h3 => ?_) (fun h3 => ?_)
        · refine Af <| Zm rfl (hd 30 rfl) <| Zm rfl (hd 31 rfl) <| Ac (Cc (i := i) A7 rfl rfl (by first | rfl | omega) (by omega)) (hd 32 rfl) <| Ac (B8 Bu rfl rfl) (hd 33 rfl) <| Za rfl (hd 9 rfl) <| Ab ?_
          refine ⟨(), ?_, rfl, Bj 9 rfl rfl ?_⟩
          · trivial
          · exact (.cons (by first | rfl | (show some (V.i .u64 _) = some (V.i .u64 _); rw [Ds (by omega)])) (.v5 (.u (.u (.u .nil)))))
        · refine Aj ?_
          refine ⟨(), ?_, rfl, Bj 4 rfl rfl ?_⟩
          · trivial
          · exact (.cons (by first | rfl | (show some (V.i .u64 _) = some (V.i .u64 _); rw [Ds (by omega)])) (.v5 (.u (.u (.u .nil)))))
      · rintro _ _; refine Af <| Zm rfl (hd 35 rfl) <| Zm rfl (hd 36 rfl) <| Zm rfl (hd 37 rfl) <| Zm rfl (hd 38 rfl) <| Ac (Cc (i := i) A7 rfl rfl (by first | rfl | omega) (by omega)) (hd 39 rfl) <| Ac (B8 Bu rfl rfl) (hd 40 rfl) <| Zm rfl (hd 41 rfl) <| Zm rfl (hd 42 rfl) <| A1 (Eg (e := E4) Tryz.func124 rfl rfl (by kernel_rfl) (by kernel_rfl) rfl rfl rfl (fun w => G5 _ _ _ hx.1 hx.2 hy.1 hy.2 hc.1 hc.2 w) Dp) (hd 43 rfl) <| Zm rfl (hd 34 rfl) <| Ac (Ai rfl rfl) (hd 44 rfl) <| Ac (Ai rfl rfl) (hd 45 rfl) ?_; refine Ac (Ck (i := i) A7 rfl rfl rfl (by first | rfl | omega) (by omega) rfl) (hd 46 rfl) <| A3 (Cf rfl rfl rfl Bu (by omega)) <| Za rfl (hd 7 rfl) <| Ab <| Af <| Ac (Bd rfl rfl (Ak (by omega) (by omega))) (hd 47 rfl) <| Zm rfl (hd 23 rfl) <| Ab ?_
        refine ⟨i + 1, ?_, ?_, (by show [(⟨71, 1, 0, true, ints .u64 _⟩ : Ob)] = [⟨71, 1, 0, true, ints .u64 _⟩]; rw [V2 (by omega)]), Bj 57 rfl rfl ?_⟩
        · omega
        · omega
        · exact (.cons rfl (.cons rfl (.v9 (.v9 (.v5 (.u .nil))))))
    · refine Br <| Ae ?_
      obtain rfl : i = (trm a).length := by omega
      refine Jm (k := .u64) (l' := Qp a b) 6 rfl rfl (by rw [Ed (Db _ _ _)]; simp [Db]) (by rw [Ed (Db _ _ _), List.drop_zero, List.take_of_length_le (by simp [Db])]; rfl) hL <| Af <| Zm rfl (hd 48 rfl) ?_
      refine Ag Tryz.f75 (Mr (Qp a b) (by unfold Qp; rw [Db]; omega) (Oc uX uY _) h) rfl Tryz.func75 rfl rfl (Aa rfl Ad) (.cons .n .nil) (hd 49 rfl) ?_ (fun _ h => by simp at h)
      rintro _ ⟨⟩; refine Ac (Ai rfl rfl) (hd 50 rfl) <| Ac (Ai rfl rfl) (hd 51 rfl) <| Za rfl (hd 4 rfl) <| Za rfl (hd 5 rfl) <| Ab <| An ?_
      refine ⟨_, _, (.cons rfl (.cons rfl .nil)), (.t1 .n (.t1 .i .t0)), ?_⟩
      exact rfl

theorem Afb (a b : List Int) (ha : a.length < 4294967296) (hb : b.length < 4294967296) (ua : Av a) (ub : Av b) (hle : 0 ≤ Nw (trm a) (trm b)) (h : 67108864 < Dn (trm (Qp a b))) : Spec Tryz.prog 105 [.n false .u64 a, .n false .u64 b] (fun o => o = .ret (.t [.n false .u64 [], .i .i64 3])) := by
  refine Aw [(0, .n false .u64 a), (1, .n false .u64 b)] rfl Tryz.func105 rfl (Zb rfl) fun Γ hN hds hL hR => ?_
  have hd := B2 52 hN
  have hma := Cy a
  have hmb := Cy b
  have uX := A8 ua
  have uY := A8 ub
  refine Zs <| Za rfl (hd 4 rfl) <| Za rfl (hd 5 rfl) <| Ab <| Ae <| Zs <| Zm rfl (hd 10 rfl) <| Zm rfl (hd 11 rfl) ?_
  refine Ag Tryz.f89 (Fu a b (by omega) (by omega)) rfl Tryz.func89 rfl rfl (Aa rfl (Aa rfl Ad)) (.cons .n (.cons .n .nil)) (hd 12 rfl) ?_ (fun _ h => by simp at h)
  rintro _ ⟨⟩; refine Ac (B0 (Ca rfl rfl) (by omega)) (hd 13 rfl) <| Ab <| A6 rfl <| Aj <| Zs <| Zm rfl (hd 14 rfl) ?_
  refine Ag Tryz.f72 (Ey a (by omega)) rfl Tryz.func72 rfl rfl (Aa rfl Ad) (.cons .n .nil) (hd 15 rfl) ?_ (fun _ h => by simp at h)
  rintro _ ⟨⟩; refine Zm rfl (hd 16 rfl) ?_
  refine Ag Tryz.f72 (Ey b (by omega)) rfl Tryz.func72 rfl rfl (Aa rfl Ad) (.cons .n .nil) (hd 17 rfl) ?_ (fun _ h => by simp at h)
  rintro _ ⟨⟩; refine Za rfl (hd 0 rfl) <| Za rfl (hd 1 rfl) <| Ab <| Zs <| Zm rfl (hd 18 rfl) <| Ac (Ar A7 rfl) (hd 19 rfl) <| A1 (Gv (m := (trm a).length) Lg rfl rfl rfl (by show 8 * (trm a).length ≤ _; omega) (by unfold maxLen; omega) rfl) (hd 20 rfl) <| Za rfl (hd 6 rfl) <| Ab <| Zs <| Za rfl (hd 7 rfl) ?_; refine Ab <| Ae <| Zs <| Zm rfl (hd 21 rfl) <| Ac (Ar A7 rfl) (hd 22 rfl) <| Zm rfl (hd 23 rfl) <| Ab <| At ?_
  refine Ch (G := Nat) (fun i => i ≤ (trm a).length) (fun i => [(7, .i .u64 (sbN (trm a) (trm b) i).2), (23, .i .i64 (i : Int)), (8, .u), (9, .u), (24, .u), (25, .u), (26, .u), (27, .u), (28, .u), (29, .u), (30, .u), (31, .u), (32, .u), (33, .u), (34, .u), (35, .u), (36, .u), (37, .u), (38, .u), (39, .u), (40, .u), (41, .u), (42, .u), (43, .u), (44, .u), (45, .u), (46, .u), (47, .u)]) (fun i => [⟨71, 1, 0, true, ints .u64 (D2 (sbN (trm a) (trm b) i).1 (trm a).length)⟩]) (fun i => (trm a).length - i) 0 ?_ ?_ rfl ?_
  · exact Nat.zero_le _
  · exact (.cons rfl (.cons rfl (.v9 (.v9 (.v5 (.u .nil))))))
  · rintro i hc1
    have hf := Ff (l := (sbN (trm a) (trm b) i).1) (n := (trm a).length) (by rw [Db]; omega)
    have hc := Sz (trm a) (trm b) i
    have hx := A2 uX i
    have hy := A2 uY i
    refine Zs <| Ac (Ca rfl rfl) (hd 24 rfl) <| Ab <| Ae ?_
    refine Bh rfl (fun h2 => ?_) (fun h2 => ?_)
    · refine Aj <| Ae <| At <| Zs <| Zm rfl (hd 25 rfl) <| Za rfl (hd 8 rfl) <| Ab <| Zs <| Za rfl (hd 9 rfl) <| Ab ?_
      refine C9 (G := Unit) (fun _ => True) (fun _ => [(9, .i .u64 ((trm b).getD i 0)), (26, .u), (27, .u), (28, .u), (29, .u), (30, .u), (31, .u), (32, .u), (33, .u)]) ?_ ?_
      · refine Zs <| Zm rfl (hd 26 rfl) <| Zm rfl (hd 27 rfl) <| Ac (Ar A7 rfl) (hd 28 rfl) <| Ac (Ca rfl rfl) (hd 29 rfl) <| Ab ?_
        refine Bh rfl (fun h3 => ?_) (fun h3 => ?_)
        · refine Af <| Zm rfl (hd 30 rfl) <| Zm rfl (hd 31 rfl) <| Ac (Cc (i := i) A7 rfl rfl (by first | rfl | omega) (by omega)) (hd 32 rfl) <| Ac (B8 Bu rfl rfl) (hd 33 rfl) <| Za rfl (hd 9 rfl) <| Ab ?_
          refine ⟨(), ?_, rfl, Bj 9 rfl rfl ?_⟩
          · trivial
          · exact (.cons (by first | rfl | (show some (V.i .u64 _) = some (V.i .u64 _); rw [Ds (by omega)])) (.v5 (.u (.u (.u .nil)))))
        · refine Aj ?_
          refine ⟨(), ?_, rfl, Bj 4 rfl rfl ?_⟩
          · trivial
          · exact (.cons (by first | rfl | (show some (V.i .u64 _) = some (V.i .u64 _); rw [Ds (by omega)])) (.v5 (.u (.u (.u .nil)))))
      · rintro _ _; refine Af <| Zm rfl (hd 35 rfl) <| Zm rfl (hd 36 rfl) <| Zm rfl (hd 37 rfl) <| Zm rfl (hd 38 rfl) <| Ac (Cc (i := i) A7 rfl rfl (by first | rfl | omega) (by omega)) (hd 39 rfl) <| Ac (B8 Bu rfl rfl) (hd 40 rfl) <| Zm rfl (hd 41 rfl) <| Zm rfl (hd 42 rfl) <| A1 (Eg (e := E4) Tryz.func124 rfl rfl (by kernel_rfl) (by kernel_rfl) rfl rfl rfl (fun w => G5 _ _ _ hx.1 hx.2 hy.1 hy.2 hc.1 hc.2 w) Dp) (hd 43 rfl) <| Zm rfl (hd 34 rfl) <| Ac (Ai rfl rfl) (hd 44 rfl) <| Ac (Ai rfl rfl) (hd 45 rfl) ?_; refine Ac (Ck (i := i) A7 rfl rfl rfl (by first | rfl | omega) (by omega) rfl) (hd 46 rfl) <| A3 (Cf rfl rfl rfl Bu (by omega)) <| Za rfl (hd 7 rfl) <| Ab <| Af <| Ac (Bd rfl rfl (Ak (by omega) (by omega))) (hd 47 rfl) <| Zm rfl (hd 23 rfl) <| Ab ?_
        refine ⟨i + 1, ?_, ?_, (by show [(⟨71, 1, 0, true, ints .u64 _⟩ : Ob)] = [⟨71, 1, 0, true, ints .u64 _⟩]; rw [V2 (by omega)]), Bj 57 rfl rfl ?_⟩
        · omega
        · omega
        · exact (.cons rfl (.cons rfl (.v9 (.v9 (.v5 (.u .nil))))))
    · refine Br <| Ae ?_
      obtain rfl : i = (trm a).length := by omega
      refine Jm (k := .u64) (l' := Qp a b) 6 rfl rfl (by rw [Ed (Db _ _ _)]; simp [Db]) (by rw [Ed (Db _ _ _), List.drop_zero, List.take_of_length_le (by simp [Db])]; rfl) hL <| Af <| Zm rfl (hd 48 rfl) ?_
      refine Ag Tryz.f75 (Q5 (Qp a b) (by unfold Qp; rw [Db]; omega) (Oc uX uY _) h) rfl Tryz.func75 rfl rfl (Aa rfl Ad) (.cons .n .nil) (hd 49 rfl) ?_ (fun _ h => by simp at h)
      rintro _ ⟨⟩; refine Ac (Ai rfl rfl) (hd 50 rfl) <| Ac (Ai rfl rfl) (hd 51 rfl) <| Za rfl (hd 4 rfl) <| Za rfl (hd 5 rfl) <| Ab <| An ?_
      refine ⟨_, _, (.cons rfl (.cons rfl .nil)), (.t1 .n (.t1 .i .t0)), ?_⟩
      exact rfl


theorem Ac7 (l : List Int) (hl : l.length < 1099511627776) : Spec Tryz.prog 68 [.n false .u64 l] (fun o => o = .ret (.n false .u64 (trm l))) := by
  refine Aw [(0, .n false .u64 l)] rfl Tryz.func68 rfl (Zb rfl) fun Γ hN hds hL hR => ?_
  have hd := B2 22 hN
  refine Zs <| Za rfl (hd 2 rfl) <| Ab <| Zs <| Zm rfl (hd 4 rfl) <| Ac (Ar Nu rfl) (hd 5 rfl) <| Za rfl (hd 3 rfl) <| Ab <| Ae <| At ?_
  refine Ch (G := Nat) (fun k => k ≤ l.length ∧ tN l k = tN l l.length) (fun k => [(3, .i .i64 (k : Int)), (6, .u), (7, .u), (8, .u), (9, .u), (10, .u), (11, .u), (12, .u), (13, .u), (14, .u), (15, .u), (16, .u), (17, .u)]) (fun _ => _) (fun k => k) l.length ?_ ?_ rfl ?_
  · exact ⟨Nat.le_refl _, rfl⟩
  · exact (.cons rfl (.v9 (.u (.u .nil))))
  · rintro k ⟨hc1, hc2⟩; refine Ae <| Zs <| Zm rfl (hd 6 rfl) <| Ac (Ce rfl rfl) (hd 7 rfl) <| Zm rfl (hd 8 rfl) ?_
    refine Ez 8 rfl (fun h1 => ?_) (fun h1 => ?_)
    · refine Bi 8 rfl rfl (Ay rfl) (hd 9 rfl) <| Bi 8 rfl rfl (Ay rfl) (hd 10 rfl) <| Bi 8 rfl rfl (Bm rfl rfl (Ak (by omega) (by omega))) (hd 11 rfl) <| Bi 8 rfl rfl (Cc (i := k - 1) Nu rfl rfl (by omega) (by omega)) (hd 12 rfl) <| Bi 8 rfl rfl (B8 Bu rfl rfl) (hd 13 rfl) <| Bi 8 rfl rfl (Cq rfl rfl) (hd 14 rfl) <| Ac (Bt rfl rfl) (hd 15 rfl) <| Ab ?_
      refine Bh rfl (fun h2 => ?_) (fun h2 => ?_)
      · refine Aj <| At <| Af <| Zm rfl (hd 16 rfl) <| Ac (Bm rfl rfl (Ak (by omega) (by omega))) (hd 17 rfl) <| Za rfl (hd 3 rfl) <| Ab ?_
        refine ⟨k - 1, ?_, ?_, rfl, Bj 27 rfl rfl ?_⟩
        · exact ⟨by omega, by rw [← hc2, T3 (by omega) (by assumption)]⟩
        · omega
        · exact (.cons (by show some (V.i .i64 _) = some (V.i .i64 _); congr 2; omega) (.v9 (.u (.u .nil))))
      · refine Br <| Zs <| Zm rfl (hd 18 rfl) <| Zm rfl (hd 19 rfl) <| Zm rfl (hd 20 rfl) <| Ac (K3 Nu rfl Gx (Dg rfl (by first | rfl | omega)) (.inr ⟨k, Dg rfl rfl, Nat.le_refl _, hc1, rfl⟩) (by omega) (by omega)) (hd 21 rfl) <| Za rfl (hd 2 rfl) <| Ab <| An ?_
        refine ⟨_, _, (.cons rfl .nil), .n, ?_⟩
        unfold trm
        rw [← hc2, Po (by omega) (by assumption), List.drop_zero]
    · refine Bz 8 rfl rfl rfl (hd 9 rfl) <| Bz 8 rfl rfl rfl (hd 10 rfl) <| Bz 8 rfl rfl rfl (hd 11 rfl) <| Bz 8 rfl rfl rfl (hd 12 rfl) <| Bz 8 rfl rfl rfl (hd 13 rfl) <| Bz 8 rfl rfl rfl (hd 14 rfl) <| Ac (Bg rfl rfl) (hd 15 rfl) <| Ab <| A6 rfl <| Br <| Zs <| Zm rfl (hd 18 rfl) ?_; refine Zm rfl (hd 19 rfl) <| Zm rfl (hd 20 rfl) <| Ac (K3 Nu rfl Gx (Dg rfl (by first | rfl | omega)) (.inr ⟨k, Dg rfl rfl, Nat.le_refl _, hc1, rfl⟩) (by omega) (by omega)) (hd 21 rfl) <| Za rfl (hd 2 rfl) <| Ab <| An ?_
      refine ⟨_, _, (.cons rfl .nil), .n, ?_⟩
      unfold trm
      rw [← hc2, Akz (by omega), List.drop_zero]


theorem Adg (l : List Int) (hl : l.length < 4294967296) (hu : Av l) : Spec Tryz.prog 22 [.n false .u64 l] (fun o => o = .ret (.n false .u64 (trm (dig l)))) := by
  refine Aw [(0, .n false .u64 l)] rfl Tryz.func22 rfl (Zb rfl) fun Γ hN hds hL hR => ?_
  have hd := B2 26 hN
  refine Zs <| Za rfl (hd 2 rfl) <| Ab <| Zs <| Zm rfl (hd 6 rfl) <| Ac (Ar Ajv rfl) (hd 7 rfl) <| Ac (Dw rfl rfl (Ak (by omega) (by omega))) (hd 8 rfl) <| A1 (Ahw (m := 2 * l.length) Akf rfl rfl (by omega) (by show 8 * (2 * l.length) ≤ _; omega) (by unfold maxLen; omega) rfl) (hd 9 rfl) <| Za rfl (hd 3 rfl) <| Ab <| Ae ?_; refine Zs <| Zm rfl (hd 10 rfl) <| Ac (Ar Ajv rfl) (hd 11 rfl) <| Zm rfl (hd 12 rfl) <| Ab <| At ?_
  refine Fy (G := Nat) 1 (fun g => g ≤ l.length) (fun g => [(3, .o 0 g 0 (2 * g)), (12, .i .i64 (g : Int)), (5, .u), (13, .u), (14, .u), (15, .u), (16, .u), (17, .u), (18, .u), (19, .u), (20, .u), (21, .u), (22, .u), (23, .u)]) (fun g => [⟨71, 1, g, true, ints .u64 (dig (l.take g))⟩]) (fun g => l.length - g) 0 ?_ ?_ rfl hR rfl (fun _ _ => rfl) (fun g _ => .cons Bc .nil) ?_
  · exact Nat.zero_le _
  · exact (.cons rfl (.cons rfl (.v9 (.u (.u .nil)))))
  · rintro i hc1
    have hx := A2 hu i
    refine Zs <| Ac (Ca rfl rfl) (hd 13 rfl) <| Ab <| Ae ?_
    refine Bh rfl (fun h1 => ?_) (fun h1 => ?_)
    · refine Aj <| Ae <| At <| Zs <| Ac (Cc (i := i) Ajv rfl rfl (by first | rfl | omega) (by omega)) (hd 14 rfl) <| Ac (B8 Bu rfl rfl) (hd 15 rfl) <| Za rfl (hd 5 rfl) <| Ab <| Af <| Zm rfl (hd 16 rfl) <| Zm rfl (hd 17 rfl) <| Ac (Bk (K4 rfl rfl (by decide) rfl) (show V.i .u64 ((l.getD i 0).tmod 4294967296) = V.i .u64 ((l.getD i 0) % 4294967296) by rw [Int.tmod_eq_emod_of_nonneg hx.1])) (hd 18 rfl) ?_; refine Zm rfl (hd 19 rfl) <| Ac (Gc rfl rfl (by decide) (r := (l.getD i 0) / 4294967296) (by show IntKind.u64.wrap (Int.tdiv (l.getD i 0) 4294967296) = _; rw [Int.tdiv_eq_ediv_of_nonneg hx.1]; exact Bf (by omega) (by omega))) (hd 20 rfl) <| A1 (Do (id := 1) (xs := [.tmp 18, .tmp 20]) Akf rfl (Aa rfl (Aa rfl Ad)) rfl (Cz rfl) (by decide) rfl) (hd 21 rfl) <| O2 Akf rfl rfl (by rw [C5, Ld, List.length_take, Nat.min_eq_left (by omega), Nat.mul_one]) rfl (Pq rfl rfl rfl) (by show (2 * i + 2) * 8 ≤ _; omega) (by unfold maxLen; omega) (hd 22 rfl) <| Za rfl (hd 3 rfl) <| Ab <| Af <| Ac (Bd rfl rfl (Ak (by omega) (by omega))) (hd 23 rfl) <| Zm rfl (hd 12 rfl) <| Ab ?_
      refine ⟨i + 1, ?_, ?_, (by show [(⟨71, 1, i + 1, true, ints .u64 (dig (l.take i)) ++ ints .u64 [_, _]⟩ : Ob)] = [⟨71, 1, i + 1, true, ints .u64 (dig (l.take (i + 1)))⟩]; rw [En, Zx (by omega)]), Bj 28 rfl rfl ?_⟩
      · omega
      · omega
      · exact (.cons rfl (.cons rfl (.v9 (.u (.u .nil)))))
    · refine Br <| Ae ?_
      obtain rfl : i = l.length := by omega
      refine Af <| Jl (k := .u64) (l' := dig l) 3 rfl rfl (by rw [Ld, List.length_take, Nat.min_self]; omega) (by rw [List.take_length, List.drop_zero, List.take_of_length_le (by rw [Ld]; exact Nat.le_refl _)]) hL <| Zm rfl (hd 24 rfl) ?_
      refine Ag Tryz.f68 (Ac7 (dig l) (by rw [Ld]; omega)) rfl Tryz.func68 rfl rfl (Aa rfl Ad) (.cons .n .nil) (hd 25 rfl) ?_ (fun _ h => by simp at h)
      rintro _ ⟨⟩; refine Za rfl (hd 2 rfl) <| Ab <| An ?_
      refine ⟨_, _, (.cons rfl .nil), .n, ?_⟩
      exact rfl




theorem Rq (s : Bool) (l : List Int) (hl : l.length < 1099511627776) : Spec Tryz.prog 101 [.a [.b s, .n false .u64 l]] (fun o => o = .ret (.a [.b (s && decide (0 < ((trm l).length : Int))), .n true .u64 (trm l)])) := by
  refine Aw [(0, .a [.b s, .n false .u64 l])] rfl Tryz.func101 rfl (Zb rfl) fun Γ hN hds hL hR => ?_
  have hd := B2 16 hN
  refine Zs <| A1 (Bn (id := 0) (n := 2) rfl rfl rfl (by decide) rfl) (hd 1 rfl) <| A1 (Aq (id := 1) Az (by decide) rfl (by decide) rfl) (hd 2 rfl) <| Ab <| Zs <| Ac (A5 By rfl rfl rfl) (hd 4 rfl) <| Ac (A9 B5 rfl rfl rfl) (hd 5 rfl) ?_
  refine Ag Tryz.f66 (D4 l hl) rfl Tryz.func66 rfl rfl (Aa rfl Ad) (.cons .n .nil) (hd 6 rfl) ?_ (fun _ h => by simp at h)
  rintro _ ⟨⟩; refine Za rfl (hd 3 rfl) <| Ab <| Zs <| Ac (A5 Cx rfl rfl rfl) (hd 7 rfl) <| Ac (A9 Il rfl rfl rfl) (hd 8 rfl) <| Zm rfl (hd 9 rfl) ?_
  refine J7 9 rfl (fun h1 => ?_) (fun h1 => ?_)
  · refine Bi 9 rfl rfl (Ay rfl) (hd 10 rfl) <| Bi 9 rfl rfl (Ar A7 rfl) (hd 11 rfl) <| Bi 9 rfl rfl (Ce rfl rfl) (hd 12 rfl) <| Ac (Bt rfl rfl) (hd 13 rfl) <| Zm rfl (hd 14 rfl) <| Ac (Bp (is := [0, 1]) (xs := [.tmp 13, .tmp 14]) Az C0 rfl (Aa rfl (Aa rfl Ad)) rfl (by first | (simp [Ci, cellsV]; done) | (simp [Ci, cellsV, old]; done)) (Cd rfl) rfl) (hd 15 rfl) <| A3 (Ah rfl rfl rfl B6 rfl rfl (Zb rfl)) <| Ab <| An ?_
    refine ⟨_, _, (.cons (ResV.cell Bw rfl rfl rfl rfl) .nil), (.a1 .b (.a1 .n .a0)), ?_⟩
    simp_all
  · refine Bz 9 rfl rfl rfl (hd 10 rfl) <| Bz 9 rfl rfl rfl (hd 11 rfl) <| Bz 9 rfl rfl rfl (hd 12 rfl) <| Ac (Bg rfl rfl) (hd 13 rfl) <| Zm rfl (hd 14 rfl) <| Ac (Bp (is := [0, 1]) (xs := [.tmp 13, .tmp 14]) Az C0 rfl (Aa rfl (Aa rfl Ad)) rfl (by first | (simp [Ci, cellsV]; done) | (simp [Ci, cellsV, old]; done)) (Cd rfl) rfl) (hd 15 rfl) <| A3 (Ah rfl rfl rfl B6 rfl rfl (Zb rfl)) <| Ab <| An ?_
    refine ⟨_, _, (.cons (ResV.cell Bw rfl rfl rfl rfl) .nil), (.a1 .b (.a1 .n .a0)), ?_⟩
    simp_all

theorem Aiw (v : Int) (h0 : v < 0) (h1 : -9223372036854775808 ≤ v) : Spec Tryz.prog 92 [.i .i64 v] (fun o => o = .ret (.a [.b true, .n true .u64 [-v]])) := by
  refine Aw [(0, .i .i64 v)] rfl Tryz.func92 rfl (Zb rfl) fun Γ hN hds hL hR => ?_
  have hd := B2 14 hN
  have rF : Spec Tryz.prog 35 [.i .u64 (-v)] (fun o => o = .ret (.n true .u64 [-v])) := by have h := Gn (-v); rwa [if_neg (by omega)] at h
  refine Zs <| A1 (Aq (id := 0) Az (by decide) rfl (by decide) rfl) (hd 2 rfl) <| Ab <| Ae <| Zs <| Zm rfl (hd 3 rfl) <| Ac (E6 (Ca rfl rfl) (by omega)) (hd 4 rfl) <| Ab <| Cw rfl <| Ae <| Af ?_; refine Zm rfl (hd 5 rfl) <| Ac (D5 N5 Li rfl (r := v + 18446744073709551616) (Nx (by omega) (by omega) (by omega))) (hd 6 rfl) <| Ac (Jj rfl (r := -v) (Nx (by omega) (by omega) (by omega))) (hd 7 rfl) ?_
  refine Ag Tryz.f35 (rF) rfl Tryz.func35 rfl rfl (Aa rfl Ad) (.cons .i .nil) (hd 8 rfl) ?_ (fun _ h => by simp at h)
  rintro _ ⟨⟩; refine Ac (Bp (is := [0, 1]) (xs := [.const (.bool true), .tmp 8]) Az C0 rfl (Aa rfl (Aa rfl Ad)) rfl (by first | (simp [Ci, cellsV]; done) | (simp [Ci, cellsV, old]; done)) (Cd rfl) rfl) (hd 9 rfl) <| A3 (Ah rfl rfl rfl B6 rfl rfl (Zb rfl)) <| Ab <| An ?_
  refine ⟨_, _, (.cons (ResV.cell Bw rfl rfl rfl rfl) .nil), (.a1 .b (.a1 .n .a0)), ?_⟩
  exact rfl

theorem Aiv (v : Int) (h0 : 0 < v) (h1 : v < 9223372036854775808) : Spec Tryz.prog 92 [.i .i64 v] (fun o => o = .ret (.a [.b false, .n true .u64 [v]])) := by
  refine Aw [(0, .i .i64 v)] rfl Tryz.func92 rfl (Zb rfl) fun Γ hN hds hL hR => ?_
  have hd := B2 14 hN
  have rF : Spec Tryz.prog 35 [.i .u64 v] (fun o => o = .ret (.n true .u64 [v])) := by have h := Gn v; rwa [if_neg (by omega)] at h
  refine Zs <| A1 (Aq (id := 0) Az (by decide) rfl (by decide) rfl) (hd 2 rfl) <| Ab <| Ae <| Zs <| Zm rfl (hd 3 rfl) <| Ac (B0 (Ca rfl rfl) (by omega)) (hd 4 rfl) <| Ab <| A6 rfl <| Aj <| Ae ?_; refine Af <| Zm rfl (hd 10 rfl) <| Ac (D5 N5 Li rfl (Bf (by omega) (by omega))) (hd 11 rfl) ?_
  refine Ag Tryz.f35 (rF) rfl Tryz.func35 rfl rfl (Aa rfl Ad) (.cons .i .nil) (hd 12 rfl) ?_ (fun _ h => by simp at h)
  rintro _ ⟨⟩; refine Ac (Bp (is := [1]) (xs := [.tmp 12]) Az G8 rfl (Aa rfl Ad) rfl (by first | (simp [Ci, cellsV]; done) | (simp [Ci, cellsV, old]; done)) (Cd rfl) rfl) (hd 13 rfl) <| A3 (Ah rfl rfl rfl B6 rfl rfl (Zb rfl)) <| Ab <| An ?_
  refine ⟨_, _, (.cons (ResV.cell Bw rfl rfl rfl rfl) .nil), (.a1 .b (.a1 .n .a0)), ?_⟩
  exact rfl

set_option maxRecDepth 100000 in
theorem Aap  : Spec Tryz.prog 103 [] (fun o => o = .ret (.a [.f 117 [], .f 118 [], .f 119 [], .f 120 [], .f 122 []])) := by
  refine Aw [] rfl Tryz.func103 rfl (Zb rfl) fun Γ hN hds hL hR => ?_
  have hd := B2 2 hN
  refine Zs <| A1 (Aq (id := 0) Acc (by decide) rfl (by decide) rfl) (hd 0 rfl) <| Ab <| Zs <| Ac (Im (v := .agg #[.func (.func 117) #[] #[], .func (.func 118) #[] #[], .func (.func 119) #[] #[], .func (.func 120) #[] #[], .func (.func 122) #[] #[]]) (y := .a [.f 117 [], .f 118 [], .f 119 [], .f 120 [], .f 122 []]) (fun _ _ _ _ => ⟨[.func (.func 117) #[] #[], .func (.func 118) #[] #[], .func (.func 119) #[] #[], .func (.func 120) #[] #[], .func (.func 122) #[] #[]], rfl, _, _, rfl, ⟨[], rfl, rfl⟩, _, _, rfl, ⟨[], rfl, rfl⟩, _, _, rfl, ⟨[], rfl, rfl⟩, _, _, rfl, ⟨[], rfl, rfl⟩, _, _, rfl, ⟨[], rfl, rfl⟩, rfl⟩) (by intro a dst type pos after g w2; kernel_rfl)) (hd 1 rfl) <| A3 (Ah rfl rfl rfl Ago rfl rfl (Zb rfl)) <| Ab <| An ?_
  refine ⟨_, _, (.cons (ResV.cell Aie rfl rfl rfl rfl) .nil), (.a1 .f (.a1 .f (.a1 .f (.a1 .f (.a1 .f .a0))))), ?_⟩
  exact rfl


theorem Qx (x y : Int) (hx0 : 0 ≤ x) (hx : x < 18446744073709551616) (hy0 : 0 ≤ y) (hy : y < 18446744073709551616) : Spec Tryz.prog 140 [.i .u64 x, .i .u64 y] (fun o => o = .ret (.t [.i .u64 (x * y / 18446744073709551616), .i .u64 (x * y % 18446744073709551616)])) := by
  refine Aw [(0, .i .u64 x), (1, .i .u64 y)] rfl Tryz.func140 rfl (Zb rfl) fun Γ hN hds hL hR => ?_
  have hd := B2 51 hN
  have hM := Ve hx0 hx hy0 hy
  dsimp only at hM
  obtain ⟨b00, b10, b01, b11, hhi⟩ := hM
  refine Zs <| Za rfl (hd 4 rfl) <| Za rfl (hd 5 rfl) <| Ab <| Zs <| Zm rfl (hd 14 rfl) <| Ac (Bk (Gd (by simp) rfl rfl rfl) (show V.i .u64 (Gm .and .u64 (x) 4294967295) = V.i .u64 (x % 4294967296) by rw [W3 hx0 hx])) (hd 15 rfl) <| Za rfl (hd 6 rfl) <| Ab <| Ae <| Af ?_; refine Zm rfl (hd 16 rfl) <| Ac (Bk (Eh rfl rfl (by omega) rfl) (show V.i .u64 _ = V.i .u64 (x / 4294967296) from congrArg _ (Ps hx0))) (hd 17 rfl) <| Za rfl (hd 7 rfl) <| Ab <| Zs <| Zm rfl (hd 18 rfl) <| Ac (Bk (Gd (by simp) rfl rfl rfl) (show V.i .u64 (Gm .and .u64 (y) 4294967295) = V.i .u64 (y % 4294967296) by rw [W3 hy0 hy])) (hd 19 rfl) <| Za rfl (hd 8 rfl) <| Ab <| Zs <| Zm rfl (hd 20 rfl) ?_; refine Ac (Bk (Eh rfl rfl (by omega) rfl) (show V.i .u64 _ = V.i .u64 (y / 4294967296) from congrArg _ (Ps hy0))) (hd 21 rfl) <| Za rfl (hd 9 rfl) <| Ab <| Zs <| Zm rfl (hd 22 rfl) <| Zm rfl (hd 23 rfl) <| Ac (Dw rfl rfl (Bf (by omega) (by omega))) (hd 24 rfl) <| Za rfl (hd 10 rfl) <| Ab <| Zs <| Zm rfl (hd 25 rfl) ?_; refine Zm rfl (hd 26 rfl) <| Ac (Dw rfl rfl (Bf (by omega) (by omega))) (hd 27 rfl) <| Zm rfl (hd 28 rfl) <| Ac (Bk (Eh rfl rfl (by omega) rfl) (show V.i .u64 _ = V.i .u64 (x % 4294967296 * (y % 4294967296) / 4294967296) from congrArg _ (Ps b00.1))) (hd 29 rfl) <| Ac (Bd rfl rfl (Bf (by omega) (by omega))) (hd 30 rfl) <| Za rfl (hd 11 rfl) <| Ab <| Zs <| Zm rfl (hd 31 rfl) <| Ac (Bk (Gd (by simp) rfl rfl rfl) (show V.i .u64 (Gm .and .u64 ((x / 4294967296 * (y % 4294967296) + x % 4294967296 * (y % 4294967296) / 4294967296)) 4294967295) = V.i .u64 ((x / 4294967296 * (y % 4294967296) + x % 4294967296 * (y % 4294967296) / 4294967296) % 4294967296) by rw [W3 (by omega) (by omega)])) (hd 32 rfl) <| Za rfl (hd 12 rfl) <| Ab ?_; refine Zs <| Zm rfl (hd 33 rfl) <| Ac (Bk (Eh rfl rfl (by omega) rfl) (show V.i .u64 _ = V.i .u64 ((x / 4294967296 * (y % 4294967296) + x % 4294967296 * (y % 4294967296) / 4294967296) / 4294967296) from congrArg _ (Ps (by omega)))) (hd 34 rfl) <| Za rfl (hd 13 rfl) <| Ab <| Zs <| Zm rfl (hd 35 rfl) <| Zm rfl (hd 36 rfl) <| Zm rfl (hd 37 rfl) <| Ac (Dw rfl rfl (Bf (by omega) (by omega))) (hd 38 rfl) <| Ac (Bd rfl rfl (Bf (by omega) (by omega))) (hd 39 rfl) ?_; refine Za rfl (hd 12 rfl) <| Ab <| Zs <| Zm rfl (hd 40 rfl) <| Zm rfl (hd 41 rfl) <| Ac (Dw rfl rfl (Bf (by omega) (by omega))) (hd 42 rfl) <| Zm rfl (hd 43 rfl) <| Ac (Bd rfl rfl (Bf (by omega) (by omega))) (hd 44 rfl) <| Zm rfl (hd 45 rfl) <| Ac (Bk (Eh rfl rfl (by omega) rfl) (show V.i .u64 _ = V.i .u64 (((x / 4294967296 * (y % 4294967296) + x % 4294967296 * (y % 4294967296) / 4294967296) % 4294967296 + x % 4294967296 * (y / 4294967296)) / 4294967296) from congrArg _ (Ps (by omega)))) (hd 46 rfl) <| Ac (Bd rfl rfl (Bf (by omega) (by omega))) (hd 47 rfl) ?_
  refine Za rfl (hd 4 rfl) <| Ab <| Zs <| Zm rfl (hd 48 rfl) <| Zm rfl (hd 49 rfl) <| Ac (Dw rfl rfl (r := x * y % 18446744073709551616) Dv) (hd 50 rfl) <| Za rfl (hd 5 rfl) <| Ab <| An ?_
  refine ⟨_, _, (.cons rfl (.cons rfl .nil)), (.t1 .i (.t1 .i .t0)), ?_⟩
  rw [hhi]

theorem X5 (a b : List Int) (hla : a.length < 1099511627776) (hlb : b.length < 1099511627776) (ua : Av a) (ub : Av b) : Spec Tryz.prog 145 [.n false .u64 a, .n false .u64 b] (fun o => ∃ r, o = .ret (.n true .u64 r) ∧ Av r ∧ r.length = a.length + b.length ∧ vl r = vl a * vl b) := by
  refine Aw [(0, .n false .u64 a), (1, .n false .u64 b)] rfl Tryz.func145 rfl (Zb rfl) fun Γ hN hds hL hR => ?_
  have hd := B2 78 hN
  refine Zs <| Za rfl (hd 4 rfl) <| Ab <| Zs <| Zm rfl (hd 14 rfl) <| Ac (Ar A7 rfl) (hd 15 rfl) <| Zm rfl (hd 16 rfl) <| Ac (Ar A7 rfl) (hd 17 rfl) <| Ac (Bd rfl rfl (r := ((a.length + b.length : Nat) : Int)) (by rw [Ak (by omega) (by omega)]; omega)) (hd 18 rfl) <| A1 (Gv (m := a.length + b.length) Lg rfl rfl rfl (by show 8 * (a.length + b.length) ≤ _; omega) (by unfold maxLen; omega) rfl) (hd 19 rfl) <| Za rfl (hd 5 rfl) ?_; refine Ab <| Ae <| Zs <| Zm rfl (hd 20 rfl) <| Ac (Ar A7 rfl) (hd 21 rfl) <| Zm rfl (hd 22 rfl) <| Ab <| At ?_
  refine Ch (G := Nat × List Int) (fun g => g.1 ≤ a.length ∧ g.2.length = a.length + b.length ∧ Av g.2 ∧ vl g.2 = vk a g.1 * vl b ∧ ∀ j, g.1 + b.length ≤ j → g.2.getD j 0 = 0) (fun g => [(22, .i .i64 (g.1 : Int)), (6, .u), (7, .u), (8, .u), (9, .u), (10, .u), (11, .u), (12, .u), (13, .u), (23, .u), (24, .u), (25, .u), (26, .u), (27, .u), (28, .u), (29, .u), (30, .u), (31, .u), (32, .u), (33, .u), (34, .u), (35, .u), (36, .u), (37, .u), (38, .u), (39, .u), (40, .u), (41, .u), (42, .u), (43, .u), (44, .u), (45, .u), (46, .u), (47, .u), (48, .u), (49, .u), (50, .u), (51, .u), (52, .u), (53, .u), (54, .u), (55, .u), (56, .u), (57, .u), (58, .u), (59, .u), (60, .u), (61, .u), (62, .u), (63, .u), (64, .u), (65, .u), (66, .u), (67, .u), (68, .u), (69, .u), (70, .u), (71, .u), (72, .u), (73, .u), (74, .u), (75, .u), (76, .u)]) (fun g => [⟨71, 1, 0, true, ints .u64 g.2⟩]) (fun g => a.length - g.1) (0, List.replicate (a.length + b.length) 0) ?_ ?_ rfl ?_
  · exact ⟨Nat.zero_le _, List.length_replicate, Hj _, by rw [Hi, Tf, Int.zero_mul], fun j _ => S8 _ j⟩
  · exact (.cons rfl (.v9 (.v9 (.v9 (.v9 (.v9 (.v9 (.u (.u .nil)))))))))
  · rintro ⟨i, r⟩ ⟨hc1, hc2, hc3, hc4, hc5⟩
    dsimp only at hc1 hc2 hc3 hc4 hc5
    have hX := A2 ua i
    refine Zs <| Ac (Ca rfl rfl) (hd 23 rfl) <| Ab <| Ae ?_
    refine Bh rfl (fun h1 => ?_) (fun h1 => ?_)
    · refine Aj <| Ae <| At <| Zs <| Zm rfl (hd 24 rfl) <| Ac (Cc (i := i) A7 rfl rfl (by first | rfl | omega) (by omega)) (hd 25 rfl) <| Ac (B8 Bu rfl rfl) (hd 26 rfl) <| Za rfl (hd 6 rfl) <| Za rfl (hd 7 rfl) <| Ab <| Ae <| Af ?_; refine Za rfl (hd 8 rfl) <| Ab <| Ae <| Zs <| Zm rfl (hd 27 rfl) <| Ac (Ar A7 rfl) (hd 28 rfl) <| Zm rfl (hd 29 rfl) <| Ab <| At ?_
      refine Ch (G := Nat × List Int × Int) (fun g => g.1 ≤ b.length ∧ g.2.1.length = a.length + b.length ∧ Av g.2.1 ∧ (0 ≤ g.2.2 ∧ g.2.2 < 18446744073709551616) ∧ vl g.2.1 + g.2.2 * pB (i + g.1) = vl r + a.getD i 0 * pB i * vk b g.1 ∧ ∀ j, i + b.length ≤ j → g.2.1.getD j 0 = 0) (fun g => [(8, .i .u64 g.2.2), (29, .i .i64 (g.1 : Int)), (9, .u), (10, .u), (11, .u), (12, .u), (13, .u), (30, .u), (31, .u), (32, .u), (33, .u), (34, .u), (35, .u), (36, .u), (37, .u), (38, .u), (39, .u), (40, .u), (41, .u), (42, .u), (43, .u), (44, .u), (45, .u), (46, .u), (47, .u), (48, .u), (49, .u), (50, .u), (51, .u), (52, .u), (53, .u), (54, .u), (55, .u), (56, .u), (57, .u), (58, .u), (59, .u), (60, .u), (61, .u), (62, .u), (63, .u), (64, .u), (65, .u), (66, .u), (67, .u), (68, .u)]) (fun g => [⟨71, 1, 0, true, ints .u64 g.2.1⟩]) (fun g => b.length - g.1) (0, r, 0) ?_ ?_ rfl ?_
      · exact ⟨Nat.zero_le _, hc2, hc3, ⟨Int.le_refl 0, by show (0 : Int) < _; decide⟩, by show vl r + 0 * _ = _ + _ * vk b 0; rw [Tf, Int.mul_zero, Int.zero_mul], hc5⟩
      · exact (.cons rfl (.cons rfl (.v9 (.v9 (.v9 (.v9 (.u (.u (.u (.u .nil))))))))))
      · rintro ⟨k, q, c⟩ ⟨hd1, hd2, hd3, hd4, hd5, hd6⟩
        dsimp only at hd1 hd2 hd3 hd4 hd5 hd6
        have hY := A2 ub k
        have hT := A2 hd3 (i + k)
        have hP := Ji (m := 18446744073709551615) hX.1 hY.1 (by omega) (by omega)
        have hP2 : a.getD i 0 * b.getD k 0 ≤ 340282366920938463426481119284349108225 := by have := hP.2; simpa using this
        have hst := Pu (P := a.getD i 0 * b.getD k 0) (c := c) (t := q.getD (i + k) 0) hP.1 hP2 hd4.1 hd4.2 hT.1 hT.2
        obtain ⟨hs1, hs2, hs3, hs4, hs5⟩ := hst
        refine Zs <| Ac (Ca rfl rfl) (hd 30 rfl) <| Ab <| Ae ?_
        refine Bh rfl (fun h2 => ?_) (fun h2 => ?_)
        · refine Aj <| Ae <| At <| Zs <| Zm rfl (hd 31 rfl) <| Ac (Cc (i := k) A7 rfl rfl (by first | rfl | omega) (by omega)) (hd 32 rfl) <| Ac (B8 Bu rfl rfl) (hd 33 rfl) <| Za rfl (hd 9 rfl) <| Za rfl (hd 10 rfl) <| Ab <| Ae <| Af ?_; refine Zm rfl (hd 35 rfl) <| Zm rfl (hd 36 rfl) ?_
          refine Ag Tryz.f140 (Qx (a.getD i 0) (b.getD k 0) hX.1 hX.2 hY.1 hY.2) rfl Tryz.func140 rfl rfl (Aa rfl (Aa rfl Ad)) (.cons .i (.cons .i .nil)) (hd 37 rfl) ?_ (fun _ h => by simp at h)
          rintro _ ⟨⟩; refine Zm rfl (hd 34 rfl) <| Ac (Ai rfl rfl) (hd 38 rfl) <| Ac (Ai rfl rfl) (hd 39 rfl) <| Za rfl (hd 11 rfl) <| Za rfl (hd 12 rfl) <| Ab <| Zs <| Za rfl (hd 13 rfl) <| Ab <| Zs <| Zm rfl (hd 41 rfl) ?_; refine Zm rfl (hd 42 rfl) <| A1 (Eg (e := add64Entry) Tryz.func123 rfl rfl (by kernel_rfl) (by kernel_rfl) rfl rfl rfl (fun w => run_add64 _ _ _ (by omega) hd4.1 (by decide) (by decide) w) Dp) (hd 43 rfl) <| Zm rfl (hd 40 rfl) <| Ac (Ai rfl rfl) (hd 44 rfl) <| Ac (Ai rfl rfl) (hd 45 rfl) <| Za rfl (hd 12 rfl) <| Za rfl (hd 13 rfl) <| Ab <| Zs <| Zm rfl (hd 46 rfl) <| Zm rfl (hd 47 rfl) <| Ac (Bd rfl rfl (Bf (by omega) (by omega))) (hd 48 rfl) ?_; refine Za rfl (hd 11 rfl) <| Ab <| Zs <| Zm rfl (hd 50 rfl) <| Zm rfl (hd 51 rfl) <| Zm rfl (hd 52 rfl) <| Ac (Bd rfl rfl (r := ((i + k : Nat) : Int)) (by rw [Ak (by omega) (by omega)]; omega)) (hd 53 rfl) <| Zm rfl (hd 54 rfl) <| Zm rfl (hd 55 rfl) <| Zm rfl (hd 56 rfl) <| Ac (Bd rfl rfl (r := ((i + k : Nat) : Int)) (by rw [Ak (by omega) (by omega)]; omega)) (hd 57 rfl) <| Ac (Ck (i := i + k) A7 rfl rfl rfl (by first | rfl | omega) (by omega) rfl) (hd 58 rfl) ?_; refine Ac (Bk (Ee Bu rfl rfl (by dsimp only; omega)) (show V.i .u64 (q.getD ((0 + (i + k)) * 1) 0) = V.i .u64 (q.getD (i + k) 0) by rw [Nat.zero_add, Nat.mul_one])) (hd 59 rfl) <| Zm rfl (hd 60 rfl) <| A1 (Eg (e := add64Entry) Tryz.func123 rfl rfl (by kernel_rfl) (by kernel_rfl) rfl rfl rfl (fun w => run_add64 _ _ _ hT.1 (by omega) (by decide) (by decide) w) Dp) (hd 61 rfl) <| Zm rfl (hd 49 rfl) <| Ac (Ai rfl rfl) (hd 62 rfl) <| Ac (Ai rfl rfl) (hd 63 rfl) <| Ac (Ck (i := i + k) A7 rfl rfl rfl (by first | rfl | omega) (by omega) rfl) (hd 64 rfl) <| A3 (Cf rfl rfl rfl Bu (by dsimp only; omega)) <| Za rfl (hd 13 rfl) <| Ab <| Af <| Zm rfl (hd 65 rfl) <| Zm rfl (hd 66 rfl) ?_; refine Ac (Bd rfl rfl (Bf (by omega) (by omega))) (hd 67 rfl) <| Za rfl (hd 8 rfl) <| Ab <| Af <| Ac (Bd rfl rfl (Ak (by omega) (by omega))) (hd 68 rfl) <| Zm rfl (hd 29 rfl) <| Ab ?_
          refine ⟨(k + 1, q.set ((0 + (i + k)) * 1) ((q.getD (i + k) 0 + (a.getD i 0 * b.getD k 0 % 18446744073709551616 + c + 0) % 18446744073709551616 + 0) % 18446744073709551616), a.getD i 0 * b.getD k 0 / 18446744073709551616 + (a.getD i 0 * b.getD k 0 % 18446744073709551616 + c + 0) / 18446744073709551616 + (q.getD (i + k) 0 + (a.getD i 0 * b.getD k 0 % 18446744073709551616 + c + 0) % 18446744073709551616 + 0) / 18446744073709551616), ?_, ?_, rfl, Bj 96 rfl rfl ?_⟩
          · refine ⟨by omega, by rw [List.length_set]; exact hd2, Js hd3 (by omega) (by omega), ⟨hs3, hs4⟩, ?_, fun j hj => ?_⟩
            · exact Oa (by omega) (by rw [Nat.zero_add, Nat.mul_one]) rfl hd5 hs5
            · rw [Nat.zero_add, Nat.mul_one, R4 (by omega)]; exact hd6 j hj
          · show b.length - (k + 1) < b.length - k
            omega
          · exact (.cons rfl (.cons rfl (.v9 (.v9 (.v9 (.v9 (.u (.u (.u (.u .nil))))))))))
        · obtain rfl : k = b.length := by omega
          refine Br <| Af <| Zm rfl (hd 69 rfl) <| Zm rfl (hd 70 rfl) <| Zm rfl (hd 71 rfl) <| Ac (Ar A7 rfl) (hd 72 rfl) <| Ac (Bd rfl rfl (r := ((i + b.length : Nat) : Int)) (by rw [Ak (by omega) (by omega)]; omega)) (hd 73 rfl) <| Zm rfl (hd 74 rfl) <| Ac (Ck (i := i + b.length) A7 rfl rfl rfl (by first | rfl | omega) (by omega) rfl) (hd 75 rfl) <| A3 (Cf rfl rfl rfl Bu (by dsimp only; omega)) <| Ab <| Af <| Ac (Bd rfl rfl (Ak (by omega) (by omega))) (hd 76 rfl) ?_; refine Zm rfl (hd 22 rfl) <| Ab ?_
          refine ⟨(i + 1, q.set ((0 + (i + b.length)) * 1) c), ?_, ?_, rfl, Bj 129 (by kernel_rfl) (by kernel_rfl) ?_⟩
          · exact ⟨by omega, by rw [List.length_set]; exact hd2, Js hd3 hd4.1 hd4.2, Lr (by omega) (hd6 _ (Nat.le_refl _)) (by rw [Nat.zero_add, Nat.mul_one]) (by rw [hd5, hc4]), fun j hj => by rw [Nat.zero_add, Nat.mul_one, R4 (by omega)]; exact hd6 j (by omega)⟩
          · show a.length - (i + 1) < a.length - i
            omega
          · exact (.cons rfl (.v9 (.v9 (.v9 (.v9 (.v9 (.v9 (.u (.u .nil)))))))))
    · refine Br <| Zs <| Zm rfl (hd 77 rfl) <| Za rfl (hd 4 rfl) <| Ab <| An ?_
      refine ⟨_, _, (.cons rfl .nil), (.o (l := r) rfl (by omega) rfl), ?_⟩
      rw [List.drop_zero, List.take_of_length_le (by omega)]
      exact ⟨r, rfl, hc3, hc2, by rw [hc4, Du (by omega)]⟩

theorem Je (r b : List Int) (n at_ : Nat) (hr : r.length = n) (hn : n < 4398046511104) (hat : at_ < 4398046511104) (hlb : b.length < 4398046511104) (ur : Av r) (ub : Av b) (hfit : vl r + pB at_ * vl b < pB n) : SpecM Tryz.prog 146 [.o 0 0 0 n, .n false .u64 b, .i .i64 (at_ : Int)] ([⟨71, 1, 0, true, ints .u64 r⟩]) (fun o H' => o = .ret (.t []) ∧ ∃ r2, H' = [⟨71, 1, 0, true, ints .u64 r2⟩] ∧ r2.length = n ∧ Av r2 ∧ vl r2 = vl r + pB at_ * vl b) := by
  refine Q7 [(0, .o 0 0 0 n), (1, .n false .u64 b), (2, .i .i64 (at_ : Int))] rfl (1) rfl Tryz.func146 rfl (Zb rfl) fun Γ hN hds => ?_
  have hd := B2 53 hN
  refine Zs <| Za rfl (hd 6 rfl) <| Ab <| Zs <| Zm rfl (hd 9 rfl) <| Za rfl (hd 7 rfl) <| Ab <| At ?_
  refine Ch (G := Nat × List Int × Int) (fun g => at_ ≤ g.1 ∧ g.1 ≤ n + at_ ∧ g.2.1.length = n ∧ Av g.2.1 ∧ vl g.2.1 + g.2.2 * pB g.1 = vl r + pB at_ * vk b (g.1 - at_) ∧ 0 ≤ g.2.2 ∧ g.2.2 ≤ 1) (fun g => [(6, .i .u64 g.2.2), (7, .i .i64 (g.1 : Int)), (8, .u), (10, .u), (11, .u), (12, .u), (13, .u), (14, .u), (15, .u), (16, .u), (17, .u), (18, .u), (19, .u), (20, .u), (21, .u), (22, .u), (23, .u), (24, .u), (25, .u), (26, .u), (27, .u), (28, .u), (29, .u), (30, .u), (31, .u), (32, .u), (33, .u), (34, .u), (35, .u), (36, .u), (37, .u), (38, .u), (39, .u), (40, .u), (41, .u), (42, .u), (43, .u), (44, .u), (45, .u), (46, .u), (47, .u), (48, .u), (49, .u), (50, .u), (51, .u), (52, .u)]) (fun g => [⟨71, 1, 0, true, ints .u64 g.2.1⟩]) (fun g => n - g.1) (at_, r, 0) ?_ ?_ rfl ?_
  · exact ⟨Nat.le_refl _, by show at_ ≤ n + at_; omega, hr, ur, by show vl r + 0 * _ = _ + _ * vk b (at_ - at_); rw [Nat.sub_self, Tf, Int.mul_zero, Int.zero_mul], Int.le_refl 0, (by decide : (0 : Int) ≤ 1)⟩
  · exact (.cons rfl (.cons rfl (.v9 (.v9 (.v9 (.v9 (.u (.u (.u (.u .nil))))))))))
  · rintro ⟨i, q, c⟩ ⟨hc1, hc0, hc3, hc4, hc5, hc6, hc7⟩
    dsimp only at hc1 hc0 hc3 hc4 hc5 hc6 hc7
    have hT := A2 hc4 i
    have hY := A2 ub (i - at_)
    refine Ae <| Zs <| Zm rfl (hd 10 rfl) <| Zm rfl (hd 11 rfl) <| Ac (E7 A7 rfl rfl) (hd 12 rfl) <| Ac (Ca rfl rfl) (hd 13 rfl) <| Zm rfl (hd 14 rfl) ?_
    refine Ez 14 rfl (fun h1 => ?_) (fun h1 => ?_)
    · refine Bi 14 rfl rfl (Ay rfl) (hd 15 rfl) <| Bi 14 rfl rfl (Ay rfl) (hd 16 rfl) <| Bi 14 rfl rfl (Bm rfl rfl (r := ((i - at_ : Nat) : Int)) (by rw [Ak (by omega) (by omega)]; omega)) (hd 17 rfl) <| Bi 14 rfl rfl (Ay rfl) (hd 18 rfl) <| Bi 14 rfl rfl (Ar A7 rfl) (hd 19 rfl) <| Bi 14 rfl rfl (Ca rfl rfl) (hd 20 rfl) <| Bi 14 rfl rfl (Ay rfl) (hd 21 rfl) ?_
      refine Ez 21 rfl (fun h2 => ?_) (fun h2 => ?_)
      · refine Bz 21 rfl rfl rfl (hd 22 rfl) <| Bz 21 rfl rfl rfl (hd 23 rfl) <| Bi 14 rfl rfl (Bt rfl rfl) (hd 24 rfl) <| Ac (Bt rfl rfl) (hd 25 rfl) <| Ab <| Cw rfl <| Aj <| Ae <| At <| Zs <| Za rfl (hd 8 rfl) <| Ab ?_
        refine C9 (G := Unit) (fun _ => True) (fun _ => [(8, .i .u64 (b.getD (i - at_) 0)), (28, .u), (29, .u), (30, .u), (31, .u), (32, .u), (33, .u), (34, .u), (35, .u), (36, .u), (37, .u), (38, .u), (39, .u)]) ?_ ?_
        · refine Zs <| Zm rfl (hd 28 rfl) <| Zm rfl (hd 29 rfl) <| Ac (Bm rfl rfl (r := ((i - at_ : Nat) : Int)) (by rw [Ak (by omega) (by omega)]; omega)) (hd 30 rfl) <| Zm rfl (hd 31 rfl) <| Ac (Ar A7 rfl) (hd 32 rfl) <| Ac (Ca rfl rfl) (hd 33 rfl) <| Ab ?_
          refine Bh rfl (fun h4 => ?_) (fun h4 => ?_)
          · refine Af <| Zm rfl (hd 34 rfl) <| Zm rfl (hd 35 rfl) <| Zm rfl (hd 36 rfl) <| Ac (Bm rfl rfl (r := ((i - at_ : Nat) : Int)) (by rw [Ak (by omega) (by omega)]; omega)) (hd 37 rfl) <| Ac (Cc (i := i - at_) A7 rfl rfl (by first | rfl | omega) (by first | omega | (dsimp only; omega))) (hd 38 rfl) <| Ac (B8 Bu rfl rfl) (hd 39 rfl) <| Za rfl (hd 8 rfl) <| Ab ?_
            refine ⟨(), ?_, rfl, Bj 13 rfl rfl ?_⟩
            · trivial
            · exact (.cons (by first | rfl | (show some (V.i .u64 _) = some (V.i .u64 _); rw [Ds (by omega)])) (.v9 (.u (.u .nil))))
          · refine Aj ?_
            refine ⟨(), ?_, rfl, Bj 6 rfl rfl ?_⟩
            · trivial
            · exact (.cons (by first | rfl | (show some (V.i .u64 _) = some (V.i .u64 _); rw [Ds (by omega)])) (.v9 (.u (.u .nil))))
        · rintro _ _; refine Af <| Zm rfl (hd 41 rfl) <| Zm rfl (hd 42 rfl) <| Zm rfl (hd 43 rfl) <| Zm rfl (hd 44 rfl) <| Ac (Ck (i := i) A7 rfl rfl rfl (by first | rfl | omega) (by first | omega | (dsimp only; omega)) rfl) (hd 45 rfl) <| Ac (Bk (Ee Bu rfl rfl (by first | omega | (dsimp only; omega))) (show V.i .u64 (q.getD ((0 + i) * 1) 0) = V.i .u64 (q.getD i 0) by rw [Nat.zero_add, Nat.mul_one])) (hd 46 rfl) <| Zm rfl (hd 47 rfl) <| Zm rfl (hd 48 rfl) <| A1 (Eg (e := add64Entry) Tryz.func123 rfl rfl (by kernel_rfl) (by kernel_rfl) rfl rfl rfl (fun w => run_add64 _ _ _ hT.1 hY.1 hc6 hc7 w) Dp) (hd 49 rfl) <| Zm rfl (hd 40 rfl) <| Ac (Ai rfl rfl) (hd 50 rfl) <| Ac (Ai rfl rfl) (hd 51 rfl) ?_; refine Ac (Ck (i := i) A7 rfl rfl rfl (by first | rfl | omega) (by first | omega | (dsimp only; omega)) rfl) (hd 52 rfl) <| A3 (Cf rfl rfl rfl Bu (by first | omega | (dsimp only; omega))) <| Za rfl (hd 6 rfl) <| Ab <| Af <| Zm rfl (hd 26 rfl) <| Ac (Bd rfl rfl (Ak (by first | omega | (dsimp only; omega)) (by first | omega | (dsimp only; omega)))) (hd 27 rfl) <| Za rfl (hd 7 rfl) <| Ab ?_
          refine ⟨(i + 1, q.set ((0 + i) * 1) ((q.getD i 0 + b.getD (i - at_) 0 + c) % 18446744073709551616), (q.getD i 0 + b.getD (i - at_) 0 + c) / 18446744073709551616), ?_, ?_, rfl, Bj 95 rfl rfl ?_⟩
          · exact ⟨by omega, by omega, by rw [List.length_set]; exact hc3, Js hc4 (by omega) (by omega), Ab5 (by omega) hc1 (by rw [Nat.zero_add, Nat.mul_one]) hc5 (by dsimp only; omega), by show 0 ≤ (q.getD i 0 + b.getD (i - at_) 0 + c) / 18446744073709551616; omega, by show (q.getD i 0 + b.getD (i - at_) 0 + c) / 18446744073709551616 ≤ 1; omega⟩
          · show n - (i + 1) < n - i
            omega
          · exact (.cons rfl (.cons rfl (.v9 (.v9 (.v9 (.v9 (.u (.u (.u (.u .nil))))))))))
      · refine Bi 21 rfl rfl (Ay rfl) (hd 22 rfl) <| Bi 21 rfl rfl (Ce rfl rfl) (hd 23 rfl) <| Bi 14 rfl rfl (Bg rfl rfl) (hd 24 rfl) <| Ac (Bt rfl rfl) (hd 25 rfl) <| Ab ?_
        refine Bh rfl (fun h5 => ?_) (fun h5 => ?_)
        · refine Aj <| Ae <| At <| Zs <| Za rfl (hd 8 rfl) <| Ab ?_
          refine C9 (G := Unit) (fun _ => True) (fun _ => [(8, .i .u64 (b.getD (i - at_) 0)), (28, .u), (29, .u), (30, .u), (31, .u), (32, .u), (33, .u), (34, .u), (35, .u), (36, .u), (37, .u), (38, .u), (39, .u)]) ?_ ?_
          · refine Zs <| Zm rfl (hd 28 rfl) <| Zm rfl (hd 29 rfl) <| Ac (Bm rfl rfl (r := ((i - at_ : Nat) : Int)) (by rw [Ak (by omega) (by omega)]; omega)) (hd 30 rfl) <| Zm rfl (hd 31 rfl) <| Ac (Ar A7 rfl) (hd 32 rfl) <| Ac (Ca rfl rfl) (hd 33 rfl) <| Ab ?_
            refine Bh rfl (fun h6 => ?_) (fun h6 => ?_)
            · refine Af <| Zm rfl (hd 34 rfl) <| Zm rfl (hd 35 rfl) <| Zm rfl (hd 36 rfl) <| Ac (Bm rfl rfl (r := ((i - at_ : Nat) : Int)) (by rw [Ak (by omega) (by omega)]; omega)) (hd 37 rfl) <| Ac (Cc (i := i - at_) A7 rfl rfl (by first | rfl | omega) (by first | omega | (dsimp only; omega))) (hd 38 rfl) <| Ac (B8 Bu rfl rfl) (hd 39 rfl) <| Za rfl (hd 8 rfl) <| Ab ?_
              refine ⟨(), ?_, rfl, Bj 13 rfl rfl ?_⟩
              · trivial
              · exact (.cons (by first | rfl | (show some (V.i .u64 _) = some (V.i .u64 _); rw [Ds (by omega)])) (.v9 (.u (.u .nil))))
            · refine Aj ?_
              refine ⟨(), ?_, rfl, Bj 6 rfl rfl ?_⟩
              · trivial
              · exact (.cons (by first | rfl | (show some (V.i .u64 _) = some (V.i .u64 _); rw [Ds (by omega)])) (.v9 (.u (.u .nil))))
          · rintro _ _; refine Af <| Zm rfl (hd 41 rfl) <| Zm rfl (hd 42 rfl) <| Zm rfl (hd 43 rfl) <| Zm rfl (hd 44 rfl) <| Ac (Ck (i := i) A7 rfl rfl rfl (by first | rfl | omega) (by first | omega | (dsimp only; omega)) rfl) (hd 45 rfl) <| Ac (Bk (Ee Bu rfl rfl (by first | omega | (dsimp only; omega))) (show V.i .u64 (q.getD ((0 + i) * 1) 0) = V.i .u64 (q.getD i 0) by rw [Nat.zero_add, Nat.mul_one])) (hd 46 rfl) <| Zm rfl (hd 47 rfl) <| Zm rfl (hd 48 rfl) <| A1 (Eg (e := add64Entry) Tryz.func123 rfl rfl (by kernel_rfl) (by kernel_rfl) rfl rfl rfl (fun w => run_add64 _ _ _ hT.1 hY.1 hc6 hc7 w) Dp) (hd 49 rfl) <| Zm rfl (hd 40 rfl) <| Ac (Ai rfl rfl) (hd 50 rfl) <| Ac (Ai rfl rfl) (hd 51 rfl) ?_; refine Ac (Ck (i := i) A7 rfl rfl rfl (by first | rfl | omega) (by first | omega | (dsimp only; omega)) rfl) (hd 52 rfl) <| A3 (Cf rfl rfl rfl Bu (by first | omega | (dsimp only; omega))) <| Za rfl (hd 6 rfl) <| Ab <| Af <| Zm rfl (hd 26 rfl) <| Ac (Bd rfl rfl (Ak (by first | omega | (dsimp only; omega)) (by first | omega | (dsimp only; omega)))) (hd 27 rfl) <| Za rfl (hd 7 rfl) <| Ab ?_
            refine ⟨(i + 1, q.set ((0 + i) * 1) ((q.getD i 0 + b.getD (i - at_) 0 + c) % 18446744073709551616), (q.getD i 0 + b.getD (i - at_) 0 + c) / 18446744073709551616), ?_, ?_, rfl, Bj 95 rfl rfl ?_⟩
            · exact ⟨by omega, by omega, by rw [List.length_set]; exact hc3, Js hc4 (by omega) (by omega), Ab5 (by omega) hc1 (by rw [Nat.zero_add, Nat.mul_one]) hc5 (by dsimp only; omega), by show 0 ≤ (q.getD i 0 + b.getD (i - at_) 0 + c) / 18446744073709551616; omega, by show (q.getD i 0 + b.getD (i - at_) 0 + c) / 18446744073709551616 ≤ 1; omega⟩
            · show n - (i + 1) < n - i
              omega
            · exact (.cons rfl (.cons rfl (.v9 (.v9 (.v9 (.v9 (.u (.u (.u (.u .nil))))))))))
        · refine Br ?_
          refine ⟨_, .nil, rfl, (.cons Bc .nil), ?_⟩
          exact ⟨rfl, q, rfl, hc3, hc4, W5 hc4 ur ub hc6 hc1 hfit (by dsimp only at *; first | (left; omega) | (right; omega)) hc5⟩
    · refine Bz 14 rfl rfl rfl (hd 15 rfl) <| Bz 14 rfl rfl rfl (hd 16 rfl) <| Bz 14 rfl rfl rfl (hd 17 rfl) <| Bz 14 rfl rfl rfl (hd 18 rfl) <| Bz 14 rfl rfl rfl (hd 19 rfl) <| Bz 14 rfl rfl rfl (hd 20 rfl) <| Bz 14 rfl rfl rfl (hd 21 rfl) <| Nb 21 rfl rfl (hd 22 rfl) <| Nb 21 rfl rfl (hd 23 rfl) <| Bz 14 rfl rfl rfl (hd 24 rfl) <| Ac (Bg rfl rfl) (hd 25 rfl) <| Ab <| A6 rfl ?_; refine Br ?_
      refine ⟨_, .nil, rfl, (.cons Bc .nil), ?_⟩
      exact ⟨rfl, q, rfl, hc3, hc4, W5 hc4 ur ub hc6 hc1 hfit (by dsimp only at *; first | (left; omega) | (right; omega)) hc5⟩

theorem Agg (a b : List Int) (hla : a.length < 1099511627776) (hlb : b.length < 1099511627776) (ua : Av a) (ub : Av b) : Spec Tryz.prog 149 [.n false .u64 a, .n false .u64 b] (fun o => ∃ r, o = .ret (.n true .u64 r) ∧ Av r ∧ r.length = max a.length b.length + 1 ∧ vl r = vl a + vl b) := by
  refine Aw [(0, .n false .u64 a), (1, .n false .u64 b)] rfl Tryz.func149 rfl (Zb rfl) fun Γ hN hds hL hR => ?_
  have hd := B2 20 hN
  have hl0 : (a ++ (List.replicate (max a.length b.length + 1) 0).drop a.length).length = max a.length b.length + 1 := by simp; omega
  have hv0 : vl (a ++ (List.replicate (max a.length b.length + 1) (0 : Int)).drop a.length) = vl a := by rw [D8, List.drop_replicate, Hi, Int.mul_zero, Int.add_zero]
  have hfa := E2 ua
  have hfb := E2 ub
  have hpa := Fs (show a.length ≤ max a.length b.length by omega)
  have hpb := Fs (show b.length ≤ max a.length b.length by omega)
  have hpp := Dh (max a.length b.length)
  refine Zs <| Za rfl (hd 4 rfl) <| Ab <| Zs <| Zm rfl (hd 6 rfl) <| Ac (Ar A7 rfl) (hd 7 rfl) <| Zm rfl (hd 8 rfl) <| Ac (Ar A7 rfl) (hd 9 rfl) <| Ac (Ahk rfl rfl) (hd 10 rfl) <| Ac (Bd rfl rfl (r := ((max a.length b.length + 1 : Nat) : Int)) (by rw [Ak (by omega) (by omega)]; omega)) (hd 11 rfl) <| A1 (Gv (m := max a.length b.length + 1) Lg rfl rfl rfl (by show 8 * (max a.length b.length + 1) ≤ _; omega) (by unfold maxLen; omega) rfl) (hd 12 rfl) ?_; refine Za rfl (hd 5 rfl) <| Ab <| Zs <| Zm rfl (hd 13 rfl) <| Zm rfl (hd 14 rfl) <| Vp Tq Aa3 rfl rfl List.length_replicate rfl (by omega) (hd 15 rfl) <| Ab <| Zs <| Zm rfl (hd 16 rfl) <| Zm rfl (hd 17 rfl) ?_
  refine Gu Tryz.f146 (Je (a ++ (List.replicate (max a.length b.length + 1) 0).drop a.length) b (max a.length b.length + 1) 0 hl0 (by omega) (by omega) (by omega) (Mn ua (Fb (Hj _) _)) ub (by rw [hv0]; simp only [pB, Int.one_mul]; have : Bs = 18446744073709551616 := rfl; rw [this]; omega)) rfl Tryz.func146 rfl rfl (Aa rfl (Aa rfl (Aa rfl Ad))) (.cons (.same rfl) (.cons .n (.cons (.same rfl) .nil))) (De Fe Dz) (hd 18 rfl) ?_ (fun ch H2 hp => by simp at hp)
  rintro y H2 ⟨hy, r2, rfl, hl2, hu2, hv2⟩; injection hy with hy; subst hy; refine Ab <| Zs <| Zm rfl (hd 19 rfl) <| Za rfl (hd 4 rfl) <| Ab <| An ?_
  refine ⟨_, _, (.cons rfl .nil), (.o (l := r2) rfl (by omega) rfl), ?_⟩
  rw [List.drop_zero, List.take_of_length_le (by omega)]
  exact ⟨r2, rfl, hu2, hl2, by rw [hv2, hv0]; simp only [pB, Int.one_mul]⟩

theorem Abq (a b : List Int) (hla : a.length < 1099511627776) (hlb : b.length < 1099511627776) (ua : Av a) (ub : Av b) (hle : vl b ≤ vl a) : Spec Tryz.prog 148 [.n false .u64 a, .n false .u64 b] (fun o => ∃ r, o = .ret (.n true .u64 r) ∧ Av r ∧ r.length = a.length ∧ vl r = vl a - vl b) := by
  refine Aw [(0, .n false .u64 a), (1, .n false .u64 b)] rfl Tryz.func148 rfl (Zb rfl) fun Γ hN hds hL hR => ?_
  have hd := B2 43 hN
  refine Zs <| Za rfl (hd 4 rfl) <| Ab <| Zs <| Zm rfl (hd 9 rfl) <| Ac (Ar A7 rfl) (hd 10 rfl) <| A1 (Gv (m := a.length) Lg rfl rfl rfl (by show 8 * a.length ≤ _; omega) (by unfold maxLen; omega) rfl) (hd 11 rfl) <| Za rfl (hd 5 rfl) <| Ab <| Ae <| Af ?_; refine Zm rfl (hd 12 rfl) <| Zm rfl (hd 13 rfl) <| Vp Tq Aa3 rfl rfl List.length_replicate rfl (Nat.le_refl _) (hd 14 rfl) <| Ab <| Zs <| Za rfl (hd 6 rfl) <| Ab <| Ae <| Ae <| Nv (H' := [⟨71, 1, 0, true, ints .u64 ((sbN a b 0).1 ++ a.drop 0)⟩]) (by show [(⟨71, 1, 0, true, ints .u64 (a ++ (List.replicate a.length 0).drop a.length)⟩ : Ob)] = _; rw [List.drop_eq_nil_of_le (by simp), List.append_nil]; rfl) <| Af <| Zm rfl (hd 15 rfl) ?_; refine Ac (E7 A7 rfl rfl) (hd 16 rfl) <| Zm rfl (hd 17 rfl) <| Ab <| At ?_
  refine Ch (G := Nat) (fun i => i ≤ a.length) (fun i => [(6, .i .u64 (sbN a b i).2), (17, .i .i64 (i : Int)), (7, .u), (8, .u), (18, .u), (19, .u), (20, .u), (21, .u), (22, .u), (23, .u), (24, .u), (25, .u), (26, .u), (27, .u), (28, .u), (29, .u), (30, .u), (31, .u), (32, .u), (33, .u), (34, .u), (35, .u), (36, .u), (37, .u), (38, .u), (39, .u), (40, .u), (41, .u)]) (fun i => [⟨71, 1, 0, true, ints .u64 ((sbN a b i).1 ++ a.drop i)⟩]) (fun i => a.length - i) 0 ?_ ?_ rfl ?_
  · exact Nat.zero_le _
  · exact (.cons rfl (.cons rfl (.v9 (.v9 (.v5 (.u .nil))))))
  · rintro i hc1
    have hf := Acu (b := b) hc1
    have hc := Sz a b i
    have hx := A2 ua i
    have hy := A2 ub i
    refine Zs <| Ac (Ca rfl rfl) (hd 18 rfl) <| Ab <| Ae ?_
    refine Bh rfl (fun h1 => ?_) (fun h1 => ?_)
    · refine Aj <| Ae <| At <| Zs <| Zm rfl (hd 19 rfl) <| Za rfl (hd 7 rfl) <| Ab <| Zs <| Za rfl (hd 8 rfl) <| Ab ?_
      refine C9 (G := Unit) (fun _ => True) (fun _ => [(8, .i .u64 (b.getD i 0)), (20, .u), (21, .u), (22, .u), (23, .u), (24, .u), (25, .u), (26, .u), (27, .u)]) ?_ ?_
      · refine Zs <| Zm rfl (hd 20 rfl) <| Zm rfl (hd 21 rfl) <| Ac (Ar A7 rfl) (hd 22 rfl) <| Ac (Ca rfl rfl) (hd 23 rfl) <| Ab ?_
        refine Bh rfl (fun h2 => ?_) (fun h2 => ?_)
        · refine Af <| Zm rfl (hd 24 rfl) <| Zm rfl (hd 25 rfl) <| Ac (Cc (i := i) A7 rfl rfl (by first | rfl | omega) (by omega)) (hd 26 rfl) <| Ac (B8 Bu rfl rfl) (hd 27 rfl) <| Za rfl (hd 8 rfl) <| Ab ?_
          refine ⟨(), ?_, rfl, Bj 9 rfl rfl ?_⟩
          · trivial
          · exact (.cons (by first | rfl | (show some (V.i .u64 _) = some (V.i .u64 _); rw [Ds (by omega)])) (.v5 (.u (.u (.u .nil)))))
        · refine Aj ?_
          refine ⟨(), ?_, rfl, Bj 4 rfl rfl ?_⟩
          · trivial
          · exact (.cons (by first | rfl | (show some (V.i .u64 _) = some (V.i .u64 _); rw [Ds (by omega)])) (.v5 (.u (.u (.u .nil)))))
      · rintro _ _; refine Af <| Zm rfl (hd 29 rfl) <| Zm rfl (hd 30 rfl) <| Zm rfl (hd 31 rfl) <| Zm rfl (hd 32 rfl) <| Ac (Ck (i := i) A7 rfl rfl rfl (by first | rfl | omega) (by omega) rfl) (hd 33 rfl) <| Ac (Bk (Ee Bu rfl rfl (by omega)) (show V.i .u64 (((sbN a b i).1 ++ a.drop i).getD ((0 + i) * 1) 0) = V.i .u64 (a.getD i 0) by rw [Nat.zero_add, Nat.mul_one, Agh (by omega)])) (hd 34 rfl) <| Zm rfl (hd 35 rfl) <| Zm rfl (hd 36 rfl) <| A1 (Eg (e := E4) Tryz.func124 rfl rfl (by kernel_rfl) (by kernel_rfl) rfl rfl rfl (fun w => G5 _ _ _ hx.1 hx.2 hy.1 hy.2 hc.1 hc.2 w) Dp) (hd 37 rfl) <| Zm rfl (hd 28 rfl) <| Ac (Ai rfl rfl) (hd 38 rfl) <| Ac (Ai rfl rfl) (hd 39 rfl) ?_; refine Ac (Ck (i := i) A7 rfl rfl rfl (by first | rfl | omega) (by omega) rfl) (hd 40 rfl) <| A3 (Cf rfl rfl rfl Bu (by omega)) <| Za rfl (hd 6 rfl) <| Ab <| Af <| Ac (Bd rfl rfl (Ak (by omega) (by omega))) (hd 41 rfl) <| Zm rfl (hd 17 rfl) <| Ab ?_
        refine ⟨i + 1, ?_, ?_, (by show [(⟨71, 1, 0, true, ints .u64 _⟩ : Ob)] = [⟨71, 1, 0, true, ints .u64 _⟩]; rw [X0 (by omega)]), Bj 57 rfl rfl ?_⟩
        · omega
        · omega
        · exact (.cons rfl (.cons rfl (.v9 (.v9 (.v5 (.u .nil))))))
    · obtain rfl : i = a.length := by omega
      refine Br <| Zs <| Zm rfl (hd 42 rfl) <| Za rfl (hd 4 rfl) <| Ab <| An ?_
      refine ⟨_, _, (.cons rfl .nil), (.o (l := (sbN a b a.length).1 ++ a.drop a.length) rfl (by omega) rfl), ?_⟩
      rw [List.drop_zero, List.take_of_length_le (by omega), List.drop_eq_nil_of_le (Nat.le_refl _), List.append_nil]
      exact ⟨_, rfl, Oc ua ub _, Db a b _, Afw ua ub hle⟩

theorem Lx (l : List Int) (f t : Nat) (hl : l.length < 4398046511104) (hft : f ≤ t) (hf : t < 4398046511104) (ul : Av l) : Spec Tryz.prog 147 [.n false .u64 l, .i .i64 (f : Int), .i .i64 (t : Int)] (fun o => ∃ r, o = .ret (.n false .u64 r) ∧ Av r ∧ r.length ≤ min t l.length - min f l.length ∧ vl r = vl ((l.take t).drop f)) := by
  refine Aw [(0, .n false .u64 l), (1, .i .i64 (f : Int)), (2, .i .i64 (t : Int))] rfl Tryz.func147 rfl (Zb rfl) fun Γ hN hds hL hR => ?_
  have hd := B2 32 hN
  refine Zs <| Za rfl (hd 6 rfl) <| Ab <| Zs <| Zm rfl (hd 7 rfl) <| Zm rfl (hd 8 rfl) <| Ac (Ar A7 rfl) (hd 9 rfl) <| Ac (Bk (Ou rfl rfl) (show V.i .i64 (min (f : Int) (l.length : Int)) = V.i .i64 ((min f l.length : Nat) : Int) by congr 1; omega)) (hd 10 rfl) <| Zm rfl (hd 11 rfl) <| Zm rfl (hd 12 rfl) <| Ac (Ar A7 rfl) (hd 13 rfl) ?_; refine Ac (Bk (Ou rfl rfl) (show V.i .i64 (min (t : Int) (l.length : Int)) = V.i .i64 ((min t l.length : Nat) : Int) by congr 1; omega)) (hd 14 rfl) <| Za rfl (hd 1 rfl) <| Za rfl (hd 2 rfl) <| Ab <| Ae <| At ?_
  refine Ch (G := Nat) (fun k => min f l.length ≤ k ∧ k ≤ min t l.length ∧ vl ((l.take k).drop (min f l.length)) = vl ((l.take t).drop f)) (fun k => [(2, .i .i64 (k : Int)), (15, .u), (16, .u), (17, .u), (18, .u), (19, .u), (20, .u), (21, .u), (22, .u), (23, .u), (24, .u), (25, .u), (26, .u), (27, .u)]) (fun _ => _) (fun k => k) (min t l.length) ?_ ?_ rfl ?_
  · exact ⟨by omega, Nat.le_refl _, by rw [Yk hft]⟩
  · exact (.cons rfl (.v9 (.u (.u (.u .nil)))))
  · rintro k ⟨hc1, hc2, hc3⟩; refine Ae <| Zs <| Zm rfl (hd 15 rfl) <| Zm rfl (hd 16 rfl) <| Ac (Ce rfl rfl) (hd 17 rfl) <| Zm rfl (hd 18 rfl) ?_
    refine Ez 18 rfl (fun h1 => ?_) (fun h1 => ?_)
    · refine Bi 18 rfl rfl (Ay rfl) (hd 19 rfl) <| Bi 18 rfl rfl (Ay rfl) (hd 20 rfl) <| Bi 18 rfl rfl (Bm rfl rfl (Ak (by omega) (by omega))) (hd 21 rfl) <| Bi 18 rfl rfl (Cc (i := k - 1) A7 rfl rfl (by omega) (by omega)) (hd 22 rfl) <| Bi 18 rfl rfl (B8 Bu rfl rfl) (hd 23 rfl) <| Bi 18 rfl rfl (Cq rfl rfl) (hd 24 rfl) <| Ac (Bt rfl rfl) (hd 25 rfl) <| Ab ?_
      refine Bh rfl (fun h2 => ?_) (fun h2 => ?_)
      · refine Aj <| At <| Af <| Zm rfl (hd 26 rfl) <| Ac (Bm rfl rfl (Ak (by omega) (by omega))) (hd 27 rfl) <| Za rfl (hd 2 rfl) <| Ab ?_
        refine ⟨k - 1, ?_, ?_, rfl, Bj 29 rfl rfl ?_⟩
        · exact ⟨by omega, by omega, by rw [U3 (by omega) (by omega) (by assumption)]; exact hc3⟩
        · omega
        · exact (.cons (by show some (V.i .i64 _) = some (V.i .i64 _); congr 2; omega) (.v9 (.u (.u (.u .nil)))))
      · refine Br <| Zs <| Zm rfl (hd 28 rfl) <| Zm rfl (hd 29 rfl) <| Zm rfl (hd 30 rfl) <| Ac (K3 A7 rfl (Dg rfl rfl) (Dg rfl rfl) (.inl rfl) (by omega) (by omega)) (hd 31 rfl) <| Za rfl (hd 6 rfl) <| Ab <| An ?_
        refine ⟨_, _, (.cons rfl .nil), .n, ?_⟩
        exact ⟨_, rfl, Fb (Er ul _) _, by rw [List.length_drop, List.length_take]; omega, hc3⟩
    · refine Bz 18 rfl rfl rfl (hd 19 rfl) <| Bz 18 rfl rfl rfl (hd 20 rfl) <| Bz 18 rfl rfl rfl (hd 21 rfl) <| Bz 18 rfl rfl rfl (hd 22 rfl) <| Bz 18 rfl rfl rfl (hd 23 rfl) <| Bz 18 rfl rfl rfl (hd 24 rfl) <| Ac (Bg rfl rfl) (hd 25 rfl) <| Ab <| A6 rfl <| Br <| Zs <| Zm rfl (hd 28 rfl) ?_; refine Zm rfl (hd 29 rfl) <| Zm rfl (hd 30 rfl) <| Ac (K3 A7 rfl (Dg rfl rfl) (Dg rfl rfl) (.inl rfl) (by omega) (by omega)) (hd 31 rfl) <| Za rfl (hd 6 rfl) <| Ab <| An ?_
      refine ⟨_, _, (.cons rfl .nil), .n, ?_⟩
      exact ⟨_, rfl, Fb (Er ul _) _, by rw [List.length_drop, List.length_take]; omega, hc3⟩

theorem Vx (cut : Nat) (hc4 : 4 ≤ cut) (hcm : cut < 1099511627776) (a b : List Int) (hla : a.length < 549755813888) (hlb : b.length < 549755813888) (ua : Av a) (ub : Av b) (ih : ∀ a' b' : List Int, a'.length + b'.length < a.length + b.length → a'.length < 549755813888 → b'.length < 549755813888 → Av a' → Av b' → Spec Tryz.prog 136 [.n false .u64 a', .n false .u64 b', .i .i64 (cut : Int)] (fun o => ∃ r, o = .ret (.n true .u64 r) ∧ Av r ∧ r.length ≤ a'.length + b'.length + 1 ∧ vl r = vl a' * vl b')) : Spec Tryz.prog 136 [.n false .u64 a, .n false .u64 b, .i .i64 (cut : Int)] (fun o => ∃ r, o = .ret (.n true .u64 r) ∧ Av r ∧ r.length ≤ a.length + b.length + 1 ∧ vl r = vl a * vl b) := by
  refine Aw [(0, .n false .u64 a), (1, .n false .u64 b), (2, .i .i64 (cut : Int))] rfl Tryz.func136 rfl (Zb rfl) fun Γ hN hds hL hR => ?_
  have hd := B2 124 hN
  refine Zs <| Za rfl (hd 6 rfl) <| Ab ?_
  refine C9 (G := List Int × List Int) (fun g => g.2.length ≤ g.1.length ∧ g.1.length + g.2.length = a.length + b.length ∧ Av g.1 ∧ Av g.2 ∧ vl g.1 * vl g.2 = vl a * vl b ∧ g.1.length < 549755813888 ∧ g.2.length < 549755813888) (fun g => [(0, .n false .u64 g.1), (1, .n false .u64 g.2), (17, .u), (18, .u), (19, .u), (20, .u), (21, .u), (22, .u), (23, .u)]) ?_ ?_
  · refine Zs <| Zm rfl (hd 17 rfl) <| Ac (Ar A7 rfl) (hd 18 rfl) <| Zm rfl (hd 19 rfl) <| Ac (Ar A7 rfl) (hd 20 rfl) <| Ac (Ca rfl rfl) (hd 21 rfl) <| Ab ?_
    refine Bh rfl (fun h1 => ?_) (fun h1 => ?_)
    · refine Af <| Zm rfl (hd 22 rfl) <| Zm rfl (hd 23 rfl) <| Za rfl (hd 0 rfl) <| Za rfl (hd 1 rfl) <| Ab ?_
      refine ⟨(b, a), ?_, rfl, Bj 9 rfl rfl ?_⟩
      · exact ⟨by show a.length ≤ b.length; omega, by show b.length + a.length = _; omega, ub, ua, by show vl b * vl a = _; rw [Int.mul_comm], hlb, hla⟩
      · exact (.cons rfl (.cons rfl (.v5 (.u (.u .nil)))))
    · refine Aj ?_
      refine ⟨(a, b), ?_, rfl, Bj 5 rfl rfl ?_⟩
      · exact ⟨by show b.length ≤ a.length; omega, rfl, ua, ub, rfl, hla, hlb⟩
      · exact (.cons rfl (.cons rfl (.v5 (.u (.u .nil)))))
  · rintro ⟨X, Y⟩ ⟨hm1, hm2, uX, uY, hm3, hX, hY⟩
    dsimp only at hm1 hm2 uX uY hm3 hX hY ⊢
    have hXY := Tm uX uY
    have hXY2 := Fs (show X.length + Y.length ≤ X.length + Y.length + 1 by omega)
    have x0 := A4 uX
    have y0 := A4 uY
    refine Ae <| Zs <| Zm rfl (hd 24 rfl) <| Ac (Ar A7 rfl) (hd 25 rfl) <| Zm rfl (hd 26 rfl) <| Ac (Ca rfl rfl) (hd 27 rfl) <| Ab ?_
    refine Bh rfl (fun h2 => ?_) (fun h2 => ?_)
    · refine Zs <| Zm rfl (hd 28 rfl) <| Zm rfl (hd 29 rfl) ?_
      refine Ag Tryz.f145 (X5 X Y (by omega) (by omega) uX uY) rfl Tryz.func145 rfl rfl (Aa rfl (Aa rfl Ad)) (.cons .n (.cons .n .nil)) (hd 30 rfl) ?_ (fun _ h => by simp at h)
      rintro y ⟨rs, hy, urs, lrs, vrs⟩; injection hy with hy; subst hy; refine Za rfl (hd 6 rfl) <| Ab <| An ?_
      refine ⟨_, _, (.cons rfl .nil), .n, ?_⟩
      exact ⟨rs, rfl, urs, by omega, by rw [vrs, hm3]⟩
    · refine Aj <| Ae ?_
      obtain ⟨k, hk⟩ : ∃ k, (X.length + 1) / 2 = k := ⟨_, rfl⟩
      have pk := Dh k
      refine Af <| Zm rfl (hd 31 rfl) <| Ac (Ar A7 rfl) (hd 32 rfl) <| Ac (Bd rfl rfl (r := ((X.length + 1 : Nat) : Int)) (by rw [Ak (by omega) (by omega)]; omega)) (hd 33 rfl) <| Ac (Gc rfl rfl (by decide) (r := (k : Int)) (by show IntKind.i64.wrap (Int.tdiv ((X.length + 1 : Nat) : Int) 2) = _; rw [Ahx (by omega), hk])) (hd 34 rfl) <| Za rfl (hd 7 rfl) <| Ab <| Ae <| Zs <| Zm rfl (hd 35 rfl) <| Ac (Ar A7 rfl) (hd 36 rfl) <| Zm rfl (hd 37 rfl) ?_; refine Ac (Jq rfl rfl) (hd 38 rfl) <| Ab ?_
      refine Bh rfl (fun h3 => ?_) (fun h3 => ?_)
      · refine Zs <| Zm rfl (hd 39 rfl) <| Ac (Ar A7 rfl) (hd 40 rfl) <| Zm rfl (hd 41 rfl) <| Ac (Ar A7 rfl) (hd 42 rfl) <| Ac (Bd rfl rfl (r := ((X.length + Y.length : Nat) : Int)) (by rw [Ak (by omega) (by omega)]; omega)) (hd 43 rfl) <| Ac (Bd rfl rfl (r := ((X.length + Y.length + 1) : Nat)) (by rw [Ak (by omega) (by omega)]; omega)) (hd 44 rfl) <| A1 (Gv (m := (X.length + Y.length + 1)) Lg rfl rfl rfl (by show 8 * (X.length + Y.length + 1) ≤ _; omega) (by unfold maxLen; omega) rfl) (hd 45 rfl) <| Za rfl (hd 8 rfl) <| Ab <| Ae <| Af ?_; refine Zm rfl (hd 46 rfl) <| Zm rfl (hd 47 rfl) <| Zm rfl (hd 48 rfl) ?_
        refine Ag Tryz.f147 (Lx X 0 k (by omega) (by omega) (by omega) uX) rfl Tryz.func147 rfl rfl (Aa rfl (Aa rfl (Aa rfl Ad))) (.cons .n (.cons .i (.cons .i .nil))) (hd 49 rfl) ?_ (fun _ h => by simp at h)
        rintro y ⟨al, hy, ual, lal, val⟩; injection hy with hy; subst hy; refine Zm rfl (hd 50 rfl) <| Zm rfl (hd 51 rfl) ?_
        refine Ag Tryz.f136 (ih al Y (by omega) (by omega) (by omega) ual uY) rfl Tryz.func136 rfl rfl (Aa rfl (Aa rfl (Aa rfl Ad))) (.cons .n (.cons .n (.cons .i .nil))) (hd 52 rfl) ?_ (fun _ h => by simp at h)
        rintro y ⟨p1, hy, up1, lp1, vp1⟩; injection hy with hy; subst hy
        have a0 := A4 ual
        refine Gu Tryz.f146 (Je (List.replicate (X.length + Y.length + 1) 0) p1 (X.length + Y.length + 1) 0 List.length_replicate (by omega) (by omega) (by omega) (Hj _) up1 (by
            have h1 := Ie (l := X) k
            rw [← val] at h1
            have h2 := A4 (Fb (Er uX X.length) k)
            have h3 := Int.mul_nonneg (Int.le_of_lt pk) h2
            have h4 := Int.mul_le_mul_of_nonneg_right (show vl al ≤ vl X by omega) y0
            rw [Hi, vp1]; simp only [pB, Int.one_mul, Int.zero_add] at *; omega)) rfl Tryz.func146 rfl rfl (Aa rfl (Aa rfl (Aa rfl Ad))) (.cons (.same rfl) (.cons .n (.cons (.same rfl) .nil))) (De Fe Dz) (hd 53 rfl) ?_ (fun ch H2 hp => by simp at hp)
        rintro y H2 ⟨hy, r1, rfl, lr1, ur1, vr1⟩; injection hy with hy; subst hy; refine Ab <| Zs <| Zm rfl (hd 54 rfl) <| Zm rfl (hd 55 rfl) <| Zm rfl (hd 56 rfl) <| Zm rfl (hd 57 rfl) <| Ac (Ar A7 rfl) (hd 58 rfl) ?_
        refine Ag Tryz.f147 (Lx X k X.length (by omega) (by omega) (by omega) uX) rfl Tryz.func147 rfl rfl (Aa rfl (Aa rfl (Aa rfl Ad))) (.cons .n (.cons .i (.cons .i .nil))) (hd 59 rfl) ?_ (fun _ h => by simp at h)
        rintro y ⟨ah, hy, uah, lah, vah⟩; injection hy with hy; subst hy; refine Zm rfl (hd 60 rfl) <| Zm rfl (hd 61 rfl) ?_
        refine Ag Tryz.f136 (ih ah Y (by omega) (by omega) (by omega) uah uY) rfl Tryz.func136 rfl rfl (Aa rfl (Aa rfl (Aa rfl Ad))) (.cons .n (.cons .n (.cons .i .nil))) (hd 62 rfl) ?_ (fun _ h => by simp at h)
        rintro y ⟨p2, hy, up2, lp2, vp2⟩; injection hy with hy; subst hy
        have hv : vl r1 + pB k * vl p2 = vl X * vl Y := by
          have h1 := Ie (l := X) k
          rw [← val, ← vah] at h1
          rw [vr1, vp1, vp2, Hi, ← h1, Int.add_mul, Int.mul_assoc (pB k)]
          simp only [pB, Int.one_mul, Int.zero_add]
        refine Zm rfl (hd 63 rfl) ?_
        refine Gu Tryz.f146 (Je r1 p2 (X.length + Y.length + 1) k lr1 (by omega) (by omega) (by omega) ur1 up2 (by rw [hv]; omega)) rfl Tryz.func146 rfl rfl (Aa rfl (Aa rfl (Aa rfl Ad))) (.cons (.same rfl) (.cons .n (.cons (.same rfl) .nil))) (De Fe Dz) (hd 64 rfl) ?_ (fun ch H2 hp => by simp at hp)
        rintro y H2 ⟨hy, rf, rfl, lrf, urf, vrf⟩; injection hy with hy; subst hy; refine Ab <| Zs <| Zm rfl (hd 65 rfl) <| Za rfl (hd 6 rfl) <| Ab <| An ?_
        refine ⟨_, _, (.cons rfl .nil), (.o (l := rf) rfl (by omega) rfl), ?_⟩
        rw [List.drop_zero, List.take_of_length_le (by omega)]
        exact ⟨rf, rfl, urf, by omega, by rw [vrf, hv, hm3]⟩
      · refine Aj <| Zs <| Zm rfl (hd 66 rfl) <| Zm rfl (hd 67 rfl) ?_
        refine Ag Tryz.f147 (Lx X 0 k (by omega) (by omega) (by omega) uX) rfl Tryz.func147 rfl rfl (Aa rfl (Aa rfl (Aa rfl Ad))) (.cons .n (.cons .i (.cons .i .nil))) (hd 68 rfl) ?_ (fun _ h => by simp at h)
        rintro y ⟨al, hy, ual, lal, val⟩; injection hy with hy; subst hy; refine Zm rfl (hd 69 rfl) <| Zm rfl (hd 70 rfl) <| Zm rfl (hd 71 rfl) <| Ac (Ar A7 rfl) (hd 72 rfl) ?_
        refine Ag Tryz.f147 (Lx X k X.length (by omega) (by omega) (by omega) uX) rfl Tryz.func147 rfl rfl (Aa rfl (Aa rfl (Aa rfl Ad))) (.cons .n (.cons .i (.cons .i .nil))) (hd 73 rfl) ?_ (fun _ h => by simp at h)
        rintro y ⟨ah, hy, uah, lah, vah⟩; injection hy with hy; subst hy; refine Zm rfl (hd 74 rfl) <| Zm rfl (hd 75 rfl) ?_
        refine Ag Tryz.f147 (Lx Y 0 k (by omega) (by omega) (by omega) uY) rfl Tryz.func147 rfl rfl (Aa rfl (Aa rfl (Aa rfl Ad))) (.cons .n (.cons .i (.cons .i .nil))) (hd 76 rfl) ?_ (fun _ h => by simp at h)
        rintro y ⟨bl, hy, ubl, lbl, vbl⟩; injection hy with hy; subst hy; refine Zm rfl (hd 77 rfl) <| Zm rfl (hd 78 rfl) <| Zm rfl (hd 79 rfl) <| Ac (Ar A7 rfl) (hd 80 rfl) ?_
        refine Ag Tryz.f147 (Lx Y k Y.length (by omega) (by omega) (by omega) uY) rfl Tryz.func147 rfl rfl (Aa rfl (Aa rfl (Aa rfl Ad))) (.cons .n (.cons .i (.cons .i .nil))) (hd 81 rfl) ?_ (fun _ h => by simp at h)
        rintro y ⟨bh, hy, ubh, lbh, vbh⟩; injection hy with hy; subst hy; refine Za rfl (hd 9 rfl) <| Za rfl (hd 10 rfl) <| Za rfl (hd 11 rfl) <| Za rfl (hd 12 rfl) <| Ab <| Zs <| Zm rfl (hd 82 rfl) <| Zm rfl (hd 83 rfl) <| Zm rfl (hd 84 rfl) ?_
        refine Ag Tryz.f136 (ih al bl (by omega) (by omega) (by omega) ual ubl) rfl Tryz.func136 rfl rfl (Aa rfl (Aa rfl (Aa rfl Ad))) (.cons .n (.cons .n (.cons .i .nil))) (hd 85 rfl) ?_ (fun _ h => by simp at h)
        rintro y ⟨lo, hy, ulo, llo, vlo⟩; injection hy with hy; subst hy; refine Zm rfl (hd 86 rfl) <| Zm rfl (hd 87 rfl) <| Zm rfl (hd 88 rfl) ?_
        refine Ag Tryz.f136 (ih ah bh (by omega) (by omega) (by omega) uah ubh) rfl Tryz.func136 rfl rfl (Aa rfl (Aa rfl (Aa rfl Ad))) (.cons .n (.cons .n (.cons .i .nil))) (hd 89 rfl) ?_ (fun _ h => by simp at h)
        rintro y ⟨hi, hy, uhi, lhi, vhi⟩; injection hy with hy; subst hy; refine Za rfl (hd 13 rfl) <| Za rfl (hd 14 rfl) <| Ab <| Zs <| Zm rfl (hd 90 rfl) <| Zm rfl (hd 91 rfl) ?_
        refine Ag Tryz.f149 (Agg al ah (by omega) (by omega) ual uah) rfl Tryz.func149 rfl rfl (Aa rfl (Aa rfl Ad)) (.cons .n (.cons .n .nil)) (hd 92 rfl) ?_ (fun _ h => by simp at h)
        rintro y ⟨s1, hy, us1, ls1, vs1⟩; injection hy with hy; subst hy
        have ts1 := Cy s1
        refine Ag Tryz.f66 (D4 s1 (by omega)) rfl Tryz.func66 rfl rfl (Aa rfl Ad) (.cons .n .nil) (hd 93 rfl) ?_ (fun _ h => by simp at h)
        rintro _ ⟨⟩; refine Zm rfl (hd 94 rfl) <| Zm rfl (hd 95 rfl) ?_
        refine Ag Tryz.f149 (Agg bl bh (by omega) (by omega) ubl ubh) rfl Tryz.func149 rfl rfl (Aa rfl (Aa rfl Ad)) (.cons .n (.cons .n .nil)) (hd 96 rfl) ?_ (fun _ h => by simp at h)
        rintro y ⟨s2, hy, us2, ls2, vs2⟩; injection hy with hy; subst hy
        have ts2 := Cy s2
        refine Ag Tryz.f66 (D4 s2 (by omega)) rfl Tryz.func66 rfl rfl (Aa rfl Ad) (.cons .n .nil) (hd 97 rfl) ?_ (fun _ h => by simp at h)
        rintro _ ⟨⟩; refine Zm rfl (hd 98 rfl) ?_
        refine Ag Tryz.f136 (ih (trm s1) (trm s2) (by omega) (by omega) (by omega) (A8 us1) (A8 us2)) rfl Tryz.func136 rfl rfl (Aa rfl (Aa rfl (Aa rfl Ad))) (.cons .n (.cons .n (.cons .i .nil))) (hd 99 rfl) ?_ (fun _ h => by simp at h)
        rintro y ⟨m0, hy, um0, lm0, vm0⟩; injection hy with hy; subst hy
        rw [D7, D7, vs1, vs2] at vm0
        have hle := Aeg (A4 ual) (A4 uah) (A4 ubl) (A4 ubh)
        rw [← vm0, ← vlo, ← vhi] at hle
        refine Zm rfl (hd 100 rfl) ?_
        refine Ag Tryz.f148 (Abq m0 lo (by omega) (by omega) um0 ulo hle.1) rfl Tryz.func148 rfl rfl (Aa rfl (Aa rfl Ad)) (.cons .n (.cons .n .nil)) (hd 101 rfl) ?_ (fun _ h => by simp at h)
        rintro y ⟨m1, hy, um1, lm1, vm1⟩; injection hy with hy; subst hy; refine Zm rfl (hd 102 rfl) ?_
        refine Ag Tryz.f148 (Abq m1 hi (by omega) (by omega) um1 uhi (by rw [vm1]; exact hle.2)) rfl Tryz.func148 rfl rfl (Aa rfl (Aa rfl Ad)) (.cons .n (.cons .n .nil)) (hd 103 rfl) ?_ (fun _ h => by simp at h)
        rintro y ⟨m2, hy, um2, lm2, vm2⟩; injection hy with hy; subst hy
        have hA : vl al + pB k * vl ah = vl X := by rw [val, vah]; exact Ie k
        have hB : vl bl + pB k * vl bh = vl Y := by rw [vbl, vbh]; exact Ie k
        have hmd : vl m2 = (vl al + vl ah) * (vl bl + vl bh) - vl lo - vl hi := by rw [vm2, vm1, vm0]
        have hkr := Al4 hA hB vlo vhi hmd
        have g1 := Int.mul_nonneg (Int.le_of_lt pk) (A4 um2)
        have g2 := Int.mul_nonneg (Int.mul_nonneg (Int.le_of_lt pk) (Int.le_of_lt pk)) (A4 uhi)
        refine Za rfl (hd 15 rfl) <| Ab <| Zs <| Zm rfl (hd 104 rfl) <| Ac (Ar A7 rfl) (hd 105 rfl) <| Zm rfl (hd 106 rfl) <| Ac (Ar A7 rfl) (hd 107 rfl) <| Ac (Bd rfl rfl (r := ((X.length + Y.length : Nat) : Int)) (by rw [Ak (by omega) (by omega)]; omega)) (hd 108 rfl) <| Ac (Bd rfl rfl (r := ((X.length + Y.length + 1) : Nat)) (by rw [Ak (by omega) (by omega)]; omega)) (hd 109 rfl) <| A1 (Gv (m := (X.length + Y.length + 1)) Lg rfl rfl rfl (by show 8 * (X.length + Y.length + 1) ≤ _; omega) (by unfold maxLen; omega) rfl) (hd 110 rfl) <| Za rfl (hd 16 rfl) <| Ab ?_; refine Zs <| Zm rfl (hd 111 rfl) <| Zm rfl (hd 112 rfl) ?_
        refine Gu Tryz.f146 (Je (List.replicate (X.length + Y.length + 1) 0) lo (X.length + Y.length + 1) 0 List.length_replicate (by omega) (by omega) (by omega) (Hj _) ulo (by rw [Hi]; simp only [pB, Int.one_mul, Int.zero_add] at *; omega)) rfl Tryz.func146 rfl rfl (Aa rfl (Aa rfl (Aa rfl Ad))) (.cons (.same rfl) (.cons .n (.cons (.same rfl) .nil))) (De Fe Dz) (hd 113 rfl) ?_ (fun ch H2 hp => by simp at hp)
        rintro y H2 ⟨hy, r1, rfl, lr1, ur1, vr1⟩; injection hy with hy; subst hy
        have e1 : vl r1 = vl lo := by rw [vr1, Hi]; simp only [pB, Int.one_mul, Int.zero_add]
        refine Ab <| Zs <| Zm rfl (hd 114 rfl) <| Zm rfl (hd 115 rfl) <| Zm rfl (hd 116 rfl) ?_
        refine Gu Tryz.f146 (Je r1 m2 (X.length + Y.length + 1) k lr1 (by omega) (by omega) (by omega) ur1 um2 (by rw [e1]; omega)) rfl Tryz.func146 rfl rfl (Aa rfl (Aa rfl (Aa rfl Ad))) (.cons (.same rfl) (.cons .n (.cons (.same rfl) .nil))) (De Fe Dz) (hd 117 rfl) ?_ (fun ch H2 hp => by simp at hp)
        rintro y H2 ⟨hy, r2, rfl, lr2, ur2, vr2⟩; injection hy with hy; subst hy; refine Ab <| Zs <| Zm rfl (hd 118 rfl) <| Zm rfl (hd 119 rfl) <| Zm rfl (hd 120 rfl) <| Ac (Dw rfl rfl (r := ((2 * k : Nat) : Int)) (by rw [Ak (by omega) (by omega)]; omega)) (hd 121 rfl) ?_
        refine Gu Tryz.f146 (Je r2 hi (X.length + Y.length + 1) (2 * k) lr2 (by omega) (by omega) (by omega) ur2 uhi (by rw [vr2, e1, show 2 * k = k + k by omega, Fx]; omega)) rfl Tryz.func146 rfl rfl (Aa rfl (Aa rfl (Aa rfl Ad))) (.cons (.same rfl) (.cons .n (.cons (.same rfl) .nil))) (De Fe Dz) (hd 122 rfl) ?_ (fun ch H2 hp => by simp at hp)
        rintro y H2 ⟨hy, rf, rfl, lrf, urf, vrf⟩; injection hy with hy; subst hy; refine Ab <| Zs <| Zm rfl (hd 123 rfl) <| Za rfl (hd 6 rfl) <| Ab <| An ?_
        refine ⟨_, _, (.cons rfl .nil), (.o (l := rf) rfl (by omega) rfl), ?_⟩
        rw [List.drop_zero, List.take_of_length_le (by omega)]
        exact ⟨rf, rfl, urf, by omega, by rw [vrf, vr2, e1, show 2 * k = k + k by omega, Fx, hkr, hm3]⟩

theorem Y9 (cut : Nat) (hc4 : 4 ≤ cut) (hcm : cut < 1099511627776) (a b : List Int) (hla : a.length < 549755813888) (hlb : b.length < 549755813888) (ua : Av a) (ub : Av b) : Spec Tryz.prog 136 [.n false .u64 a, .n false .u64 b, .i .i64 (cut : Int)] (fun o => ∃ r, o = .ret (.n true .u64 r) ∧ Av r ∧ r.length ≤ a.length + b.length + 1 ∧ vl r = vl a * vl b) := by
  induction hn : a.length + b.length using Nat.strongRecOn generalizing a b with
  | _ n ih =>
    subst hn
    exact Vx cut hc4 hcm a b hla hlb ua ub fun a' b' h h1 h2 h3 h4 => ih _ (by omega) a' b' h1 h2 h3 h4 rfl

theorem Afs (a b : List Int) (hla : a.length < 4294967296) (hlb : b.length < 4294967296) (ua : Av a) (ub : Av b) : Spec Tryz.prog 135 [.n false .u64 a, .n false .u64 b] (fun o => ∃ r, o = .ret (.n true .u64 r) ∧ Av r ∧ r.length ≤ a.length + b.length + 1 ∧ vl r = vl a * vl b) := by
  refine Aw [(0, .n false .u64 a), (1, .n false .u64 b)] rfl Tryz.func135 rfl (Zb rfl) fun Γ hN hds hL hR => ?_
  have hd := B2 8 hN
  refine Zs <| Za rfl (hd 4 rfl) <| Ab <| Zs <| Zm rfl (hd 5 rfl) <| Zm rfl (hd 6 rfl) ?_
  refine Ag Tryz.f136 (Y9 40 (by decide) (by decide) a b (by omega) (by omega) ua ub) rfl Tryz.func136 rfl rfl (Aa rfl (Aa rfl (Aa rfl Ad))) (.cons .n (.cons .n (.cons .i .nil))) (hd 7 rfl) ?_ (fun _ h => by simp at h)
  rintro y ⟨rs, hy, us, ls, vs⟩; injection hy with hy; subst hy; refine Za rfl (hd 4 rfl) <| Ab <| An ?_
  refine ⟨_, _, (.cons rfl .nil), .n, ?_⟩
  exact ⟨rs, rfl, us, ls, vs⟩




theorem Qw (s : Bool) (a : List Int) (hla : a.length < 4294967296) (ua : Av a) : Spec Tryz.prog 93 [.a [.b s, .n false .u64 a]] (fun o => o = .ret (.i .i64 (C8 (sv s a)))) := by
  refine Aw [(0, .a [.b s, .n false .u64 a])] rfl Tryz.func93 rfl (Zb rfl) fun Γ hN hds hL hR => ?_
  have hd := B2 11 hN
  refine Zs <| A1 (Bn (id := 0) (n := 2) rfl rfl rfl (by decide) rfl) (hd 1 rfl) <| Za rfl (hd 2 rfl) <| Ab <| Ae <| At <| Zs <| Ac (A5 By rfl rfl rfl) (hd 4 rfl) <| Ac (A9 B5 rfl rfl rfl) (hd 5 rfl) ?_
  refine Ag Tryz.f30 (Dl a (by omega) ua) rfl Tryz.func30 rfl rfl (Aa rfl Ad) (.cons .n .nil) (hd 6 rfl) ?_ (fun _ h => by simp at h)
  rintro _ ⟨⟩; refine Ac (Cq rfl rfl) (hd 7 rfl) <| Za rfl (hd 3 rfl) <| Ab ?_
  refine Bh rfl (fun h1 => ?_) (fun h1 => ?_)
  · refine Zs <| Za rfl (hd 2 rfl) <| Ab <| An ?_
    refine ⟨_, _, (.cons rfl .nil), .i, ?_⟩
    rw [Uf ua, if_pos (by omega)]
  · refine Zs <| Ac (A5 Cx rfl rfl rfl) (hd 9 rfl) <| Ac (A9 Il rfl rfl rfl) (hd 10 rfl) <| Za rfl (hd 8 rfl) <| Ab ?_
    refine F7 rfl (fun h2 => ?_) (fun h2 => ?_)
    · refine Zs <| Za rfl (hd 2 rfl) <| Ab <| An ?_
      refine ⟨_, _, (.cons rfl .nil), .i, ?_⟩
      rw [Uf ua, if_neg (by omega), if_pos (by assumption)]
    · refine Aj <| Zs <| Za rfl (hd 2 rfl) <| Ab <| An ?_
      refine ⟨_, _, (.cons rfl .nil), .i, ?_⟩
      rw [Uf ua, if_neg (by omega), if_neg (by simp_all)]

theorem Aih (s t : Bool) (a b : List Int) (hla : a.length < 4294967296) (hlb : b.length < 4294967296) (ua : Av a) (ub : Av b) : Spec Tryz.prog 95 [.a [.b s, .n false .u64 a], .a [.b t, .n false .u64 b]] (fun o => o = .ret (.i .i64 (C1 (sv s a) (sv t b)))) := by
  refine Aw [(0, .a [.b s, .n false .u64 a]), (1, .a [.b t, .n false .u64 b])] rfl Tryz.func95 rfl (Zb rfl) fun Γ hN hds hL hR => ?_
  have hd := B2 26 hN
  have hcs := Wk (s := s) (t := t) ua ub
  have hrg := Si (x := sv s a) (y := sv t b)
  refine Zs <| A1 (Bn (id := 0) (n := 2) rfl rfl rfl (by decide) rfl) (hd 2 rfl) <| A1 (Bn (id := 1) (n := 2) rfl rfl rfl (by decide) rfl) (hd 3 rfl) <| Za rfl (hd 4 rfl) <| Ab <| Ae <| Bo (n := 6) _ rfl B9 <| Z2 0 [1, 3, 4, 5] (Am (Au Bw rfl rfl rfl rfl) (hd 7 rfl)) rfl <| Z2 2 [3, 4, 5] (Am (Au Bw rfl rfl rfl rfl) (hd 9 rfl)) rfl ?_
  refine Be 1 ?_ rfl (by kernel_rfl)
  refine Ax Tryz.f93 (Qw s a hla ua) rfl Tryz.func93 rfl rfl (Aa rfl Ad) (.cons (.a1 .b (.a1 .n .a0)) .nil) (hd 8 rfl) ?_ (fun _ h => by simp at h)
  rintro y hy; injection hy with hy; subst hy
  refine Be 3 ?_ rfl (by kernel_rfl)
  refine Ax Tryz.f93 (Qw t b hlb ub) rfl Tryz.func93 rfl rfl (Aa rfl Ad) (.cons (.a1 .b (.a1 .n .a0)) .nil) (hd 10 rfl) ?_ (fun _ h => by simp at h)
  rintro _ ⟨⟩; refine Z1 4 (Am (Cm rfl) (hd 5 rfl)) rfl <| Z1 5 (Am (Cm rfl) (hd 6 rfl)) rfl <| Bx (by kernel_rfl) <| Ae <| At <| Zs <| Zm rfl (hd 12 rfl) <| Zm rfl (hd 13 rfl) <| Ac (Ca rfl rfl) (hd 14 rfl) <| Za rfl (hd 11 rfl) <| Ab ?_
  refine Bh rfl (fun h1 => ?_) (fun h1 => ?_)
  · refine Zs <| Za rfl (hd 4 rfl) <| Ab <| An ?_
    refine ⟨_, _, (.cons rfl .nil), .i, ?_⟩
    rw [hcs.1 (by omega)]
  · refine Zs <| Zm rfl (hd 16 rfl) <| Zm rfl (hd 17 rfl) <| Ac (Ce rfl rfl) (hd 18 rfl) <| Za rfl (hd 15 rfl) <| Ab ?_
    refine Bh rfl (fun h2 => ?_) (fun h2 => ?_)
    · refine Zs <| Za rfl (hd 4 rfl) <| Ab <| An ?_
      refine ⟨_, _, (.cons rfl .nil), .i, ?_⟩
      rw [hcs.2.1 (by omega)]
    · refine Aj <| Zs <| Zm rfl (hd 19 rfl) <| Ac (A5 By rfl rfl rfl) (hd 20 rfl) <| Ac (A9 B5 rfl rfl rfl) (hd 21 rfl) <| Ac (A5 By rfl rfl rfl) (hd 22 rfl) <| Ac (A9 B5 rfl rfl rfl) (hd 23 rfl) ?_
      refine Ag Tryz.f89 (Fu a b (by omega) (by omega)) rfl Tryz.func89 rfl rfl (Aa rfl (Aa rfl Ad)) (.cons .n (.cons .n .nil)) (hd 24 rfl) ?_ (fun _ h => by simp at h)
      rintro _ ⟨⟩; refine Ac (Dw rfl rfl (r := C1 (sv s a) (sv t b)) (by rw [hcs.2.2 (by omega)]; exact Ak (by omega) (by omega))) (hd 25 rfl) <| Za rfl (hd 4 rfl) <| Ab <| An ?_
      refine ⟨_, _, (.cons rfl .nil), .i, ?_⟩
      exact rfl


theorem Aiz (v : Int) (hl : (dg v).length < 1099511627776) : Spec Tryz.prog 39 [.n false .u64 (dg v)] (fun o => o = .ret (.i .i64 (Al v : Int))) := by
  refine Aw [(0, .n false .u64 (dg v))] rfl Tryz.func39 rfl (Zb rfl) fun Γ hN hds hL hR => ?_
  have hd := B2 25 hN
  have hB := Aed v
  have hT := Wh v ((dg v).length - 1)
  have hE := Qc v
  have hN := Sd (v := v)
  refine Zs <| Za rfl (hd 2 rfl) <| Ab <| Ae <| Zs <| Zm rfl (hd 5 rfl) <| Ac (Ar Nu rfl) (hd 6 rfl) <| Ac (Cq rfl rfl) (hd 7 rfl) <| Ab ?_
  refine Bh rfl (fun h1 => ?_) (fun h1 => ?_)
  · have h0 : dg v = [] := List.eq_nil_of_length_eq_zero (by omega)
    refine Zs <| Za rfl (hd 2 rfl) <| Ab <| An ?_
    refine ⟨_, _, (.cons rfl .nil), .i, ?_⟩
    rw [hN.1 h0]
    rfl
  · have h0 : dg v ≠ [] := fun e => by rw [e] at h1; exact h1 rfl
    have hE := hE h0
    refine Aj <| Zs <| Zm rfl (hd 8 rfl) <| Ac (Ar Nu rfl) (hd 9 rfl) <| Ac (Bm rfl rfl (Ak (by first | omega | (dsimp only; omega)) (by first | omega | (dsimp only; omega)))) (hd 10 rfl) <| Ac (Dw rfl rfl (r := ((32 * ((dg v).length - 1) : Nat) : Int)) (by have := List.length_pos_iff.2 h0; rw [Ak (by omega) (by omega)]; omega)) (hd 11 rfl) <| Za rfl (hd 3 rfl) <| Ab <| Ae <| Zs <| Zm rfl (hd 12 rfl) ?_; refine Zm rfl (hd 13 rfl) <| Ac (Ar Nu rfl) (hd 14 rfl) <| Ac (Bm rfl rfl (Ak (by first | omega | (dsimp only; omega)) (by first | omega | (dsimp only; omega)))) (hd 15 rfl) <| Ac (Cc (i := (dg v).length - 1) Nu rfl rfl (by have := List.length_pos_iff.2 h0; omega) (by have := List.length_pos_iff.2 h0; omega)) (hd 16 rfl) <| Ac (B8 Bu rfl rfl) (hd 17 rfl) <| Za rfl (hd 4 rfl) <| Ab <| At ?_
    refine Ch (G := Nat × Nat) (fun g => g.2 + Cv g.1 = Al v ∧ g.1 < 4294967296) (fun g => [(3, .i .i64 (g.2 : Int)), (4, .i .u64 (g.1 : Int)), (18, .u), (19, .u), (20, .u), (21, .u), (22, .u), (23, .u)]) (fun _ => _) (fun g => g.1) (((dg v).getD ((dg v).length - 1) 0).toNat, 32 * ((dg v).length - 1)) ?_ ?_ rfl ?_
    · exact ⟨hE, by dsimp only; omega⟩
    · exact (.cons rfl (.cons (by show some (V.i .u64 _) = some (V.i .u64 _); congr 2; dsimp only; omega) (.v5 (.u .nil))))
    · rintro ⟨m, c⟩ ⟨hc1, hc2⟩
      dsimp only at hc1 hc2 ⊢
      refine Ae <| Zs <| Zm rfl (hd 18 rfl) <| Ac (Ce rfl rfl) (hd 19 rfl) <| Ab ?_
      refine Bh rfl (fun h2 => ?_) (fun h2 => ?_)
      · refine Aj <| Ae <| At <| Af <| Zm rfl (hd 22 rfl) <| Ac (Bd rfl rfl (Ak (by first | omega | (dsimp only; omega)) (by first | omega | (dsimp only; omega)))) (hd 23 rfl) <| Za rfl (hd 3 rfl) <| Ab <| Af <| Zm rfl (hd 20 rfl) <| Ac (Gc rfl rfl (by first | omega | (dsimp only; omega)) (r := ((m / 2 : Nat) : Int)) (by rw [show ((m : Int).tdiv 2) = ((m / 2 : Nat) : Int) from rfl, Bf (by omega) (by omega)])) (hd 21 rfl) <| Za rfl (hd 4 rfl) <| Ab ?_
        refine ⟨(m / 2, c + 1), ?_, ?_, rfl, Bj 16 rfl rfl ?_⟩
        · exact ⟨by have := S5 (m := m) (by omega); dsimp only; omega, by dsimp only; omega⟩
        · show m / 2 < m; omega
        · exact (.cons rfl (.cons rfl (.v5 (.u .nil))))
      · refine Br <| Zs <| Zm rfl (hd 24 rfl) <| Za rfl (hd 2 rfl) <| Ab <| An ?_
        refine ⟨_, _, (.cons rfl .nil), .i, ?_⟩
        have hm : m = 0 := by omega
        subst hm
        rw [P7] at hc1
        rw [← hc1]
        rfl

theorem Ad4 (l : List Int) (hl : l.length < 1099511627776) (hu : Av l) : Spec Tryz.prog 144 [.n false .u64 l] (fun o => ∃ (r : List Int) (e : Int), o = .ret (.t [.n true .u64 r, .i .i64 e]) ∧ Xj (vl l) r e) := by
  refine Aw [(0, .n false .u64 l)] rfl Tryz.func144 rfl (Zb rfl) fun Γ hN hds hL hR => ?_
  have hd := B2 10 hN
  have hm := Cy l
  refine Zs <| Za rfl (hd 2 rfl) <| Za rfl (hd 3 rfl) <| Ab <| Zs <| Zm rfl (hd 4 rfl) ?_
  refine Ag Tryz.f66 (D4 l hl) rfl Tryz.func66 rfl rfl (Aa rfl Ad) (.cons .n .nil) (hd 5 rfl) ?_ (fun _ h => by simp at h)
  rintro _ ⟨⟩; refine Za rfl (hd 0 rfl) <| Ab <| Ae <| Zs <| Zm rfl (hd 6 rfl) ?_
  refine Ag Tryz.f30 (Dl (trm l) (by omega) (A8 hu)) rfl Tryz.func30 rfl rfl (Aa rfl Ad) (.cons .n .nil) (hd 7 rfl) ?_ (fun _ h => by simp at h)
  rintro _ ⟨⟩; refine Ac (Ce rfl rfl) (hd 8 rfl) <| Ab ?_
  refine Bh rfl (fun h1 => ?_) (fun h1 => ?_)
  · refine Zs <| Za rfl (hd 2 rfl) <| Za rfl (hd 3 rfl) <| Ab <| An ?_
    refine ⟨_, _, (.cons rfl (.cons rfl .nil)), (.t1 (.nil (fr := true) (k := .u64)) (.t1 .i .t0)), ?_⟩
    exact ⟨[], 3, rfl, Nd hu rfl (by rw [Fj] at *; omega)⟩
  · refine Aj <| Zs <| Zm rfl (hd 9 rfl) <| Za rfl (hd 2 rfl) <| Za rfl (hd 3 rfl) <| Ab <| An ?_
    refine ⟨_, _, (.cons rfl (.cons rfl .nil)), (.t1 .n (.t1 .i .t0)), ?_⟩
    exact ⟨_, 0, rfl, Ql hu rfl (by rw [Fj] at *; omega)⟩

theorem Vy (a b : List Int) (ha : a.length < 1099511627776) (hb : b.length < 1099511627776) (ua : Av a) (ub : Av b) : Spec Tryz.prog 143 [.n false .u64 a, .n false .u64 b] (fun o => ∃ x : Bool, o = .ret (.b x) ∧ (x = true → 0 < Dn a ∧ 0 < Dn b ∧ 67108864 < Dn a + Dn b - 1)) := by
  refine Aw [(0, .n false .u64 a), (1, .n false .u64 b)] rfl Tryz.func143 rfl (Zb rfl) fun Γ hN hds hL hR => ?_
  have hd := B2 24 hN
  have h1 := I9 a
  have h2 := I9 b
  refine Zs <| Za rfl (hd 4 rfl) <| Ab <| Zs <| Zm rfl (hd 7 rfl) ?_
  refine Ag Tryz.f30 (Dl a ha ua) rfl Tryz.func30 rfl rfl (Aa rfl Ad) (.cons .n .nil) (hd 8 rfl) ?_ (fun _ h => by simp at h)
  rintro _ ⟨⟩; refine Zm rfl (hd 9 rfl) ?_
  refine Ag Tryz.f30 (Dl b hb ub) rfl Tryz.func30 rfl rfl (Aa rfl Ad) (.cons .n .nil) (hd 10 rfl) ?_ (fun _ h => by simp at h)
  rintro _ ⟨⟩; refine Za rfl (hd 5 rfl) <| Za rfl (hd 6 rfl) <| Ab <| Zs <| Zm rfl (hd 11 rfl) <| Ac (Ce rfl rfl) (hd 12 rfl) <| Zm rfl (hd 13 rfl) ?_
  refine Ez 13 rfl (fun h1 => ?_) (fun h1 => ?_)
  · refine Bi 13 rfl rfl (Ay rfl) (hd 14 rfl) <| Bi 13 rfl rfl (Ce rfl rfl) (hd 15 rfl) <| Ac (Bt rfl rfl) (hd 16 rfl) <| Zm rfl (hd 17 rfl) ?_
    refine Ez 17 rfl (fun h2 => ?_) (fun h2 => ?_)
    · refine Bi 17 rfl rfl (Ay rfl) (hd 18 rfl) <| Bi 17 rfl rfl (Ay rfl) (hd 19 rfl) <| Bi 17 rfl rfl (Bd rfl rfl (Ak (by omega) (by omega))) (hd 20 rfl) <| Bi 17 rfl rfl (Bm rfl rfl (Ak (by omega) (by omega))) (hd 21 rfl) <| Bi 17 rfl rfl (Ce rfl rfl) (hd 22 rfl) <| Ac (Bt rfl rfl) (hd 23 rfl) <| Za rfl (hd 4 rfl) <| Ab <| An ?_
      refine ⟨_, _, (.cons rfl .nil), .b, ?_⟩
      exact ⟨_, rfl, fun h => by first | (cases h; done) | (simp at h; done) | (have h := of_decide_eq_true h; exact ⟨by omega, by omega, by omega⟩)⟩
    · refine Bz 17 rfl rfl rfl (hd 18 rfl) <| Bz 17 rfl rfl rfl (hd 19 rfl) <| Bz 17 rfl rfl rfl (hd 20 rfl) <| Bz 17 rfl rfl rfl (hd 21 rfl) <| Bz 17 rfl rfl rfl (hd 22 rfl) <| Ac (Bg rfl rfl) (hd 23 rfl) <| Za rfl (hd 4 rfl) <| Ab <| An ?_
      refine ⟨_, _, (.cons rfl .nil), .b, ?_⟩
      exact ⟨_, rfl, fun h => by first | (cases h; done) | (simp at h; done) | (have h := of_decide_eq_true h; exact ⟨by omega, by omega, by omega⟩)⟩
  · refine Bz 13 rfl rfl rfl (hd 14 rfl) <| Bz 13 rfl rfl rfl (hd 15 rfl) <| Ac (Bg rfl rfl) (hd 16 rfl) <| Zm rfl (hd 17 rfl) <| Bz 17 rfl rfl rfl (hd 18 rfl) <| Bz 17 rfl rfl rfl (hd 19 rfl) <| Bz 17 rfl rfl rfl (hd 20 rfl) <| Bz 17 rfl rfl rfl (hd 21 rfl) <| Bz 17 rfl rfl rfl (hd 22 rfl) <| Ac (Bg rfl rfl) (hd 23 rfl) <| Za rfl (hd 4 rfl) <| Ab <| An ?_
    refine ⟨_, _, (.cons rfl .nil), .b, ?_⟩
    exact ⟨_, rfl, fun h => by first | (cases h; done) | (simp at h; done) | (have h := of_decide_eq_true h; exact ⟨by omega, by omega, by omega⟩)⟩

theorem U1 (a b : List Int) (hla : a.length < 4294967296) (hlb : b.length < 4294967296) (ua : Av a) (ub : Av b) : Spec Tryz.prog 134 [.n false .u64 a, .n false .u64 b, .f 135 []] (fun o => ∃ (r : List Int) (e : Int), o = .ret (.t [.n true .u64 r, .i .i64 e]) ∧ Xj (vl a * vl b) r e) := by
  refine Aw [(0, .n false .u64 a), (1, .n false .u64 b), (2, .f 135 [])] rfl Tryz.func134 rfl (Zb rfl) fun Γ hN hds hL hR => ?_
  have hd := B2 22 hN
  have hma := Cy a
  have hmb := Cy b
  refine Zs <| Za rfl (hd 6 rfl) <| Za rfl (hd 7 rfl) <| Ab <| Zs <| Zm rfl (hd 8 rfl) ?_
  refine Ag Tryz.f66 (D4 a (by omega)) rfl Tryz.func66 rfl rfl (Aa rfl Ad) (.cons .n .nil) (hd 9 rfl) ?_ (fun _ h => by simp at h)
  rintro _ ⟨⟩; refine Zm rfl (hd 10 rfl) ?_
  refine Ag Tryz.f66 (D4 b (by omega)) rfl Tryz.func66 rfl rfl (Aa rfl Ad) (.cons .n .nil) (hd 11 rfl) ?_ (fun _ h => by simp at h)
  rintro _ ⟨⟩; refine Za rfl (hd 0 rfl) <| Za rfl (hd 1 rfl) <| Ab <| Ae <| Zs <| Zm rfl (hd 12 rfl) <| Zm rfl (hd 13 rfl) ?_
  refine Ag Tryz.f143 (Vy (trm a) (trm b) (by omega) (by omega) (A8 ua) (A8 ub)) rfl Tryz.func143 rfl rfl (Aa rfl (Aa rfl Ad)) (.cons .n (.cons .n .nil)) (hd 14 rfl) ?_ (fun _ h => by simp at h)
  rintro y ⟨x, hy, hx⟩; injection hy with hy; subst hy; refine Ab ?_
  refine F7 rfl (fun h1 => ?_) (fun h1 => ?_)
  · refine Zs <| Za rfl (hd 6 rfl) <| Za rfl (hd 7 rfl) <| Ab <| An ?_
    refine ⟨_, _, (.cons rfl (.cons rfl .nil)), (.t1 (.nil (fr := true) (k := .u64)) (.t1 .i .t0)), ?_⟩
    refine ⟨[], 3, rfl, ?_⟩
    obtain ⟨g1, g2, g3⟩ := hx (by assumption)
    have := L7 (r := []) (A8 ua) (A8 ub) g1 g2 g3
    rwa [D7, D7] at this
  · refine Aj <| Zs <| Zm rfl (hd 15 rfl) <| Zm rfl (hd 16 rfl) <| Zm rfl (hd 17 rfl) ?_
    refine Ag Tryz.f135 (Afs (trm a) (trm b) (by omega) (by omega) (A8 ua) (A8 ub)) rfl Tryz.func135 rfl rfl (Aa rfl (Aa rfl Ad)) (.cons .n (.cons .n .nil)) (hd 18 rfl) ?_ (fun _ h => by simp at h)
    rintro y ⟨rs, hy, us, ls, vs⟩; injection hy with hy; subst hy
    refine Ag Tryz.f144 (Ad4 rs (by omega) us) rfl Tryz.func144 rfl rfl (Aa rfl Ad) (.cons .n .nil) (hd 19 rfl) ?_ (fun _ h => by simp at h)
    rintro y ⟨rf, ef, hy, hf⟩; injection hy with hy; subst hy; refine Ac (Ai rfl rfl) (hd 20 rfl) <| Ac (Ai rfl rfl) (hd 21 rfl) <| Za rfl (hd 6 rfl) <| Za rfl (hd 7 rfl) <| Ab <| An ?_
    refine ⟨_, _, (.cons rfl (.cons rfl .nil)), (.t1 .n (.t1 .i .t0)), ?_⟩
    exact ⟨rf, ef, rfl, by rwa [vs, D7, D7] at hf⟩

theorem Aiy (a b : List Int) (hla : a.length < 4294967296) (hlb : b.length < 4294967296) (ua : Av a) (ub : Av b) : Spec Tryz.prog 113 [.n false .u64 a, .n false .u64 b] (fun o => ∃ (r : List Int) (e : Int), o = .ret (.t [.n true .u64 r, .i .i64 e]) ∧ Xj (vl a * vl b) r e) := by
  refine Aw [(0, .n false .u64 a), (1, .n false .u64 b)] rfl Tryz.func113 rfl (Zb rfl) fun Γ hN hds hL hR => ?_
  have hd := B2 11 hN
  refine Zs <| Za rfl (hd 4 rfl) <| Za rfl (hd 5 rfl) <| Ab <| Zs <| Zm rfl (hd 6 rfl) <| Zm rfl (hd 7 rfl) ?_
  refine Ag Tryz.f134 (U1 a b hla hlb ua ub) rfl Tryz.func134 rfl rfl (Aa rfl (Aa rfl (Aa rfl Ad))) (.cons .n (.cons .n (.cons .f .nil))) (hd 8 rfl) ?_ (fun _ h => by simp at h)
  rintro y ⟨rp, ep, hy, hp⟩; injection hy with hy; subst hy; refine Ac (Ai rfl rfl) (hd 9 rfl) <| Ac (Ai rfl rfl) (hd 10 rfl) <| Za rfl (hd 4 rfl) <| Za rfl (hd 5 rfl) <| Ab <| An ?_
  refine ⟨_, _, (.cons rfl (.cons rfl .nil)), (.t1 .n (.t1 .i .t0)), ?_⟩
  exact ⟨rp, ep, rfl, hp⟩

theorem Ai6 (a b : List Int) (hla : a.length < 4294967296) (hlb : b.length < 4294967296) (ua : Av a) (ub : Av b) : Spec Tryz.prog 104 [.n false .u64 a, .n false .u64 b] (fun o => ∃ (r : List Int) (e : Int), o = .ret (.t [.n false .u64 r, .i .i64 e]) ∧ Xj (vl a + vl b) r e) := by
  have hu : Av (Lo a b) := by
    unfold Lo
    have hc := Qv (a := (swL (trm a) (trm b)).1) (b := (swL (trm a) (trm b)).2) (by unfold swL; split <;> exact A8 (by assumption)) (by unfold swL; split <;> exact A8 (by assumption)) (swL (trm a) (trm b)).1.length
    exact D9 (Qu _) hc.1 (by omega)
  by_cases h : Dn (trm (Lo a b)) ≤ 67108864
  · exact (Acb a b hla hlb ua ub h).mono fun o ho => ⟨_, 0, ho, Ql hu (Mj a b) (by rwa [Fj] at h)⟩
  · exact (Xh a b hla hlb ua ub (by omega)).mono fun o ho => ⟨_, 3, ho, Nd hu (Mj a b) (by rw [Fj] at h; omega)⟩
theorem Ab7 (a b : List Int) (hla : a.length < 4294967296) (hlb : b.length < 4294967296) (ua : Av a) (ub : Av b) (hle : vl b ≤ vl a) : Spec Tryz.prog 105 [.n false .u64 a, .n false .u64 b] (fun o => ∃ (r : List Int) (e : Int), o = .ret (.t [.n false .u64 r, .i .i64 e]) ∧ Xj (vl a - vl b) r e) := by
  have hc : 0 ≤ Nw (trm a) (trm b) := by rcases Hm ua ub with ⟨c, v⟩ | ⟨c, v⟩ | ⟨c, v⟩ <;> omega
  have hu : Av (Qp a b) := Oc (A8 ua) (A8 ub) _
  by_cases h : Dn (trm (Qp a b)) ≤ 67108864
  · exact (Ab6 a b hla hlb ua ub hc h).mono fun o ho => ⟨_, 0, ho, Ql hu (Ph ua ub hle) (by rwa [Fj] at h)⟩
  · exact (Afb a b hla hlb ua ub hc (by omega)).mono fun o ho => ⟨_, 3, ho, Nd hu (Ph ua ub hle) (by rw [Fj] at h; omega)⟩

theorem Aix (l : List Int) (hl : l.length < 1099511627776) : SpecM Tryz.prog 66 [.n false .u64 l] [] (fun o G => o = .ret (.o 0 0 0 (trm l).length) ∧ G = [⟨71, 1, 0, true, ints .u64 (trm l)⟩]) := by
  refine Ei [(0, .n false .u64 l)] rfl Tryz.func66 rfl (Zb rfl) fun Γ hN hds hL hR => ?_
  have hd := B2 6 hN
  have hm := Cy l
  refine Zs <| Za rfl (hd 2 rfl) <| Ab <| Zs <| Zm rfl (hd 3 rfl) ?_
  refine Ag Tryz.f72 (Ey l hl) rfl Tryz.func72 rfl rfl (Aa rfl Ad) (.cons .n .nil) (hd 4 rfl) ?_ (fun _ h => by simp at h)
  rintro _ ⟨⟩; refine A1 (Qi (id := 0) Lg rfl rfl Agj (by omega) (by unfold maxLen; omega) rfl) (hd 5 rfl) <| Za rfl (hd 2 rfl) <| Ab <| An ?_
  refine ⟨[0], _, (.o 0 0 0 (trm l).length), (.cons rfl .nil), rfl, rfl, (by decide), (by first | exact Ao Bc A0 | exact Ao rfl A0), ?_⟩
  exact ⟨rfl, rfl⟩

theorem Ahc (s : Bool) (l : List Int) (hl : l.length < 1099511627776) : SpecM Tryz.prog 101 [.a [.b s, .n false .u64 l]] [] (fun o G => o = .ret (.a [.b (s && decide (0 < ((trm l).length : Int))), .o 0 0 0 (trm l).length]) ∧ G = [⟨71, 1, 0, true, ints .u64 (trm l)⟩]) := by
  refine Ei [(0, .a [.b s, .n false .u64 l])] rfl Tryz.func101 rfl (Zb rfl) fun Γ hN hds hL hR => ?_
  have hd := B2 16 hN
  refine Zs <| A1 (Bn (id := 0) (n := 2) rfl rfl rfl (by decide) rfl) (hd 1 rfl) <| A1 (Aq (id := 1) Az (by decide) rfl (by decide) rfl) (hd 2 rfl) <| Ab <| Zs <| Ac (A5 By rfl rfl rfl) (hd 4 rfl) <| Ac (A9 B5 rfl rfl rfl) (hd 5 rfl) ?_
  refine Fk Tryz.f66 (Aix l hl) (fun o G ⟨_, h⟩ => h ▸ Ao Bc A0) rfl Tryz.func66 rfl rfl (Aa rfl Ad) (.cons .n .nil) (hd 6 rfl) ?_ (fun _ _ h => by simp at h)
  rintro y G ⟨hy, rfl⟩; injection hy with hy; subst hy
  show JO _ _ _ _ ((6, .o 2 0 0 (trm l).length) :: _) _ _
  refine Za rfl (hd 3 rfl) <| Ab <| Zs <| Ac (A5 Cx rfl rfl rfl) (hd 7 rfl) <| Ac (A9 Il rfl rfl rfl) (hd 8 rfl) <| Zm rfl (hd 9 rfl) ?_
  refine J7 9 rfl (fun h1 => ?_) (fun h1 => ?_)
  · refine Bi 9 rfl rfl (Ay rfl) (hd 10 rfl) <| Bi 9 rfl rfl (E7 A7 rfl rfl) (hd 11 rfl) <| Bi 9 rfl rfl (Ce rfl rfl) (hd 12 rfl) <| Ac (Bt rfl rfl) (hd 13 rfl) <| Zm rfl (hd 14 rfl) <| Ac (Bp (is := [0, 1]) (xs := [.tmp 13, .tmp 14]) Az C0 rfl (Aa rfl (Aa rfl Ad)) rfl (by first | (simp [Ci, cellsV]; done) | (simp [Ci, cellsV, old]; done)) (Cd rfl) rfl) (hd 15 rfl) <| A3 (Ah rfl rfl rfl B6 rfl rfl (Zb rfl)) <| Ab <| An ?_
    refine ⟨[2], _, (.a [.b (decide (0 < ((trm l).length : Int))), .o 0 0 0 (trm l).length]), (.cons (ResV.cell Bw rfl rfl rfl rfl) .nil), rfl, rfl, (by decide), (by first | exact Ao Bc A0 | exact Ao rfl A0), ?_⟩
    exact ⟨by simp_all, rfl⟩
  · refine Bz 9 rfl rfl rfl (hd 10 rfl) <| Bz 9 rfl rfl rfl (hd 11 rfl) <| Bz 9 rfl rfl rfl (hd 12 rfl) <| Ac (Bg rfl rfl) (hd 13 rfl) <| Zm rfl (hd 14 rfl) <| Ac (Bp (is := [0, 1]) (xs := [.tmp 13, .tmp 14]) Az C0 rfl (Aa rfl (Aa rfl Ad)) rfl (by first | (simp [Ci, cellsV]; done) | (simp [Ci, cellsV, old]; done)) (Cd rfl) rfl) (hd 15 rfl) <| A3 (Ah rfl rfl rfl B6 rfl rfl (Zb rfl)) <| Ab <| An ?_
    refine ⟨[2], _, (.a [.b false, .o 0 0 0 (trm l).length]), (.cons (ResV.cell Bw rfl rfl rfl rfl) .nil), rfl, rfl, (by decide), (by first | exact Ao Bc A0 | exact Ao rfl A0), ?_⟩
    exact ⟨by simp_all, rfl⟩

theorem Ahz (s : Bool) (l : List Int) (v : Int) (hl : l.length < 1099511627776) (hu : Av l) (hv : sv s l = v) : SpecM Tryz.prog 125 [.a [.b s, .n false .u64 l]] [] (fun o G => ∃ (s2 : Bool) (r : List Int) (e : Int), o = .ret (.t [.a [.b s2, .o 0 0 0 r.length], .i .i64 e]) ∧ G = [⟨71, 1, 0, true, ints .u64 r⟩] ∧ Res (v) s2 r e) := by
  refine Ei [(0, .a [.b s, .n false .u64 l])] rfl Tryz.func125 rfl (Zb rfl) fun Γ hN hds hL hR => ?_
  have hd := B2 11 hN
  refine Zs <| A1 (Bn (id := 0) (n := 2) rfl rfl rfl (by decide) rfl) (hd 1 rfl) <| A1 (Aq (id := 1) Az (by decide) rfl (by decide) rfl) (hd 2 rfl) <| Za rfl (hd 3 rfl) <| Ab <| Ae <| Zs <| Ac (A5 By rfl rfl rfl) (hd 4 rfl) <| Ac (A9 B5 rfl rfl rfl) (hd 5 rfl) ?_
  refine Ag Tryz.f30 (Dl l hl hu) rfl Tryz.func30 rfl rfl (Aa rfl Ad) (.cons .n .nil) (hd 6 rfl) ?_ (fun _ h => by simp at h)
  rintro _ ⟨⟩; refine Ac (Ce rfl rfl) (hd 7 rfl) <| Ab ?_
  refine Bh rfl (fun h1 => ?_) (fun h1 => ?_)
  · refine Zs <| Ac (Bp (is := []) (xs := []) (pls := []) Az Hr rfl Ad rfl trivial (Cd rfl) rfl) (hd 8 rfl) <| A3 (Ah rfl rfl rfl B6 rfl rfl (Zb rfl)) <| Za rfl (hd 3 rfl) <| Ab <| Rz (id := 1) 1 71 1 rfl rfl rfl <| An ?_
    refine ⟨[2], _, (.t [.a [.b false, .o 0 0 0 0], .i .i64 3]), (.cons (ResV.cell Bw rfl rfl rfl rfl) (.cons rfl .nil)), rfl, rfl, (by decide), (by first | exact Ao Bc A0 | exact Ao rfl A0), ?_⟩
    exact ⟨false, [], 3, rfl, rfl, Us hu hv (by omega)⟩
  · refine Aj <| Zs <| Ac (Au Bw rfl rfl rfl rfl) (hd 9 rfl) ?_
    refine Fk Tryz.f101 (Ahc s l hl) (fun o G ⟨_, h⟩ => h ▸ Ao Bc A0) rfl Tryz.func101 rfl rfl (Aa rfl Ad) (.cons (.a1 .b (.a1 .n .a0)) .nil) (hd 10 rfl) ?_ (fun _ _ h => by simp at h)
    rintro y G ⟨hy, rfl⟩; injection hy with hy; subst hy
    show JO _ _ _ _ ((10, .a [.b (s && decide (0 < ((trm l).length : Int))), .o 2 0 0 (trm l).length]) :: _) _ _
    refine A3 (Ah rfl rfl rfl B6 rfl rfl (Zb rfl)) <| Za rfl (hd 3 rfl) <| Ab <| An ?_
    refine ⟨[2], _, (.t [.a [.b (s && decide (0 < ((trm l).length : Int))), .o 0 0 0 (trm l).length], .i .i64 0]), (.cons (ResV.cell Bw rfl rfl rfl rfl) (.cons rfl .nil)), rfl, rfl, (by decide), (by first | exact Ao Bc A0 | exact Ao rfl A0), ?_⟩
    exact ⟨_, _, 0, rfl, rfl, Aa7 hu hv (by omega)⟩

theorem Yc (s : Bool) (l : List Int) (e v : Int) (hRs : Aks v s l e) : SpecM Tryz.prog 106 [.b s, .n false .u64 l, .i .i64 e] [] (fun o G => ∃ (s2 : Bool) (r : List Int) (e : Int), o = .ret (.t [.a [.b s2, .o 0 0 0 r.length], .i .i64 e]) ∧ G = [⟨71, 1, 0, true, ints .u64 r⟩] ∧ Res (v) s2 r e) := by
  refine Ei [(0, .b s), (1, .n false .u64 l), (2, .i .i64 e)] rfl Tryz.func106 rfl (Zb rfl) fun Γ hN hds hL hR => ?_
  have hd := B2 18 hN
  refine Zs <| A1 (Aq (id := 0) Az (by decide) rfl (by decide) rfl) (hd 6 rfl) <| Za rfl (hd 7 rfl) <| Ab <| Ae <| Zs <| Zm rfl (hd 8 rfl) <| Ac (Ec rfl rfl) (hd 9 rfl) <| Ab ?_
  refine Bh rfl (fun h1 => ?_) (fun h1 => ?_)
  · have hE : e = 3 ∧ 67108864 < Al v := by
      rcases hRs with ⟨h, _⟩ | h
      · omega
      · exact h
    refine Zs <| Ac (Bp (is := []) (xs := []) (pls := []) Az Hr rfl Ad rfl trivial (Cd rfl) rfl) (hd 10 rfl) <| Zm rfl (hd 11 rfl) <| A3 (Ah rfl rfl rfl B6 rfl rfl (Zb rfl)) <| Za rfl (hd 7 rfl) <| Ab <| Rz (id := 0) 1 71 1 rfl rfl rfl <| An ?_
    refine ⟨[1], _, (.t [.a [.b false, .o 0 0 0 0], .i .i64 e]), (.cons (ResV.cell Bw rfl rfl rfl rfl) (.cons rfl .nil)), rfl, rfl, (by decide), (by first | exact Ao Bc A0 | exact Ao rfl A0), ?_⟩
    exact ⟨false, [], e, rfl, rfl, .inr ⟨hE.2, rfl, rfl, hE.1⟩⟩
  · have hE : Av l ∧ l.length < 1099511627776 ∧ sv s l = v := by
      rcases hRs with ⟨_, h⟩ | ⟨h, _⟩
      · exact h
      · omega
    refine Aj <| Zs <| Zm rfl (hd 12 rfl) <| Zm rfl (hd 13 rfl) <| Ac (Bp (is := [0, 1]) (xs := [.tmp 12, .tmp 13]) Az C0 rfl (Aa rfl (Aa rfl Ad)) rfl (by first | (simp [Ci, cellsV]; done) | (simp [Ci, cellsV, old]; done)) (Cd rfl) rfl) (hd 14 rfl) ?_
    refine Fk Tryz.f125 (Ahz s l v hE.2.1 hE.1 hE.2.2) (fun o G ⟨_, _, _, _, h, _⟩ => h ▸ Ao Bc A0) rfl Tryz.func125 rfl rfl (Aa rfl Ad) (.cons (.a1 .b (.a1 .n .a0)) .nil) (hd 15 rfl) ?_ (fun _ _ h => by simp at h)
    rintro y G ⟨sf, rf, ef, hy, rfl, hf⟩; injection hy with hy; subst hy
    show JO _ _ _ _ ((15, .t [.a [.b sf, .o 1 0 0 rf.length], .i .i64 ef]) :: _) _ _
    refine Ac (Ai rfl rfl) (hd 16 rfl) <| Ac (Ai rfl rfl) (hd 17 rfl) <| A3 (Ah rfl rfl rfl B6 rfl rfl (Zb rfl)) <| Za rfl (hd 7 rfl) <| Ab <| An ?_
    refine ⟨[1], _, (.t [.a [.b sf, .o 0 0 0 rf.length], .i .i64 ef]), (.cons (ResV.cell Bw rfl rfl rfl rfl) (.cons rfl .nil)), rfl, rfl, (by decide), (by first | exact Ao Bc A0 | exact Ao rfl A0), ?_⟩
    exact ⟨sf, rf, ef, rfl, rfl, hf⟩


theorem Aa8 (x y : Nat) (hx : (Cb B32 x).length < 1099511627776) (hy : (Cb B32 y).length < 1099511627776) : Spec Tryz.prog 21 [.n false .u64 (Cb B32 x), .n false .u64 (Cb B32 y)] (fun o => o = .ret (.i .i64 (C1 x y))) := by
  refine Aw [(0, .n false .u64 (Cb B32 x)), (1, .n false .u64 (Cb B32 y))] rfl Tryz.func21 rfl (Zb rfl) fun Γ hN hds hL hR => ?_
  have hd := B2 41 hN
  have hcm := O8 (b := B32) (by decide) x y
  unfold Nw at hcm
  refine Zs <| Za rfl (hd 4 rfl) <| Ab <| Ae <| Zs <| Zm rfl (hd 6 rfl) <| Ac (Ar Nu rfl) (hd 7 rfl) <| Zm rfl (hd 8 rfl) <| Ac (Ar Nu rfl) (hd 9 rfl) <| Ac (Ec rfl rfl) (hd 10 rfl) <| Ab ?_
  refine Bh rfl (fun h1 => ?_) (fun h1 => ?_)
  · refine Ae <| Zs <| Zm rfl (hd 11 rfl) <| Ac (Ar Nu rfl) (hd 12 rfl) <| Zm rfl (hd 13 rfl) <| Ac (Ar Nu rfl) (hd 14 rfl) <| Ac (Ca rfl rfl) (hd 15 rfl) <| Ab ?_
    refine Bh rfl (fun h2 => ?_) (fun h2 => ?_)
    · refine Zs <| Za rfl (hd 4 rfl) <| Ab <| An ?_
      refine ⟨_, _, (.cons rfl .nil), .i, ?_⟩
      rw [← hcm, if_pos (by omega)]
    · refine Aj <| Zs <| Za rfl (hd 4 rfl) <| Ab <| An ?_
      refine ⟨_, _, (.cons rfl .nil), .i, ?_⟩
      rw [← hcm, if_neg (by omega), if_pos (by omega)]
  · refine Aj <| Ae <| Zs <| Zm rfl (hd 16 rfl) <| Ac (Ar Nu rfl) (hd 17 rfl) <| Ac (Bm rfl rfl (Ak (by omega) (by omega))) (hd 18 rfl) <| Za rfl (hd 5 rfl) <| Ab <| At ?_
    refine Ch (G := Nat) (fun k => k ≤ (Cb B32 x).length ∧ Jn (Cb B32 x) (Cb B32 y) k = Jn (Cb B32 x) (Cb B32 y) (Cb B32 x).length) (fun k => [(5, .i .i64 ((k : Int) - 1)), (4, .u), (19, .u), (20, .u), (21, .u), (22, .u), (23, .u), (24, .u), (25, .u), (26, .u), (27, .u), (28, .u), (29, .u), (30, .u), (31, .u), (32, .u), (33, .u), (34, .u), (35, .u), (36, .u), (37, .u), (38, .u), (39, .u), (40, .u)]) (fun _ => _) (fun k => k) (Cb B32 x).length ?_ ?_ rfl ?_
    · exact ⟨Nat.le_refl _, rfl⟩
    · exact (.cons rfl (.v9 (.v9 (.u (.u (.u .nil))))))
    · rintro k ⟨hc1, hc2⟩; refine Ae <| Zs <| Zm rfl (hd 19 rfl) <| Ac (F6 rfl rfl) (hd 20 rfl) <| Ab ?_
      refine Bh rfl (fun h3 => ?_) (fun h3 => ?_)
      · refine Aj <| Ae <| At <| Ae <| Ae <| Bo (n := 9) _ rfl B9 <| Z2 0 [2, 3, 8] (Am (Ay rfl) (hd 23 rfl)) rfl <| Z2 1 [2, 3, 8] (Am (Ay rfl) (hd 24 rfl)) rfl <| Z2 2 [3, 8] (Am (Cc (i := k - 1) Nu rfl rfl (by omega) (by omega)) (hd 25 rfl)) rfl <| Z1 3 (Am (B8 Bu rfl rfl) (hd 26 rfl)) rfl <| Z2 4 [6, 7, 8] (Am (Ay rfl) (hd 27 rfl)) rfl <| Z2 5 [6, 7, 8] (Am (Ay rfl) (hd 28 rfl)) rfl <| Z2 6 [7, 8] (Am (Cc (i := k - 1) Nu rfl rfl (by omega) (by omega)) (hd 29 rfl)) rfl ?_; refine Z1 7 (Am (B8 Bu rfl rfl) (hd 30 rfl)) rfl <| Z1 8 (Am (Ca rfl rfl) (hd 31 rfl)) rfl <| Bx (by kernel_rfl) ?_
        refine Bh rfl (fun h4 => ?_) (fun h4 => ?_)
        · refine Zs <| Za rfl (hd 4 rfl) <| Ab <| An ?_
          refine ⟨_, _, (.cons rfl .nil), .i, ?_⟩
          rw [← hcm, if_neg (by omega), if_neg (by omega), ← hc2, Wl (by omega) (by assumption)]
        · refine Aj <| Ae <| Bo (n := 9) _ rfl B9 <| Z2 0 [2, 3, 8] (Am (Ay rfl) (hd 32 rfl)) rfl <| Z2 1 [2, 3, 8] (Am (Ay rfl) (hd 33 rfl)) rfl <| Z2 2 [3, 8] (Am (Cc (i := k - 1) Nu rfl rfl (by omega) (by omega)) (hd 34 rfl)) rfl <| Z1 3 (Am (B8 Bu rfl rfl) (hd 35 rfl)) rfl <| Z2 4 [6, 7, 8] (Am (Ay rfl) (hd 36 rfl)) rfl <| Z2 5 [6, 7, 8] (Am (Ay rfl) (hd 37 rfl)) rfl <| Z2 6 [7, 8] (Am (Cc (i := k - 1) Nu rfl rfl (by omega) (by omega)) (hd 38 rfl)) rfl <| Z1 7 (Am (B8 Bu rfl rfl) (hd 39 rfl)) rfl <| Z1 8 (Am (Ce rfl rfl) (hd 40 rfl)) rfl <| Bx (by kernel_rfl) ?_
          refine Bh rfl (fun h5 => ?_) (fun h5 => ?_)
          · refine Zs <| Za rfl (hd 4 rfl) <| Ab <| An ?_
            refine ⟨_, _, (.cons rfl .nil), .i, ?_⟩
            rw [← hcm, if_neg (by omega), if_neg (by omega), ← hc2, Wm (by omega) (by assumption)]
          · refine Aj <| Af <| Zm rfl (hd 21 rfl) <| Ac (Bm rfl rfl (Ak (by omega) (by omega))) (hd 22 rfl) <| Za rfl (hd 5 rfl) <| Ab ?_
            refine ⟨k - 1, ?_, ?_, rfl, Bj 47 rfl rfl ?_⟩
            · exact ⟨by omega, by rw [← hc2]; exact Wn (by omega) (by assumption) (by assumption)⟩
            · omega
            · exact (.cons (by show some (V.i .i64 _) = some (V.i .i64 _); congr 2; omega) (.v9 (.v9 (.u (.u (.u .nil))))))
      · refine Br <| Zs <| Za rfl (hd 4 rfl) <| Ab <| An ?_
        refine ⟨_, _, (.cons rfl .nil), .i, ?_⟩
        rw [← hcm, if_neg (by omega), if_neg (by omega), ← hc2]
        obtain rfl : k = 0 := by omega
        rfl




theorem Alk (x : Nat) (hx : x < 18446744073709551616) : Spec Tryz.prog 127 [.i .u64 (x : Int)] (fun o => o = .ret (.i .i64 ((64 - bl 64 x : Nat) : Int))) := by
  refine Aw [(0, .i .u64 (x : Int))] rfl Tryz.func127 rfl (Zb rfl) fun Γ hN hds hL hR => ?_
  have hd := B2 6 hN
  have hb := Wy 64 x
  refine Zs <| Za rfl (hd 2 rfl) <| Ab <| Zs <| Zm rfl (hd 3 rfl) ?_
  refine Ag Tryz.f73 (Xe x hx) rfl Tryz.func73 rfl rfl (Aa rfl Ad) (.cons .i .nil) (hd 4 rfl) ?_ (fun _ h => by simp at h)
  rintro _ ⟨⟩; refine Ac (Bm rfl rfl (r := ((64 - bl 64 x : Nat) : Int)) (by rw [Ak (by omega) (by omega)]; omega)) (hd 5 rfl) <| Za rfl (hd 2 rfl) <| Ab <| An ?_
  refine ⟨_, _, (.cons rfl .nil), .i, ?_⟩
  exact rfl

theorem Qy (hi lo y : Int) (hh0 : 0 ≤ hi) (hhy : hi < y) (hl0 : 0 ≤ lo) (hl1 : lo < 18446744073709551616) (hy1 : y < 18446744073709551616) : Spec Tryz.prog 126 [.i .u64 hi, .i .u64 lo, .i .u64 y] (fun o => o = .ret (.t [.i .u64 ((hi * 18446744073709551616 + lo) / y), .i .u64 ((hi * 18446744073709551616 + lo) % y)])) := by
  refine Aw [(0, .i .u64 hi), (1, .i .u64 lo), (2, .i .u64 y)] rfl Tryz.func126 rfl (Zb rfl) fun Γ hN hds hL hR => ?_
  have hd := B2 135 hN
  obtain ⟨s, hs⟩ : ∃ s : Nat, 64 - bl 64 y.toNat = s := ⟨_, rfl⟩
  have hz := Abi (show 0 < y by omega) hy1
  rw [hs] at hz
  obtain ⟨s64, y0, y1⟩ := hz
  have hD := Zw s64 hh0 hhy hl0 hl1 y0 y1
  dsimp only at hD
  obtain ⟨Y, hY⟩ : ∃ Y, y * 2 ^ s = Y := ⟨_, rfl⟩
  obtain ⟨U, hU⟩ : ∃ U, hi * 2 ^ s + hiS lo s = U := ⟨_, rfl⟩
  obtain ⟨L, hLo⟩ : ∃ L, loS lo s = L := ⟨_, rfl⟩
  have hLb := @L2 lo s
  rw [hLo] at hLb
  rw [hY] at y0 y1
  rw [hY, hU, hLo] at hD
  obtain ⟨N1, hN1⟩ : ∃ N, U * 4294967296 + L / 4294967296 = N := ⟨_, rfl⟩
  rw [hN1] at hD
  obtain ⟨R1, hR1⟩ : ∃ N, N1 % Y = N := ⟨_, rfl⟩
  rw [hR1] at hD
  obtain ⟨N2, hN2⟩ : ∃ N, R1 * 4294967296 + L % 4294967296 = N := ⟨_, rfl⟩
  rw [hN2] at hD
  obtain ⟨hP1, hP2, hE1, hE2⟩ := hD
  have hU0 := hP1.u0
  have hU1 := hP1.lt
  have hp2 := H3 s
  have hhs : 0 ≤ hi * 2 ^ s := Int.mul_nonneg hh0 (Int.le_of_lt hp2)
  have hhb := K9 (s := s) (Nat.le_of_lt s64) hl0 hl1
  have hq1l := hP1.q_lt
  have hq1n := hP1.q_nn
  have hq2l := hP2.q_lt
  have hq2n := hP2.q_nn
  have hfi1 := hP1.first
  have hfi2 := hP2.first
  have hr20 := hP2.u0
  have hr21 := hP2.lt
  have hrr := hP2.rest_lt
  refine Zs <| Za rfl (hd 6 rfl) <| Za rfl (hd 7 rfl) <| Ab <| Ae <| Zs <| Zm rfl (hd 19 rfl) <| Ac (B0 (Cq rfl rfl) (by omega)) (hd 20 rfl) <| Ab <| A6 rfl <| Aj ?_; refine Ae <| Zs <| Zm rfl (hd 22 rfl) <| Zm rfl (hd 23 rfl) <| Ac (B0 (Jq rfl rfl) (by omega)) (hd 24 rfl) <| Ab <| A6 rfl <| Aj <| Ae <| Zs <| Zm rfl (hd 26 rfl) ?_; refine Ac (Cq rfl rfl) (hd 27 rfl) <| Ab ?_
  refine Bh rfl (fun h3 => ?_) (fun h3 => ?_)
  · obtain rfl : hi = 0 := h3
    refine Ae <| Bo (n := 8) _ rfl B9 <| Z1 0 (Am (Ay rfl) (hd 28 rfl)) rfl <| Z1 1 (Am (Ay rfl) (hd 29 rfl)) rfl <| Z1 2 (Am (Gc rfl rfl (by omega) (r := lo / y) (P1 hl0 hl1 (by omega))) (hd 30 rfl)) rfl <| Z1 3 (Am (Ay rfl) (hd 31 rfl)) rfl <| Z1 4 (Am (Ay rfl) (hd 32 rfl)) rfl <| Z1 5 (Am (Bk (K4 rfl rfl (by omega) rfl) (show V.i .u64 _ = V.i .u64 (lo % y) from congrArg (V.i .u64) (Int.tmod_eq_emod_of_nonneg hl0))) (hd 33 rfl)) rfl <| Z1 6 (Am (Cm rfl) (hd 6 rfl)) rfl <| Z1 7 (Am (Cm rfl) (hd 7 rfl)) rfl <| Bx (by kernel_rfl) <| An ?_
    refine ⟨_, _, (.cons rfl (.cons rfl .nil)), (.t1 .i (.t1 .i .t0)), ?_⟩
    rw [Int.zero_mul, Int.zero_add]
  · refine Aj <| Zs <| Ac (Bk (Ay rfl) (show V.i .u64 _ = V.i .u64 ((y.toNat : Int)) from congrArg (V.i .u64) (Int.toNat_of_nonneg (by omega)).symm)) (hd 34 rfl) ?_
    refine Ag Tryz.f127 (Alk y.toNat (by omega)) rfl Tryz.func127 rfl rfl (Aa rfl Ad) (.cons .i .nil) (hd 35 rfl) ?_ (fun _ h => by simp at h)
    rintro _ ⟨⟩; refine Ac (D5 N5 Lm rfl (r := (s : Int)) (by rw [hs]; exact Bf (by omega) (by omega))) (hd 36 rfl) <| Za rfl (hd 8 rfl) <| Ab <| Zs <| Zm rfl (hd 37 rfl) <| Zm rfl (hd 38 rfl) <| Ac (Bk (Gz rfl rfl (by omega) rfl) (show V.i .u64 _ = V.i .u64 (Y) from congrArg (V.i .u64) (Ac1 (by omega) hY (by omega) (by omega)))) (hd 39 rfl) <| Za rfl (hd 2 rfl) <| Ab <| Zs <| Zm rfl (hd 40 rfl) ?_; refine Ac (Bk (Eh rfl rfl (by omega) rfl) (show V.i .u64 _ = V.i .u64 (Y / 4294967296) from congrArg (V.i .u64) (Ps (by omega)))) (hd 41 rfl) <| Za rfl (hd 9 rfl) <| Ab <| Zs <| Zm rfl (hd 42 rfl) <| Ac (Bk (Gd (by simp) rfl rfl rfl) (show V.i .u64 _ = V.i .u64 (Y % 4294967296) from congrArg (V.i .u64) (W3 (by omega) (by omega)))) (hd 43 rfl) <| Za rfl (hd 10 rfl) <| Ab <| Zs <| Zm rfl (hd 44 rfl) <| Zm rfl (hd 45 rfl) ?_; refine Ac (Bk (Gz rfl rfl (by omega) rfl) (show V.i .u64 _ = V.i .u64 (loS hi s) from congrArg (V.i .u64) (G4 (by omega)))) (hd 46 rfl) <| Zm rfl (hd 47 rfl) <| Zm rfl (hd 48 rfl) <| Ac (Bm rfl rfl (r := ((64 - s : Nat) : Int)) (by rw [Bf (by omega) (by omega)]; omega)) (hd 49 rfl) <| Ac (Bk (Eh rfl rfl (by omega) rfl) (show V.i .u64 _ = V.i .u64 (lo / 2 ^ (64 - s)) from congrArg (V.i .u64) (Hy (by omega)))) (hd 50 rfl) <| Ac (Bk (Gd (by simp) rfl rfl rfl) (show V.i .u64 _ = V.i .u64 (U) from congrArg (V.i .u64) ((Aj3 (by omega) hhs (by omega) hl0 hl1 hh0).trans hU))) (hd 51 rfl) <| Za rfl (hd 11 rfl) <| Ab <| Zs <| Zm rfl (hd 52 rfl) <| Zm rfl (hd 53 rfl) <| Ac (Bk (Gz rfl rfl (by omega) rfl) (show V.i .u64 _ = V.i .u64 (L) from congrArg (V.i .u64) ((G4 (by omega)).trans hLo))) (hd 54 rfl) ?_; refine Za rfl (hd 12 rfl) <| Ab <| Zs <| Zm rfl (hd 55 rfl) <| Ac (Bk (Eh rfl rfl (by omega) rfl) (show V.i .u64 _ = V.i .u64 (L / 4294967296) from congrArg (V.i .u64) (Ps (by omega)))) (hd 56 rfl) <| Za rfl (hd 13 rfl) <| Ab <| Zs <| Zm rfl (hd 57 rfl) <| Ac (Bk (Gd (by simp) rfl rfl rfl) (show V.i .u64 _ = V.i .u64 (L % 4294967296) from congrArg (V.i .u64) (W3 (by omega) (by omega)))) (hd 58 rfl) <| Za rfl (hd 14 rfl) ?_; refine Ab <| Zs <| Zm rfl (hd 59 rfl) <| Zm rfl (hd 60 rfl) <| Ac (Gc rfl rfl (by omega) (r := U / (Y / 4294967296)) (P1 (by omega) (by omega) (by omega))) (hd 61 rfl) <| Za rfl (hd 15 rfl) <| Ab <| Zs <| Zm rfl (hd 62 rfl) <| Zm rfl (hd 63 rfl) <| Zm rfl (hd 64 rfl) ?_; refine Ac (Dw rfl rfl rfl) (hd 65 rfl) <| Ac (Bk (Bm rfl rfl rfl) (show V.i .u64 _ = V.i .u64 (U - U / (Y / 4294967296) * (Y / 4294967296)) from congrArg (V.i .u64) (T7 hfi1.1.2.2.2 (by omega)))) (hd 66 rfl) <| Za rfl (hd 16 rfl) <| Ab ?_
    refine C9 (G := Unit) (fun _ => True) (fun _ => [(15, .i .u64 (N1 / Y)), (16, .u), (67, .u), (68, .u), (69, .u), (70, .u), (71, .u), (72, .u), (73, .u), (74, .u), (75, .u), (76, .u), (77, .u), (78, .u), (79, .u), (80, .u), (81, .u), (82, .u), (83, .u), (84, .u), (85, .u)]) ?_ ?_
    · refine At ?_
      refine Ch (G := Int × Int) (fun g => Hf N1 Y U g.1 g.2 ∧ 0 ≤ g.1 ∧ g.2 < 4294967296) (fun g => [(15, .i .u64 g.1), (16, .i .u64 g.2), (67, .u), (68, .u), (69, .u), (70, .u), (71, .u), (72, .u), (73, .u), (74, .u), (75, .u), (76, .u), (77, .u), (78, .u), (79, .u), (80, .u), (81, .u), (82, .u), (83, .u), (84, .u), (85, .u)]) (fun _ => _) (fun g => g.1.toNat) (U / (Y / 4294967296), U - U / (Y / 4294967296) * (Y / 4294967296)) ?_ ?_ rfl ?_
      · exact ⟨hP1.first.1, hP1.first.2.1, hP1.first.2.2⟩
      · exact (.cons rfl (.cons rfl (.v9 (.v5 (.u (.u (.u (.u .nil))))))))
      · rintro ⟨q, r⟩ ⟨hf, hq0, hr1⟩
        dsimp only at hf hq0 hr1
        have hf4 := hf
        obtain ⟨he, hQ, hq1, hr0⟩ := hf4
        have hmb := Ji (m := 4294967295) hq0 (show 0 ≤ Y % 4294967296 by omega)
        refine Ae <| Zs <| Zm rfl (hd 67 rfl) <| Ac (F6 rfl rfl) (hd 68 rfl) <| Zm rfl (hd 69 rfl) ?_
        refine Ez 69 rfl (fun h4 => ?_) (fun h4 => ?_)
        · refine Bz 69 rfl rfl rfl (hd 70 rfl) <| Bz 69 rfl rfl rfl (hd 71 rfl) <| Bz 69 rfl rfl rfl (hd 72 rfl) <| Bz 69 rfl rfl rfl (hd 73 rfl) <| Bz 69 rfl rfl rfl (hd 74 rfl) <| Bz 69 rfl rfl rfl (hd 75 rfl) <| Bz 69 rfl rfl rfl (hd 76 rfl) <| Bz 69 rfl rfl rfl (hd 77 rfl) <| Ac (Bt rfl rfl) (hd 78 rfl) <| Ab <| Cw rfl <| Aj <| At ?_; refine Ae ?_
          obtain ⟨hn1, hn2, hn3⟩ := hP1.next hf (by first | (left; omega) | (right; omega))
          refine Af <| Zm rfl (hd 79 rfl) <| Ac (Bm rfl rfl (Bf (by first | omega | (dsimp only; omega)) (by first | omega | (dsimp only; omega)))) (hd 80 rfl) <| Za rfl (hd 15 rfl) <| Ab <| Zs <| Zm rfl (hd 81 rfl) <| Zm rfl (hd 82 rfl) <| Ac (Bd rfl rfl (Bf (by first | omega | (dsimp only; omega)) (by first | omega | (dsimp only; omega)))) (hd 83 rfl) <| Za rfl (hd 16 rfl) <| Ab <| Ae ?_; refine Af <| Zm rfl (hd 84 rfl) <| Ac (F6 rfl rfl) (hd 85 rfl) <| Ab ?_
          refine Bh rfl (fun h6 => ?_) (fun h6 => ?_)
          · refine Br ?_
            refine ⟨(), ?_, rfl, Bj 43 rfl rfl ?_⟩
            · trivial
            · exact (.cons (by show some (V.i .u64 _) = some (V.i .u64 _); congr 2; first | exact hP1.over hn1 (by omega) (by omega) (by omega) | exact hP1.last hf (by omega)) (.v9 (.v9 .nil)))
          · refine Aj ?_
            refine ⟨(q - 1, r + Y / 4294967296), ?_, ?_, rfl, Bj 43 rfl rfl ?_⟩
            · exact ⟨hn1, by show 0 ≤ q - 1; omega, by show r + Y / 4294967296 < 4294967296; omega⟩
            · show (q - 1).toNat < q.toNat
              omega
            · exact (.cons rfl (.cons rfl (.v9 (.v5 (.u (.u (.u (.u .nil))))))))
        · refine Bi 69 rfl rfl (Ay rfl) (hd 70 rfl) <| Bi 69 rfl rfl (Ay rfl) (hd 71 rfl) <| Bi 69 rfl rfl (Dw rfl rfl (Bf (by have := hmb (by omega) (by omega); dsimp only; omega) (by have := hmb (by omega) (by omega); dsimp only; omega))) (hd 72 rfl) <| Bi 69 rfl rfl (Ay rfl) (hd 73 rfl) <| Bi 69 rfl rfl (Dw rfl rfl (Bf (by first | omega | (dsimp only; omega)) (by first | omega | (dsimp only; omega)))) (hd 74 rfl) <| Bi 69 rfl rfl (Ay rfl) (hd 75 rfl) <| Bi 69 rfl rfl (Bd rfl rfl (Bf (by first | omega | (dsimp only; omega)) (by first | omega | (dsimp only; omega)))) (hd 76 rfl) <| Bi 69 rfl rfl (Ce rfl rfl) (hd 77 rfl) <| Ac (Bg rfl rfl) (hd 78 rfl) <| Ab ?_
          refine Bh rfl (fun h7 => ?_) (fun h7 => ?_)
          · refine Aj <| At <| Ae ?_
            obtain ⟨hn1, hn2, hn3⟩ := hP1.next hf (by first | (left; omega) | (right; omega))
            refine Af <| Zm rfl (hd 79 rfl) <| Ac (Bm rfl rfl (Bf (by first | omega | (dsimp only; omega)) (by first | omega | (dsimp only; omega)))) (hd 80 rfl) <| Za rfl (hd 15 rfl) <| Ab <| Zs <| Zm rfl (hd 81 rfl) <| Zm rfl (hd 82 rfl) <| Ac (Bd rfl rfl (Bf (by first | omega | (dsimp only; omega)) (by first | omega | (dsimp only; omega)))) (hd 83 rfl) <| Za rfl (hd 16 rfl) <| Ab <| Ae ?_; refine Af <| Zm rfl (hd 84 rfl) <| Ac (F6 rfl rfl) (hd 85 rfl) <| Ab ?_
            refine Bh rfl (fun h8 => ?_) (fun h8 => ?_)
            · refine Br ?_
              refine ⟨(), ?_, rfl, Bj 43 rfl rfl ?_⟩
              · trivial
              · exact (.cons (by show some (V.i .u64 _) = some (V.i .u64 _); congr 2; first | exact hP1.over hn1 (by omega) (by omega) (by omega) | exact hP1.last hf (by omega)) (.v9 (.v9 .nil)))
            · refine Aj ?_
              refine ⟨(q - 1, r + Y / 4294967296), ?_, ?_, rfl, Bj 43 rfl rfl ?_⟩
              · exact ⟨hn1, by show 0 ≤ q - 1; omega, by show r + Y / 4294967296 < 4294967296; omega⟩
              · show (q - 1).toNat < q.toNat
                omega
              · exact (.cons rfl (.cons rfl (.v9 (.v5 (.u (.u (.u (.u .nil))))))))
          · refine Br ?_
            refine ⟨(), ?_, rfl, Bj 34 rfl rfl ?_⟩
            · trivial
            · exact (.cons (by show some (V.i .u64 _) = some (V.i .u64 _); congr 2; first | exact hP1.over hn1 (by omega) (by omega) (by omega) | exact hP1.last hf (by omega)) (.v9 (.v9 .nil)))
    · rintro _ _; refine Zs <| Zm rfl (hd 86 rfl) <| Ac (Dw rfl rfl rfl) (hd 87 rfl) <| Zm rfl (hd 88 rfl) <| Ac (Bd rfl rfl rfl) (hd 89 rfl) <| Zm rfl (hd 90 rfl) <| Zm rfl (hd 91 rfl) <| Ac (Dw rfl rfl rfl) (hd 92 rfl) <| Ac (Bk (Bm rfl rfl rfl) (show V.i .u64 _ = V.i .u64 (R1) from congrArg (V.i .u64) (hP1.rest.trans hR1))) (hd 93 rfl) <| Za rfl (hd 17 rfl) <| Ab <| Ae ?_; refine Af <| Zm rfl (hd 94 rfl) <| Zm rfl (hd 95 rfl) <| Ac (Gc rfl rfl (by omega) (r := R1 / (Y / 4294967296)) (P1 (by omega) (by omega) (by omega))) (hd 96 rfl) <| Za rfl (hd 18 rfl) <| Ab <| Zs <| Zm rfl (hd 97 rfl) <| Zm rfl (hd 98 rfl) <| Zm rfl (hd 99 rfl) <| Ac (Dw rfl rfl rfl) (hd 100 rfl) <| Ac (Bk (Bm rfl rfl rfl) (show V.i .u64 _ = V.i .u64 (R1 - R1 / (Y / 4294967296) * (Y / 4294967296)) from congrArg (V.i .u64) (T7 hfi2.1.2.2.2 (by omega)))) (hd 101 rfl) ?_; refine Za rfl (hd 16 rfl) <| Ab ?_
      refine C9 (G := Unit) (fun _ => True) (fun _ => [(18, .i .u64 (N2 / Y)), (16, .u), (102, .u), (103, .u), (104, .u), (105, .u), (106, .u), (107, .u), (108, .u), (109, .u), (110, .u), (111, .u), (112, .u), (113, .u), (114, .u), (115, .u), (116, .u), (117, .u), (118, .u), (119, .u), (120, .u)]) ?_ ?_
      · refine At ?_
        refine Ch (G := Int × Int) (fun g => Hf N2 Y R1 g.1 g.2 ∧ 0 ≤ g.1 ∧ g.2 < 4294967296) (fun g => [(18, .i .u64 g.1), (16, .i .u64 g.2), (102, .u), (103, .u), (104, .u), (105, .u), (106, .u), (107, .u), (108, .u), (109, .u), (110, .u), (111, .u), (112, .u), (113, .u), (114, .u), (115, .u), (116, .u), (117, .u), (118, .u), (119, .u), (120, .u)]) (fun _ => _) (fun g => g.1.toNat) (R1 / (Y / 4294967296), R1 - R1 / (Y / 4294967296) * (Y / 4294967296)) ?_ ?_ rfl ?_
        · exact ⟨hP2.first.1, hP2.first.2.1, hP2.first.2.2⟩
        · exact (.cons rfl (.cons rfl (.v9 (.v5 (.u (.u (.u (.u .nil))))))))
        · rintro ⟨q, r⟩ ⟨hf, hq0, hr1⟩
          dsimp only at hf hq0 hr1
          have hf4 := hf
          obtain ⟨he, hQ, hq1, hr0⟩ := hf4
          have hmb := Ji (m := 4294967295) hq0 (show 0 ≤ Y % 4294967296 by omega)
          refine Ae <| Zs <| Zm rfl (hd 102 rfl) <| Ac (F6 rfl rfl) (hd 103 rfl) <| Zm rfl (hd 104 rfl) ?_
          refine Ez 104 rfl (fun h9 => ?_) (fun h9 => ?_)
          · refine Bz 104 rfl rfl rfl (hd 105 rfl) <| Bz 104 rfl rfl rfl (hd 106 rfl) <| Bz 104 rfl rfl rfl (hd 107 rfl) <| Bz 104 rfl rfl rfl (hd 108 rfl) <| Bz 104 rfl rfl rfl (hd 109 rfl) <| Bz 104 rfl rfl rfl (hd 110 rfl) <| Bz 104 rfl rfl rfl (hd 111 rfl) <| Bz 104 rfl rfl rfl (hd 112 rfl) <| Ac (Bt rfl rfl) (hd 113 rfl) <| Ab <| Cw rfl <| Aj <| At ?_; refine Ae ?_
            obtain ⟨hn1, hn2, hn3⟩ := hP2.next hf (by first | (left; omega) | (right; omega))
            refine Af <| Zm rfl (hd 114 rfl) <| Ac (Bm rfl rfl (Bf (by first | omega | (dsimp only; omega)) (by first | omega | (dsimp only; omega)))) (hd 115 rfl) <| Za rfl (hd 18 rfl) <| Ab <| Zs <| Zm rfl (hd 116 rfl) <| Zm rfl (hd 117 rfl) <| Ac (Bd rfl rfl (Bf (by first | omega | (dsimp only; omega)) (by first | omega | (dsimp only; omega)))) (hd 118 rfl) <| Za rfl (hd 16 rfl) <| Ab <| Ae ?_; refine Af <| Zm rfl (hd 119 rfl) <| Ac (F6 rfl rfl) (hd 120 rfl) <| Ab ?_
            refine Bh rfl (fun h11 => ?_) (fun h11 => ?_)
            · refine Br ?_
              refine ⟨(), ?_, rfl, Bj 43 rfl rfl ?_⟩
              · trivial
              · exact (.cons (by show some (V.i .u64 _) = some (V.i .u64 _); congr 2; first | exact hP2.over hn1 (by omega) (by omega) (by omega) | exact hP2.last hf (by omega)) (.v9 (.v9 .nil)))
            · refine Aj ?_
              refine ⟨(q - 1, r + Y / 4294967296), ?_, ?_, rfl, Bj 43 rfl rfl ?_⟩
              · exact ⟨hn1, by show 0 ≤ q - 1; omega, by show r + Y / 4294967296 < 4294967296; omega⟩
              · show (q - 1).toNat < q.toNat
                omega
              · exact (.cons rfl (.cons rfl (.v9 (.v5 (.u (.u (.u (.u .nil))))))))
          · refine Bi 104 rfl rfl (Ay rfl) (hd 105 rfl) <| Bi 104 rfl rfl (Ay rfl) (hd 106 rfl) <| Bi 104 rfl rfl (Dw rfl rfl (Bf (by have := hmb (by omega) (by omega); dsimp only; omega) (by have := hmb (by omega) (by omega); dsimp only; omega))) (hd 107 rfl) <| Bi 104 rfl rfl (Ay rfl) (hd 108 rfl) <| Bi 104 rfl rfl (Dw rfl rfl (Bf (by first | omega | (dsimp only; omega)) (by first | omega | (dsimp only; omega)))) (hd 109 rfl) <| Bi 104 rfl rfl (Ay rfl) (hd 110 rfl) <| Bi 104 rfl rfl (Bd rfl rfl (Bf (by first | omega | (dsimp only; omega)) (by first | omega | (dsimp only; omega)))) (hd 111 rfl) <| Bi 104 rfl rfl (Ce rfl rfl) (hd 112 rfl) <| Ac (Bg rfl rfl) (hd 113 rfl) <| Ab ?_
            refine Bh rfl (fun h12 => ?_) (fun h12 => ?_)
            · refine Aj <| At <| Ae ?_
              obtain ⟨hn1, hn2, hn3⟩ := hP2.next hf (by first | (left; omega) | (right; omega))
              refine Af <| Zm rfl (hd 114 rfl) <| Ac (Bm rfl rfl (Bf (by first | omega | (dsimp only; omega)) (by first | omega | (dsimp only; omega)))) (hd 115 rfl) <| Za rfl (hd 18 rfl) <| Ab <| Zs <| Zm rfl (hd 116 rfl) <| Zm rfl (hd 117 rfl) <| Ac (Bd rfl rfl (Bf (by first | omega | (dsimp only; omega)) (by first | omega | (dsimp only; omega)))) (hd 118 rfl) <| Za rfl (hd 16 rfl) <| Ab <| Ae ?_; refine Af <| Zm rfl (hd 119 rfl) <| Ac (F6 rfl rfl) (hd 120 rfl) <| Ab ?_
              refine Bh rfl (fun h13 => ?_) (fun h13 => ?_)
              · refine Br ?_
                refine ⟨(), ?_, rfl, Bj 43 rfl rfl ?_⟩
                · trivial
                · exact (.cons (by show some (V.i .u64 _) = some (V.i .u64 _); congr 2; first | exact hP2.over hn1 (by omega) (by omega) (by omega) | exact hP2.last hf (by omega)) (.v9 (.v9 .nil)))
              · refine Aj ?_
                refine ⟨(q - 1, r + Y / 4294967296), ?_, ?_, rfl, Bj 43 rfl rfl ?_⟩
                · exact ⟨hn1, by show 0 ≤ q - 1; omega, by show r + Y / 4294967296 < 4294967296; omega⟩
                · show (q - 1).toNat < q.toNat
                  omega
                · exact (.cons rfl (.cons rfl (.v9 (.v5 (.u (.u (.u (.u .nil))))))))
            · refine Br ?_
              refine ⟨(), ?_, rfl, Bj 34 rfl rfl ?_⟩
              · trivial
              · exact (.cons (by show some (V.i .u64 _) = some (V.i .u64 _); congr 2; first | exact hP2.over hn1 (by omega) (by omega) (by omega) | exact hP2.last hf (by omega)) (.v9 (.v9 .nil)))
      · rintro _ _; refine Zs <| Zm rfl (hd 121 rfl) <| Ac (Dw rfl rfl (Bf (by first | omega | (dsimp only; omega)) (by first | omega | (dsimp only; omega)))) (hd 122 rfl) <| Zm rfl (hd 123 rfl) <| Ac (Bd rfl rfl (r := (hi * 18446744073709551616 + lo) / y) (by rw [Bf (by omega) (by omega)]; exact hE1)) (hd 124 rfl) <| Zm rfl (hd 125 rfl) <| Ac (Dw rfl rfl rfl) (hd 126 rfl) <| Zm rfl (hd 127 rfl) <| Ac (Bd rfl rfl rfl) (hd 128 rfl) <| Zm rfl (hd 129 rfl) <| Zm rfl (hd 130 rfl) <| Ac (Dw rfl rfl rfl) (hd 131 rfl) ?_; refine Ac (Bk (Bm rfl rfl rfl) (show V.i .u64 _ = V.i .u64 (N2 % Y) from congrArg (V.i .u64) hP2.rest)) (hd 132 rfl) <| Zm rfl (hd 133 rfl) <| Ac (Bk (Eh rfl rfl (by omega) rfl) (show V.i .u64 _ = V.i .u64 ((hi * 18446744073709551616 + lo) % y) from congrArg (V.i .u64) ((Hy (by omega)).trans hE2))) (hd 134 rfl) <| Za rfl (hd 6 rfl) <| Za rfl (hd 7 rfl) <| Ab <| An ?_
        refine ⟨_, _, (.cons rfl (.cons rfl .nil)), (.t1 .i (.t1 .i .t0)), ?_⟩
        rfl

theorem Alp (s : Nat) (a : List Int) (hl : a.length < 1099511627776) (hs : s < 64) (ua : Av a) : Spec Tryz.prog 128 [.n false .u64 a, .i .u64 (s : Int)] (fun o => o = .ret (.n true .u64 (upL a s))) := by
  refine Aw [(0, .n false .u64 a), (1, .i .u64 (s : Int))] rfl Tryz.func128 rfl (Zb rfl) fun Γ hN hds hL hR => ?_
  have hd := B2 39 hN
  refine Zs <| Za rfl (hd 4 rfl) <| Ab <| Zs <| Zm rfl (hd 8 rfl) <| Ac (Ar A7 rfl) (hd 9 rfl) <| Ac (Bd rfl rfl (r := ((a.length + 1 : Nat) : Int)) (by rw [Ak (by omega) (by omega)]; omega)) (hd 10 rfl) <| A1 (Gv (m := a.length + 1) Lg rfl rfl rfl (by show 8 * (a.length + 1) ≤ _; omega) (by unfold maxLen; omega) rfl) (hd 11 rfl) <| Za rfl (hd 5 rfl) <| Ab <| Ae ?_; refine Ae <| Nv (H' := [⟨71, 1, 0, true, ints .u64 (upR a s 0)⟩]) (by rw [← Acl]; rfl) <| Af <| Zm rfl (hd 12 rfl) <| Ac (Ar A7 rfl) (hd 13 rfl) <| Zm rfl (hd 14 rfl) <| Ab <| At ?_
  refine Ch (G := Nat) (fun i => i ≤ a.length) (fun i => [(14, .i .i64 (i : Int)), (6, .u), (7, .u), (15, .u), (16, .u), (17, .u), (18, .u), (19, .u), (20, .u), (21, .u), (22, .u), (23, .u), (24, .u), (25, .u), (26, .u), (27, .u), (28, .u), (29, .u), (30, .u), (31, .u), (32, .u), (33, .u), (34, .u), (35, .u), (36, .u), (37, .u)]) (fun i => [⟨71, 1, 0, true, ints .u64 (upR a s i)⟩]) (fun i => a.length - i) 0 ?_ ?_ rfl ?_
  · exact Nat.zero_le _
  · exact (.cons rfl (.v9 (.v9 (.v5 .nil))))
  · rintro i hc1
    have hf := Pj (s := s) hc1
    have hc := Tp (Nat.le_of_lt hs) ua i
    have hx := A2 ua i
    refine Zs <| Ac (Ca rfl rfl) (hd 15 rfl) <| Ab <| Ae ?_
    refine Bh rfl (fun h1 => ?_) (fun h1 => ?_)
    · refine Aj <| Ae <| At <| Zs <| Zm rfl (hd 16 rfl) <| Ac (Cc (i := i) A7 rfl rfl (by first | rfl | omega) (by omega)) (hd 17 rfl) <| Ac (B8 Bu rfl rfl) (hd 18 rfl) <| Za rfl (hd 6 rfl) <| Za rfl (hd 7 rfl) <| Ab <| Ae <| Af ?_; refine Zm rfl (hd 19 rfl) <| Zm rfl (hd 20 rfl) <| Ac (Ck (i := i) A7 rfl rfl rfl (by first | rfl | omega) (by omega) rfl) (hd 21 rfl) <| Ac (Bk (Ee Bu rfl rfl (by omega)) (show V.i .u64 _ = V.i .u64 ((upN a s i).2) from congrArg (V.i .u64) Pk)) (hd 22 rfl) <| Zm rfl (hd 23 rfl) <| Zm rfl (hd 24 rfl) <| Ac (Bk (Gz rfl rfl (by omega) rfl) (show V.i .u64 _ = V.i .u64 (loS (a.getD i 0) s) from congrArg (V.i .u64) (G4 (by omega)))) (hd 25 rfl) <| Ac (Bk (Gd (by simp) rfl rfl rfl) (show V.i .u64 _ = V.i .u64 ((upN a s i).2 + loS (a.getD i 0) s) from congrArg (V.i .u64) (P5 (by omega) hc.1 hc.2 hx.1).1)) (hd 26 rfl) <| Ac (Ck (i := i) A7 rfl rfl rfl (by first | rfl | omega) (by omega) rfl) (hd 27 rfl) <| A3 (Cf rfl rfl rfl Bu (by omega)) <| Ab <| Af <| Zm rfl (hd 28 rfl) ?_; refine Zm rfl (hd 29 rfl) <| Ac (Bd rfl rfl (Ak (by omega) (by omega))) (hd 30 rfl) <| Zm rfl (hd 31 rfl) <| Ac (Bk (Eh rfl rfl (by omega) rfl) (show V.i .u64 _ = V.i .u64 (a.getD i 0 / 2) from congrArg (V.i .u64) (Ajw hx.1))) (hd 32 rfl) <| Zm rfl (hd 33 rfl) <| Ac (Bm rfl rfl (r := ((63 - s : Nat) : Int)) (by rw [Bf (by omega) (by omega)]; omega)) (hd 34 rfl) <| Ac (Bk (Eh rfl rfl (by omega) rfl) (show V.i .u64 _ = V.i .u64 (hiS (a.getD i 0) s) from congrArg (V.i .u64) ((Hy (by omega)).trans (Pr hs)))) (hd 35 rfl) <| Ac (Ck (i := i + 1) A7 rfl rfl rfl (by first | rfl | omega) (by omega) rfl) (hd 36 rfl) <| A3 (Cf rfl rfl rfl Bu (by simp only [List.length_set]; omega)) <| Ab <| Af <| Ac (Bd rfl rfl (Ak (by omega) (by omega))) (hd 37 rfl) <| Zm rfl (hd 14 rfl) ?_; refine Ab ?_
      refine ⟨i + 1, ?_, ?_, (by show [(⟨71, 1, 0, true, ints .u64 _⟩ : Ob)] = [⟨71, 1, 0, true, ints .u64 _⟩]; rw [Pi (by omega)]), Bj 52 rfl rfl ?_⟩
      · omega
      · omega
      · exact (.cons rfl (.v9 (.v9 (.v5 .nil))))
    · obtain rfl : i = a.length := by omega
      rw [Ml] at hf ⊢
      refine Br <| Zs <| Zm rfl (hd 38 rfl) <| Za rfl (hd 4 rfl) <| Ab <| An ?_
      refine ⟨_, _, (.cons rfl .nil), (.o (l := upL a s) rfl (by omega) rfl), ?_⟩
      rw [List.drop_zero, List.take_of_length_le (by omega)]

theorem Alq (s : Nat) (a : List Int) (hl : a.length < 1099511627776) (hs : s < 64) (ua : Av a) : SpecM Tryz.prog 128 [.n false .u64 a, .i .u64 (s : Int)] [] (fun o G => o = .ret (.o 0 0 0 (a.length + 1)) ∧ G = [⟨71, 1, 0, true, ints .u64 (upL a s)⟩]) := by
  refine Ei [(0, .n false .u64 a), (1, .i .u64 (s : Int))] rfl Tryz.func128 rfl (Zb rfl) fun Γ hN hds hL hR => ?_
  have hd := B2 39 hN
  refine Zs <| Za rfl (hd 4 rfl) <| Ab <| Zs <| Zm rfl (hd 8 rfl) <| Ac (Ar A7 rfl) (hd 9 rfl) <| Ac (Bd rfl rfl (r := ((a.length + 1 : Nat) : Int)) (by rw [Ak (by omega) (by omega)]; omega)) (hd 10 rfl) <| A1 (Gv (m := a.length + 1) Lg rfl rfl rfl (by show 8 * (a.length + 1) ≤ _; omega) (by unfold maxLen; omega) rfl) (hd 11 rfl) <| Za rfl (hd 5 rfl) <| Ab <| Ae ?_; refine Ae <| Nv (H' := [⟨71, 1, 0, true, ints .u64 (upR a s 0)⟩]) (by rw [← Acl]; rfl) <| Af <| Zm rfl (hd 12 rfl) <| Ac (Ar A7 rfl) (hd 13 rfl) <| Zm rfl (hd 14 rfl) <| Ab <| At ?_
  refine Ch (G := Nat) (fun i => i ≤ a.length) (fun i => [(14, .i .i64 (i : Int)), (6, .u), (7, .u), (15, .u), (16, .u), (17, .u), (18, .u), (19, .u), (20, .u), (21, .u), (22, .u), (23, .u), (24, .u), (25, .u), (26, .u), (27, .u), (28, .u), (29, .u), (30, .u), (31, .u), (32, .u), (33, .u), (34, .u), (35, .u), (36, .u), (37, .u)]) (fun i => [⟨71, 1, 0, true, ints .u64 (upR a s i)⟩]) (fun i => a.length - i) 0 ?_ ?_ rfl ?_
  · exact Nat.zero_le _
  · exact (.cons rfl (.v9 (.v9 (.v5 .nil))))
  · rintro i hc1
    have hf := Pj (s := s) hc1
    have hc := Tp (Nat.le_of_lt hs) ua i
    have hx := A2 ua i
    refine Zs <| Ac (Ca rfl rfl) (hd 15 rfl) <| Ab <| Ae ?_
    refine Bh rfl (fun h1 => ?_) (fun h1 => ?_)
    · refine Aj <| Ae <| At <| Zs <| Zm rfl (hd 16 rfl) <| Ac (Cc (i := i) A7 rfl rfl (by first | rfl | omega) (by omega)) (hd 17 rfl) <| Ac (B8 Bu rfl rfl) (hd 18 rfl) <| Za rfl (hd 6 rfl) <| Za rfl (hd 7 rfl) <| Ab <| Ae <| Af ?_; refine Zm rfl (hd 19 rfl) <| Zm rfl (hd 20 rfl) <| Ac (Ck (i := i) A7 rfl rfl rfl (by first | rfl | omega) (by omega) rfl) (hd 21 rfl) <| Ac (Bk (Ee Bu rfl rfl (by omega)) (show V.i .u64 _ = V.i .u64 ((upN a s i).2) from congrArg (V.i .u64) Pk)) (hd 22 rfl) <| Zm rfl (hd 23 rfl) <| Zm rfl (hd 24 rfl) <| Ac (Bk (Gz rfl rfl (by omega) rfl) (show V.i .u64 _ = V.i .u64 (loS (a.getD i 0) s) from congrArg (V.i .u64) (G4 (by omega)))) (hd 25 rfl) <| Ac (Bk (Gd (by simp) rfl rfl rfl) (show V.i .u64 _ = V.i .u64 ((upN a s i).2 + loS (a.getD i 0) s) from congrArg (V.i .u64) (P5 (by omega) hc.1 hc.2 hx.1).1)) (hd 26 rfl) <| Ac (Ck (i := i) A7 rfl rfl rfl (by first | rfl | omega) (by omega) rfl) (hd 27 rfl) <| A3 (Cf rfl rfl rfl Bu (by omega)) <| Ab <| Af <| Zm rfl (hd 28 rfl) ?_; refine Zm rfl (hd 29 rfl) <| Ac (Bd rfl rfl (Ak (by omega) (by omega))) (hd 30 rfl) <| Zm rfl (hd 31 rfl) <| Ac (Bk (Eh rfl rfl (by omega) rfl) (show V.i .u64 _ = V.i .u64 (a.getD i 0 / 2) from congrArg (V.i .u64) (Ajw hx.1))) (hd 32 rfl) <| Zm rfl (hd 33 rfl) <| Ac (Bm rfl rfl (r := ((63 - s : Nat) : Int)) (by rw [Bf (by omega) (by omega)]; omega)) (hd 34 rfl) <| Ac (Bk (Eh rfl rfl (by omega) rfl) (show V.i .u64 _ = V.i .u64 (hiS (a.getD i 0) s) from congrArg (V.i .u64) ((Hy (by omega)).trans (Pr hs)))) (hd 35 rfl) <| Ac (Ck (i := i + 1) A7 rfl rfl rfl (by first | rfl | omega) (by omega) rfl) (hd 36 rfl) <| A3 (Cf rfl rfl rfl Bu (by simp only [List.length_set]; omega)) <| Ab <| Af <| Ac (Bd rfl rfl (Ak (by omega) (by omega))) (hd 37 rfl) <| Zm rfl (hd 14 rfl) ?_; refine Ab ?_
      refine ⟨i + 1, ?_, ?_, (by show [(⟨71, 1, 0, true, ints .u64 _⟩ : Ob)] = [⟨71, 1, 0, true, ints .u64 _⟩]; rw [Pi (by omega)]), Bj 52 rfl rfl ?_⟩
      · omega
      · omega
      · exact (.cons rfl (.v9 (.v9 (.v5 .nil))))
    · obtain rfl : i = a.length := by omega
      rw [Ml] at hf ⊢
      refine Br <| Zs <| Zm rfl (hd 38 rfl) <| Za rfl (hd 4 rfl) <| Ab <| An ?_
      refine ⟨[0], _, (.o 0 0 0 (a.length + 1)), (.cons rfl .nil), rfl, rfl, (by decide), (by first | exact Ao Bc A0 | exact Ao rfl A0), ?_⟩
      exact ⟨rfl, rfl⟩

theorem Tc (s : Nat) (a : List Int) (hl : a.length < 1099511627776) (hs : s < 64) (ua : Av a) : Spec Tryz.prog 130 [.n false .u64 a, .i .u64 (s : Int)] (fun o => o = .ret (.n true .u64 (trm (dnN a s a.length)))) := by
  refine Aw [(0, .n false .u64 a), (1, .i .u64 (s : Int))] rfl Tryz.func130 rfl (Zb rfl) fun Γ hN hds hL hR => ?_
  have hd := B2 47 hN
  refine Zs <| Za rfl (hd 4 rfl) <| Ab <| Zs <| Zm rfl (hd 8 rfl) <| Ac (Ar A7 rfl) (hd 9 rfl) <| A1 (Gv (m := a.length) Lg rfl rfl rfl (by show 8 * a.length ≤ _; omega) (by unfold maxLen; omega) rfl) (hd 10 rfl) <| Za rfl (hd 5 rfl) <| Ab <| Ae <| Ae ?_; refine Af <| Zm rfl (hd 11 rfl) <| Ac (Ar A7 rfl) (hd 12 rfl) <| Zm rfl (hd 13 rfl) <| Ab <| At ?_
  refine Ch (G := Nat) (fun i => i ≤ a.length) (fun i => [(13, .i .i64 (i : Int)), (6, .u), (7, .u), (14, .u), (15, .u), (16, .u), (17, .u), (18, .u), (19, .u), (20, .u), (21, .u), (22, .u), (23, .u), (24, .u), (25, .u), (26, .u), (27, .u), (28, .u), (29, .u), (30, .u), (31, .u), (32, .u), (33, .u), (34, .u), (35, .u), (36, .u), (37, .u), (38, .u), (39, .u), (40, .u), (41, .u), (42, .u), (43, .u), (44, .u)]) (fun i => [⟨71, 1, 0, true, ints .u64 (D2 (dnN a s i) a.length)⟩]) (fun i => a.length - i) 0 ?_ ?_ rfl ?_
  · exact Nat.zero_le _
  · exact (.cons rfl (.v9 (.v9 (.v9 (.u (.u (.u .nil)))))))
  · rintro i hc1
    have hf : (D2 (dnN a s i) a.length).length = a.length := Ff (by rw [Ga]; exact hc1)
    have hx := A2 ua i
    have hy := A2 ua (i + 1)
    refine Zs <| Ac (Ca rfl rfl) (hd 14 rfl) <| Ab <| Ae ?_
    refine Bh rfl (fun h1 => ?_) (fun h1 => ?_)
    · refine Aj ?_
      refine Ja (G := Unit) (fun _ => True) (fun _ => [(6, .u), (7, .u), (15, .u), (16, .u), (17, .u), (18, .u), (19, .u), (20, .u), (21, .u), (22, .u), (23, .u), (24, .u), (25, .u), (26, .u), (27, .u), (28, .u), (29, .u), (30, .u), (31, .u), (32, .u), (33, .u), (34, .u), (35, .u), (36, .u), (37, .u), (38, .u), (39, .u), (40, .u), (41, .u), (42, .u), (43, .u)]) (fun _ => [⟨71, 1, 0, true, ints .u64 (D2 (dnN a s (i + 1)) a.length)⟩]) ?_ ?_
      · refine At <| Zs <| Zm rfl (hd 15 rfl) <| Ac (Cc (i := i) A7 rfl rfl (by first | rfl | omega) (by omega)) (hd 16 rfl) <| Ac (B8 Bu rfl rfl) (hd 17 rfl) <| Za rfl (hd 6 rfl) <| Za rfl (hd 7 rfl) <| Ab <| Zs <| Zm rfl (hd 18 rfl) <| Zm rfl (hd 19 rfl) ?_; refine Zm rfl (hd 20 rfl) <| Zm rfl (hd 21 rfl) <| Ac (Bk (Eh rfl rfl (by omega) rfl) (show V.i .u64 _ = V.i .u64 (a.getD i 0 / 2 ^ s) from congrArg (V.i .u64) (Hy (by omega)))) (hd 22 rfl) <| Ac (Ck (i := i) A7 rfl rfl rfl (by first | rfl | omega) (by omega) rfl) (hd 23 rfl) <| A3 (Cf rfl rfl rfl Bu (by omega)) <| Ab <| Zs <| Zm rfl (hd 24 rfl) <| Ac (Bd rfl rfl (Ak (by omega) (by omega))) (hd 25 rfl) <| Zm rfl (hd 26 rfl) <| Ac (Ar A7 rfl) (hd 27 rfl) <| Ac (Ca rfl rfl) (hd 28 rfl) ?_; refine Ab ?_
        refine Bh rfl (fun h2 => ?_) (fun h2 => ?_)
        · refine Bo (n := 16) _ rfl B9 <| Z2 0 [2, 3, 13, 14, 15] (Am (Ay rfl) (hd 29 rfl)) rfl <| Z2 1 [2, 3, 13, 14, 15] (Am (Ay rfl) (hd 30 rfl)) rfl <| Z2 2 [3, 13, 14, 15] (Am (Ck (i := i) A7 rfl rfl rfl (by first | rfl | omega) (by omega) rfl) (hd 31 rfl)) rfl <| Z1 3 (Am (Bk (Ee Bu rfl rfl (by simp only [List.length_set]; omega)) (show V.i .u64 _ = V.i .u64 (a.getD i 0 / 2 ^ s) from congrArg (V.i .u64) (Wa (by omega)))) (hd 32 rfl)) rfl <| Z2 4 [7, 8, 9, 12, 13, 14, 15] (Am (Ay rfl) (hd 33 rfl)) rfl <| Z2 5 [6, 7, 8, 9, 12, 13, 14, 15] (Am (Ay rfl) (hd 34 rfl)) rfl <| Z2 6 [7, 8, 9, 12, 13, 14, 15] (Am (Bd rfl rfl (r := ((i + 1 : Nat) : Int)) (by rw [Ak (by omega) (by omega)]; omega)) (hd 35 rfl)) rfl <| Z2 7 [8, 9, 12, 13, 14, 15] (Am (Cc (i := i + 1) A7 rfl rfl (by first | rfl | omega) (by omega)) (hd 36 rfl)) rfl <| Z2 8 [9, 12, 13, 14, 15] (Am (B8 Bu rfl rfl) (hd 37 rfl)) rfl <| Z2 9 [12, 13, 14, 15] (Am (Bk (Gz rfl rfl (by omega) rfl) (show V.i .u64 _ = V.i .u64 (a.getD (i + 1) 0 * 2 % 18446744073709551616) from congrArg (V.i .u64) Ak2)) (hd 38 rfl)) rfl <| Z2 10 [11, 12, 13, 14, 15] (Am (Ay rfl) (hd 39 rfl)) rfl <| Z2 11 [12, 13, 14, 15] (Am (Bm rfl rfl (r := ((63 - s : Nat) : Int)) (by rw [Bf (by omega) (by omega)]; omega)) (hd 40 rfl)) rfl ?_; refine Z1 12 (Am (Bk (Gz rfl rfl (by omega) rfl) (show V.i .u64 _ = V.i .u64 (loS (a.getD (i + 1) 0) (64 - s)) from congrArg (V.i .u64) ((G4 (by omega)).trans (Ud hs)))) (hd 41 rfl)) rfl <| Z1 13 (Am (Bk (Gd (by simp) rfl rfl rfl) (show V.i .u64 _ = V.i .u64 (dnD a s i) from congrArg (V.i .u64) (Aev (Nat.le_of_lt hs) hx.1 hx.2 hy.1).1)) (hd 42 rfl)) rfl <| Z1 14 (Am (Ck (i := i) A7 rfl rfl rfl (by first | rfl | omega) (by omega) rfl) (hd 43 rfl)) rfl ?_
          refine Be 15 ?_ rfl (by kernel_rfl)
          refine Cl (Cf rfl rfl rfl Bu (by simp only [List.length_set]; omega)) rfl <| Bx (by kernel_rfl) ?_
          refine ⟨(), ?_, (by show [(⟨71, 1, 0, true, ints .u64 _⟩ : Ob)] = [⟨71, 1, 0, true, ints .u64 _⟩]; first | rw [← J9 (show a.length ≤ i + 1 by omega), Hd (by omega)] | rw [List.set_set, Hd (by omega)]), Bj 31 rfl rfl ?_⟩
          · trivial
          · exact (.v9 (.v9 (.v9 (.u .nil))))
        · refine Aj ?_
          refine ⟨(), ?_, (by show [(⟨71, 1, 0, true, ints .u64 _⟩ : Ob)] = [⟨71, 1, 0, true, ints .u64 _⟩]; first | rw [← J9 (show a.length ≤ i + 1 by omega), Hd (by omega)] | rw [List.set_set, Hd (by omega)]), Bj 16 rfl rfl ?_⟩
          · trivial
          · exact (.v9 (.v9 (.v9 (.u .nil))))
      · rintro _ _; refine Af <| Ac (Bd rfl rfl (Ak (by omega) (by omega))) (hd 44 rfl) <| Zm rfl (hd 13 rfl) <| Ab ?_
        refine ⟨i + 1, ?_, ?_, rfl, Bj 68 rfl rfl ?_⟩
        · omega
        · omega
        · exact (.cons rfl (.v9 (.v9 (.v9 (.u (.u (.u .nil)))))))
    · obtain rfl : i = a.length := by omega
      refine Br <| Zs <| Jl (k := .u64) (l := D2 (dnN a s a.length) a.length) (l' := dnN a s a.length) 5 rfl rfl (by omega) (by rw [List.drop_zero, List.take_of_length_le (by omega), Ed (Ga _ _ _)]) hL <| Zm rfl (hd 45 rfl) ?_
      refine Ag Tryz.f66 (D4 (dnN a s a.length) (by rw [Ga]; omega)) rfl Tryz.func66 rfl rfl (Aa rfl Ad) (.cons .n .nil) (hd 46 rfl) ?_ (fun _ h => by simp at h)
      rintro _ ⟨⟩; refine Za rfl (hd 4 rfl) <| Ab <| An ?_
      refine ⟨_, _, (.cons rfl .nil), .n, ?_⟩
      exact rfl
end Go.Proofs.YtnadmljoefecfaaGreatDoor.Vc
