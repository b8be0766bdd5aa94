/- surdlaw06.WholeDivisors answers true for every two numbers of bulk at most 1048576, and leaves its input as it was: the greatest common divisor with its factors, inverses Texts joined: Wd, We, Wf, Wg, Wh, Wi, Wj, Wk, Wl, Wm, Wn, Wo, Wp, Wq, Wr, Ws, Wt, Wv, Wx, Wy. -/
import Derived.Test.YthbbbopbglbagaaK4
set_option linter.unusedVariables false
set_option linter.unusedSimpArgs false
set_option maxHeartbeats 4000000
namespace Go.Proofs.Ythbbbopbglbagaa.Vc
open Go Go.RowKit
theorem Vg (a b : List Int) (ha : a.length < 4294967296) (hb : b.length < 4294967296) (ua : A3 a) (ub : A3 b) (h : Dp (trm (Lu a b)) ≤ 67108864) : Spec Try.prog 85 [.n false .u64 a, .n false .u64 b] (fun o => o = .ret (.t [.n false .u64 (trm (Lu a b)), .i .i64 0])) := by
  refine Az [(0, .n false .u64 a), (1, .n false .u64 b)] rfl Try.func85 rfl (zlb rfl) fun Γ hN hds hL hR => ?_
  have hd := B5 61 hN
  have hma := C7 a
  have hmb := C7 b
  refine zsr <| zas rfl (hd 4 rfl) <| zas rfl (hd 5 rfl) <| Ab <| zsr <| zmv rfl (hd 10 rfl) ?_
  refine Aj Try.f61 (Fh a (by omega)) rfl Try.func61 rfl rfl (Aa rfl Ad) (.cons .n .nil) (hd 11 rfl) ?_ (fun ch hp => by simp at hp)
  rintro _ ⟨⟩; refine zmv rfl (hd 12 rfl) ?_
  refine Aj Try.f61 (Fh b (by omega)) rfl Try.func61 rfl rfl (Aa rfl Ad) (.cons .n .nil) (hd 13 rfl) ?_ (fun ch hp => by simp at hp)
  rintro _ ⟨⟩; refine zas rfl (hd 0 rfl) <| zas rfl (hd 1 rfl) <| Ab ?_
  refine Cu (G := List Int × List Int) (fun g => swL (trm a) (trm b) = g ∧ g.1.length < 4294967296 ∧ A3 g.1 ∧ A3 g.2) (fun g => [(0, .n false .u64 g.1), (1, .n false .u64 g.2), (14, .u), (15, .u), (16, .u), (17, .u), (18, .u), (19, .u), (20, .u)]) ?_ ?_
  · refine zsr <| zmv rfl (hd 14 rfl) <| Ac (Av Bo rfl) (hd 15 rfl) <| zmv rfl (hd 16 rfl) <| Ac (Av Bo rfl) (hd 17 rfl) <| Ac (Ch rfl rfl) (hd 18 rfl) <| Ab ?_
    refine Bu rfl (fun h1 => ?_) (fun h1 => ?_)
    · refine Ag <| zmv rfl (hd 19 rfl) <| zmv rfl (hd 20 rfl) <| zas rfl (hd 0 rfl) <| zas rfl (hd 1 rfl) <| Ab ?_
      refine ⟨(trm b, trm a), ?_, rfl, Ba 9 rfl rfl ?_⟩
      · exact ⟨by unfold swL; rw [if_pos (by omega)], by show (trm b).length < _; omega, Bk ub, Bk ua⟩
      · exact (.cons rfl (.cons rfl (.v5 (.u (.u .nil)))))
    · refine Am ?_
      refine ⟨(trm a, trm b), ?_, rfl, Ba 5 rfl rfl ?_⟩
      · exact ⟨by unfold swL; rw [if_neg (by omega)], by show (trm a).length < _; omega, Bk ua, Bk ub⟩
      · exact (.cons rfl (.cons rfl (.v5 (.u (.u .nil)))))
  · rintro ⟨X, Y⟩ ⟨hg, hX, uX, uY⟩
    dsimp only at hg hX uX uY ⊢
    have hS : Lu a b = (adN X Y X.length).1 ++ [(adN X Y X.length).2] := by unfold Lu; rw [hg]
    refine zsr <| zmv rfl (hd 21 rfl) <| Ac (Av Bo rfl) (hd 22 rfl) <| Ac (A9 rfl rfl (r := ((X.length + 1 : Nat) : Int)) (by rw [Ap (by omega) (by omega)]; omega)) (hd 23 rfl) <| Ay (Fp (m := X.length + 1) Ky rfl rfl rfl (by show 8 * (X.length + 1) ≤ _; omega) (by unfold maxLen; omega) rfl) (hd 24 rfl) <| zas rfl (hd 6 rfl) <| Ab <| zsr <| zas rfl (hd 7 rfl) <| Ab <| Af ?_; refine zsr <| zmv rfl (hd 25 rfl) <| Ac (Av Bo rfl) (hd 26 rfl) <| zmv rfl (hd 27 rfl) <| Ab <| Aw ?_
    refine B4 (G := Nat) (fun i => i ≤ X.length) (fun i => [(7, .i .u64 (adN X Y i).2), (27, .i .i64 (i : Int)), (8, .u), (9, .u), (28, .u), (29, .u), (30, .u), (31, .u), (32, .u), (33, .u), (34, .u), (35, .u), (36, .u), (37, .u), (38, .u), (39, .u), (40, .u), (41, .u), (42, .u), (43, .u), (44, .u), (45, .u), (46, .u), (47, .u), (48, .u), (49, .u), (50, .u), (51, .u)]) (fun i => [⟨79, 1, 0, true, A2 .u64 (Cv (adN X Y i).1 (X.length + 1))⟩]) (fun i => X.length - i) 0 ?_ ?_ rfl ?_
    · exact Nat.zero_le _
    · exact (.cons rfl (.cons rfl (.v9 (.v9 (.v5 (.u .nil))))))
    · rintro i hc1
      have hf := Et (l := (adN X Y i).1) (n := X.length + 1) (by rw [Dk]; omega)
      have hc := Q9 uX uY i
      have hx := Bg uX i
      have hy := Bg uY i
      refine zsr <| Ac (Ch rfl rfl) (hd 28 rfl) <| Ab <| Af ?_
      refine Bu rfl (fun h2 => ?_) (fun h2 => ?_)
      · refine Am <| Af <| Aw <| zsr <| zmv rfl (hd 29 rfl) <| zas rfl (hd 8 rfl) <| Ab <| zsr <| zas rfl (hd 9 rfl) <| Ab ?_
        refine Cu (G := Unit) (fun _ => True) (fun _ => [(9, .i .u64 (Y.getD i 0)), (30, .u), (31, .u), (32, .u), (33, .u), (34, .u), (35, .u), (36, .u), (37, .u)]) ?_ ?_
        · refine zsr <| zmv rfl (hd 30 rfl) <| zmv rfl (hd 31 rfl) <| Ac (Av Bo rfl) (hd 32 rfl) <| Ac (Ch rfl rfl) (hd 33 rfl) <| Ab ?_
          refine Bu rfl (fun h3 => ?_) (fun h3 => ?_)
          · refine Ag <| zmv rfl (hd 34 rfl) <| zmv rfl (hd 35 rfl) <| Ac (B8 (i := i) Bo rfl rfl (by first | rfl | omega) (by omega)) (hd 36 rfl) <| Ac (B7 Bw rfl rfl) (hd 37 rfl) <| zas rfl (hd 9 rfl) <| Ab ?_
            refine ⟨(), ?_, rfl, Ba 9 rfl rfl ?_⟩
            · trivial
            · exact (.cons (by first | rfl | (show some (V.i .u64 _) = some (V.i .u64 _); rw [Dw (by omega)])) (.v5 (.u (.u (.u .nil)))))
          · refine Am ?_
            refine ⟨(), ?_, rfl, Ba 4 rfl rfl ?_⟩
            · trivial
            · exact (.cons (by first | rfl | (show some (V.i .u64 _) = some (V.i .u64 _); rw [Dw (by omega)])) (.v5 (.u (.u (.u .nil)))))
        · rintro _ _; refine Ag <| zmv rfl (hd 39 rfl) <| zmv rfl (hd 40 rfl) <| zmv rfl (hd 41 rfl) <| zmv rfl (hd 42 rfl) <| Ac (B8 (i := i) Bo rfl rfl (by first | rfl | omega) (by omega)) (hd 43 rfl) <| Ac (B7 Bw rfl rfl) (hd 44 rfl) <| zmv rfl (hd 45 rfl) <| zmv rfl (hd 46 rfl) <| Ay (Eh (e := add64Entry) Try.func92 rfl rfl (by kernel_rfl) (by kernel_rfl) rfl rfl rfl (fun w => run_add64 _ _ _ hx.1 hy.1 hc.1 hc.2 w) Dr) (hd 47 rfl) <| zmv rfl (hd 38 rfl) <| Ac (Ak rfl rfl) (hd 48 rfl) <| Ac (Ak rfl rfl) (hd 49 rfl) ?_; refine Ac (Ci (i := i) Bo rfl rfl rfl (by first | rfl | omega) (by omega) rfl) (hd 50 rfl) <| A1 (Cc rfl rfl rfl Bw (by omega)) <| zas rfl (hd 7 rfl) <| Ab <| Ag <| Ac (A9 rfl rfl (Ap (by omega) (by omega))) (hd 51 rfl) <| zmv rfl (hd 27 rfl) <| Ab ?_
          refine ⟨i + 1, ?_, ?_, (by show [(⟨79, 1, 0, true, A2 .u64 _⟩ : Ob)] = [⟨79, 1, 0, true, A2 .u64 _⟩]; rw [T8 (by omega)]), Ba 57 rfl rfl ?_⟩
          · omega
          · omega
          · exact (.cons rfl (.cons rfl (.v9 (.v9 (.v5 (.u .nil))))))
      · refine By <| Af ?_
        obtain rfl : i = X.length := by omega
        refine Ag <| zmv rfl (hd 52 rfl) <| zmv rfl (hd 53 rfl) <| Ac (Av Bo rfl) (hd 54 rfl) <| zmv rfl (hd 55 rfl) <| Ac (Ci (i := X.length) Bo rfl rfl rfl (by first | rfl | omega) (by omega) rfl) (hd 56 rfl) <| A1 (Cc rfl rfl rfl Bw (by omega)) <| Ab <| zsr <| Gz (k := .u64) (l' := Lu a b) 6 rfl rfl (by rw [Iv (Dk _ _ _)]; simp [Dk]) (by rw [Iv (Dk _ _ _), hS, List.drop_zero, List.take_of_length_le (by simp [Dk])]) hL <| zmv rfl (hd 57 rfl) ?_
        refine Aj Try.f101 (Ry (Lu a b) (by rw [hS]; simp only [List.length_append, Dk, List.length_singleton]; omega) (by rw [hS]; exact Ei (Q8 _) hc.1 (by omega)) h) rfl Try.func101 rfl rfl (Aa rfl Ad) (.cons .n .nil) (hd 58 rfl) ?_ (fun ch hp => by simp at hp)
        rintro _ ⟨⟩; refine Ac (Ak rfl rfl) (hd 59 rfl) <| Ac (Ak rfl rfl) (hd 60 rfl) <| zas rfl (hd 4 rfl) <| zas rfl (hd 5 rfl) <| Ab <| As ?_
        refine ⟨_, _, (.cons rfl (.cons rfl .nil)), (.t1 .n (.t1 .i .t0)), ?_⟩
        exact rfl

theorem Aay (a b : List Int) (ha : a.length < 4294967296) (hb : b.length < 4294967296) (ua : A3 a) (ub : A3 b) (h : 67108864 < Dp (trm (Lu a b))) : Spec Try.prog 85 [.n false .u64 a, .n false .u64 b] (fun o => o = .ret (.t [.n false .u64 [], .i .i64 3])) := by
  refine Az [(0, .n false .u64 a), (1, .n false .u64 b)] rfl Try.func85 rfl (zlb rfl) fun Γ hN hds hL hR => ?_
  have hd := B5 61 hN
  have hma := C7 a
  have hmb := C7 b
  refine zsr <| zas rfl (hd 4 rfl) <| zas rfl (hd 5 rfl) <| Ab <| zsr <| zmv rfl (hd 10 rfl) ?_
  refine Aj Try.f61 (Fh a (by omega)) rfl Try.func61 rfl rfl (Aa rfl Ad) (.cons .n .nil) (hd 11 rfl) ?_ (fun ch hp => by simp at hp)
  rintro _ ⟨⟩; refine zmv rfl (hd 12 rfl) ?_
  refine Aj Try.f61 (Fh b (by omega)) rfl Try.func61 rfl rfl (Aa rfl Ad) (.cons .n .nil) (hd 13 rfl) ?_ (fun ch hp => by simp at hp)
  rintro _ ⟨⟩; refine zas rfl (hd 0 rfl) <| zas rfl (hd 1 rfl) <| Ab ?_
  refine Cu (G := List Int × List Int) (fun g => swL (trm a) (trm b) = g ∧ g.1.length < 4294967296 ∧ A3 g.1 ∧ A3 g.2) (fun g => [(0, .n false .u64 g.1), (1, .n false .u64 g.2), (14, .u), (15, .u), (16, .u), (17, .u), (18, .u), (19, .u), (20, .u)]) ?_ ?_
  · refine zsr <| zmv rfl (hd 14 rfl) <| Ac (Av Bo rfl) (hd 15 rfl) <| zmv rfl (hd 16 rfl) <| Ac (Av Bo rfl) (hd 17 rfl) <| Ac (Ch rfl rfl) (hd 18 rfl) <| Ab ?_
    refine Bu rfl (fun h1 => ?_) (fun h1 => ?_)
    · refine Ag <| zmv rfl (hd 19 rfl) <| zmv rfl (hd 20 rfl) <| zas rfl (hd 0 rfl) <| zas rfl (hd 1 rfl) <| Ab ?_
      refine ⟨(trm b, trm a), ?_, rfl, Ba 9 rfl rfl ?_⟩
      · exact ⟨by unfold swL; rw [if_pos (by omega)], by show (trm b).length < _; omega, Bk ub, Bk ua⟩
      · exact (.cons rfl (.cons rfl (.v5 (.u (.u .nil)))))
    · refine Am ?_
      refine ⟨(trm a, trm b), ?_, rfl, Ba 5 rfl rfl ?_⟩
      · exact ⟨by unfold swL; rw [if_neg (by omega)], by show (trm a).length < _; omega, Bk ua, Bk ub⟩
      · exact (.cons rfl (.cons rfl (.v5 (.u (.u .nil)))))
  · rintro ⟨X, Y⟩ ⟨hg, hX, uX, uY⟩
    dsimp only at hg hX uX uY ⊢
    have hS : Lu a b = (adN X Y X.length).1 ++ [(adN X Y X.length).2] := by unfold Lu; rw [hg]
    refine zsr <| zmv rfl (hd 21 rfl) <| Ac (Av Bo rfl) (hd 22 rfl) <| Ac (A9 rfl rfl (r := ((X.length + 1 : Nat) : Int)) (by rw [Ap (by omega) (by omega)]; omega)) (hd 23 rfl) <| Ay (Fp (m := X.length + 1) Ky rfl rfl rfl (by show 8 * (X.length + 1) ≤ _; omega) (by unfold maxLen; omega) rfl) (hd 24 rfl) <| zas rfl (hd 6 rfl) <| Ab <| zsr <| zas rfl (hd 7 rfl) <| Ab <| Af ?_; refine zsr <| zmv rfl (hd 25 rfl) <| Ac (Av Bo rfl) (hd 26 rfl) <| zmv rfl (hd 27 rfl) <| Ab <| Aw ?_
    refine B4 (G := Nat) (fun i => i ≤ X.length) (fun i => [(7, .i .u64 (adN X Y i).2), (27, .i .i64 (i : Int)), (8, .u), (9, .u), (28, .u), (29, .u), (30, .u), (31, .u), (32, .u), (33, .u), (34, .u), (35, .u), (36, .u), (37, .u), (38, .u), (39, .u), (40, .u), (41, .u), (42, .u), (43, .u), (44, .u), (45, .u), (46, .u), (47, .u), (48, .u), (49, .u), (50, .u), (51, .u)]) (fun i => [⟨79, 1, 0, true, A2 .u64 (Cv (adN X Y i).1 (X.length + 1))⟩]) (fun i => X.length - i) 0 ?_ ?_ rfl ?_
    · exact Nat.zero_le _
    · exact (.cons rfl (.cons rfl (.v9 (.v9 (.v5 (.u .nil))))))
    · rintro i hc1
      have hf := Et (l := (adN X Y i).1) (n := X.length + 1) (by rw [Dk]; omega)
      have hc := Q9 uX uY i
      have hx := Bg uX i
      have hy := Bg uY i
      refine zsr <| Ac (Ch rfl rfl) (hd 28 rfl) <| Ab <| Af ?_
      refine Bu rfl (fun h2 => ?_) (fun h2 => ?_)
      · refine Am <| Af <| Aw <| zsr <| zmv rfl (hd 29 rfl) <| zas rfl (hd 8 rfl) <| Ab <| zsr <| zas rfl (hd 9 rfl) <| Ab ?_
        refine Cu (G := Unit) (fun _ => True) (fun _ => [(9, .i .u64 (Y.getD i 0)), (30, .u), (31, .u), (32, .u), (33, .u), (34, .u), (35, .u), (36, .u), (37, .u)]) ?_ ?_
        · refine zsr <| zmv rfl (hd 30 rfl) <| zmv rfl (hd 31 rfl) <| Ac (Av Bo rfl) (hd 32 rfl) <| Ac (Ch rfl rfl) (hd 33 rfl) <| Ab ?_
          refine Bu rfl (fun h3 => ?_) (fun h3 => ?_)
          · refine Ag <| zmv rfl (hd 34 rfl) <| zmv rfl (hd 35 rfl) <| Ac (B8 (i := i) Bo rfl rfl (by first | rfl | omega) (by omega)) (hd 36 rfl) <| Ac (B7 Bw rfl rfl) (hd 37 rfl) <| zas rfl (hd 9 rfl) <| Ab ?_
            refine ⟨(), ?_, rfl, Ba 9 rfl rfl ?_⟩
            · trivial
            · exact (.cons (by first | rfl | (show some (V.i .u64 _) = some (V.i .u64 _); rw [Dw (by omega)])) (.v5 (.u (.u (.u .nil)))))
          · refine Am ?_
            refine ⟨(), ?_, rfl, Ba 4 rfl rfl ?_⟩
            · trivial
            · exact (.cons (by first | rfl | (show some (V.i .u64 _) = some (V.i .u64 _); rw [Dw (by omega)])) (.v5 (.u (.u (.u .nil)))))
        · rintro _ _; refine Ag <| zmv rfl (hd 39 rfl) <| zmv rfl (hd 40 rfl) <| zmv rfl (hd 41 rfl) <| zmv rfl (hd 42 rfl) <| Ac (B8 (i := i) Bo rfl rfl (by first | rfl | omega) (by omega)) (hd 43 rfl) <| Ac (B7 Bw rfl rfl) (hd 44 rfl) <| zmv rfl (hd 45 rfl) <| zmv rfl (hd 46 rfl) <| Ay (Eh (e := add64Entry) Try.func92 rfl rfl (by kernel_rfl) (by kernel_rfl) rfl rfl rfl (fun w => run_add64 _ _ _ hx.1 hy.1 hc.1 hc.2 w) Dr) (hd 47 rfl) <| zmv rfl (hd 38 rfl) <| Ac (Ak rfl rfl) (hd 48 rfl) <| Ac (Ak rfl rfl) (hd 49 rfl) ?_; refine Ac (Ci (i := i) Bo rfl rfl rfl (by first | rfl | omega) (by omega) rfl) (hd 50 rfl) <| A1 (Cc rfl rfl rfl Bw (by omega)) <| zas rfl (hd 7 rfl) <| Ab <| Ag <| Ac (A9 rfl rfl (Ap (by omega) (by omega))) (hd 51 rfl) <| zmv rfl (hd 27 rfl) <| Ab ?_
          refine ⟨i + 1, ?_, ?_, (by show [(⟨79, 1, 0, true, A2 .u64 _⟩ : Ob)] = [⟨79, 1, 0, true, A2 .u64 _⟩]; rw [T8 (by omega)]), Ba 57 rfl rfl ?_⟩
          · omega
          · omega
          · exact (.cons rfl (.cons rfl (.v9 (.v9 (.v5 (.u .nil))))))
      · refine By <| Af ?_
        obtain rfl : i = X.length := by omega
        refine Ag <| zmv rfl (hd 52 rfl) <| zmv rfl (hd 53 rfl) <| Ac (Av Bo rfl) (hd 54 rfl) <| zmv rfl (hd 55 rfl) <| Ac (Ci (i := X.length) Bo rfl rfl rfl (by first | rfl | omega) (by omega) rfl) (hd 56 rfl) <| A1 (Cc rfl rfl rfl Bw (by omega)) <| Ab <| zsr <| Gz (k := .u64) (l' := Lu a b) 6 rfl rfl (by rw [Iv (Dk _ _ _)]; simp [Dk]) (by rw [Iv (Dk _ _ _), hS, List.drop_zero, List.take_of_length_le (by simp [Dk])]) hL <| zmv rfl (hd 57 rfl) ?_
        refine Aj Try.f101 (O9 (Lu a b) (by rw [hS]; simp only [List.length_append, Dk, List.length_singleton]; omega) (by rw [hS]; exact Ei (Q8 _) hc.1 (by omega)) h) rfl Try.func101 rfl rfl (Aa rfl Ad) (.cons .n .nil) (hd 58 rfl) ?_ (fun ch hp => by simp at hp)
        rintro _ ⟨⟩; refine Ac (Ak rfl rfl) (hd 59 rfl) <| Ac (Ak rfl rfl) (hd 60 rfl) <| zas rfl (hd 4 rfl) <| zas rfl (hd 5 rfl) <| Ab <| As ?_
        refine ⟨_, _, (.cons rfl (.cons rfl .nil)), (.t1 .n (.t1 .i .t0)), ?_⟩
        exact rfl

theorem U5 (a b : List Int) (ha : a.length < 4294967296) (hb : b.length < 4294967296) (ua : A3 a) (ub : A3 b) (hle : 0 ≤ Lk (trm a) (trm b)) (h : Dp (trm (Nu a b)) ≤ 67108864) : Spec Try.prog 86 [.n false .u64 a, .n false .u64 b] (fun o => o = .ret (.t [.n false .u64 (trm (Nu a b)), .i .i64 0])) := by
  refine Az [(0, .n false .u64 a), (1, .n false .u64 b)] rfl Try.func86 rfl (zlb rfl) fun Γ hN hds hL hR => ?_
  have hd := B5 52 hN
  have hma := C7 a
  have hmb := C7 b
  have uX := Bk ua
  have uY := Bk ub
  refine zsr <| zas rfl (hd 4 rfl) <| zas rfl (hd 5 rfl) <| Ab <| Af <| zsr <| zmv rfl (hd 10 rfl) <| zmv rfl (hd 11 rfl) ?_
  refine Aj Try.f71 (E6 a b (by omega) (by omega)) rfl Try.func71 rfl rfl (Aa rfl (Aa rfl Ad)) (.cons .n (.cons .n .nil)) (hd 12 rfl) ?_ (fun ch hp => by simp at hp)
  rintro _ ⟨⟩; refine Ac (Cd (Ch rfl rfl) (by omega)) (hd 13 rfl) <| Ab <| Bl rfl <| Am <| zsr <| zmv rfl (hd 14 rfl) ?_
  refine Aj Try.f61 (Fh a (by omega)) rfl Try.func61 rfl rfl (Aa rfl Ad) (.cons .n .nil) (hd 15 rfl) ?_ (fun ch hp => by simp at hp)
  rintro _ ⟨⟩; refine zmv rfl (hd 16 rfl) ?_
  refine Aj Try.f61 (Fh b (by omega)) rfl Try.func61 rfl rfl (Aa rfl Ad) (.cons .n .nil) (hd 17 rfl) ?_ (fun ch hp => by simp at hp)
  rintro _ ⟨⟩; refine zas rfl (hd 0 rfl) <| zas rfl (hd 1 rfl) <| Ab <| zsr <| zmv rfl (hd 18 rfl) <| Ac (Av Bo rfl) (hd 19 rfl) <| Ay (Fp (m := (trm a).length) Ky rfl rfl rfl (by show 8 * (trm a).length ≤ _; omega) (by unfold maxLen; omega) rfl) (hd 20 rfl) <| zas rfl (hd 6 rfl) <| Ab <| zsr <| zas rfl (hd 7 rfl) ?_; refine Ab <| Af <| zsr <| zmv rfl (hd 21 rfl) <| Ac (Av Bo rfl) (hd 22 rfl) <| zmv rfl (hd 23 rfl) <| Ab <| Aw ?_
  refine B4 (G := Nat) (fun i => i ≤ (trm a).length) (fun i => [(7, .i .u64 (sbN (trm a) (trm b) i).2), (23, .i .i64 (i : Int)), (8, .u), (9, .u), (24, .u), (25, .u), (26, .u), (27, .u), (28, .u), (29, .u), (30, .u), (31, .u), (32, .u), (33, .u), (34, .u), (35, .u), (36, .u), (37, .u), (38, .u), (39, .u), (40, .u), (41, .u), (42, .u), (43, .u), (44, .u), (45, .u), (46, .u), (47, .u)]) (fun i => [⟨79, 1, 0, true, A2 .u64 (Cv (sbN (trm a) (trm b) i).1 (trm a).length)⟩]) (fun i => (trm a).length - i) 0 ?_ ?_ rfl ?_
  · exact Nat.zero_le _
  · exact (.cons rfl (.cons rfl (.v9 (.v9 (.v5 (.u .nil))))))
  · rintro i hc1
    have hf := Et (l := (sbN (trm a) (trm b) i).1) (n := (trm a).length) (by rw [Dh]; omega)
    have hc := Qt (trm a) (trm b) i
    have hx := Bg uX i
    have hy := Bg uY i
    refine zsr <| Ac (Ch rfl rfl) (hd 24 rfl) <| Ab <| Af ?_
    refine Bu rfl (fun h2 => ?_) (fun h2 => ?_)
    · refine Am <| Af <| Aw <| zsr <| zmv rfl (hd 25 rfl) <| zas rfl (hd 8 rfl) <| Ab <| zsr <| zas rfl (hd 9 rfl) <| Ab ?_
      refine Cu (G := Unit) (fun _ => True) (fun _ => [(9, .i .u64 ((trm b).getD i 0)), (26, .u), (27, .u), (28, .u), (29, .u), (30, .u), (31, .u), (32, .u), (33, .u)]) ?_ ?_
      · refine zsr <| zmv rfl (hd 26 rfl) <| zmv rfl (hd 27 rfl) <| Ac (Av Bo rfl) (hd 28 rfl) <| Ac (Ch rfl rfl) (hd 29 rfl) <| Ab ?_
        refine Bu rfl (fun h3 => ?_) (fun h3 => ?_)
        · refine Ag <| zmv rfl (hd 30 rfl) <| zmv rfl (hd 31 rfl) <| Ac (B8 (i := i) Bo rfl rfl (by first | rfl | omega) (by omega)) (hd 32 rfl) <| Ac (B7 Bw rfl rfl) (hd 33 rfl) <| zas rfl (hd 9 rfl) <| Ab ?_
          refine ⟨(), ?_, rfl, Ba 9 rfl rfl ?_⟩
          · trivial
          · exact (.cons (by first | rfl | (show some (V.i .u64 _) = some (V.i .u64 _); rw [Dw (by omega)])) (.v5 (.u (.u (.u .nil)))))
        · refine Am ?_
          refine ⟨(), ?_, rfl, Ba 4 rfl rfl ?_⟩
          · trivial
          · exact (.cons (by first | rfl | (show some (V.i .u64 _) = some (V.i .u64 _); rw [Dw (by omega)])) (.v5 (.u (.u (.u .nil)))))
      · rintro _ _; refine Ag <| zmv rfl (hd 35 rfl) <| zmv rfl (hd 36 rfl) <| zmv rfl (hd 37 rfl) <| zmv rfl (hd 38 rfl) <| Ac (B8 (i := i) Bo rfl rfl (by first | rfl | omega) (by omega)) (hd 39 rfl) <| Ac (B7 Bw rfl rfl) (hd 40 rfl) <| zmv rfl (hd 41 rfl) <| zmv rfl (hd 42 rfl) <| Ay (Eh (e := E0) Try.func94 rfl rfl (by kernel_rfl) (by kernel_rfl) rfl rfl rfl (fun w => Gq _ _ _ hx.1 hx.2 hy.1 hy.2 hc.1 hc.2 w) Dr) (hd 43 rfl) <| zmv rfl (hd 34 rfl) <| Ac (Ak rfl rfl) (hd 44 rfl) <| Ac (Ak rfl rfl) (hd 45 rfl) ?_; refine Ac (Ci (i := i) Bo rfl rfl rfl (by first | rfl | omega) (by omega) rfl) (hd 46 rfl) <| A1 (Cc rfl rfl rfl Bw (by omega)) <| zas rfl (hd 7 rfl) <| Ab <| Ag <| Ac (A9 rfl rfl (Ap (by omega) (by omega))) (hd 47 rfl) <| zmv rfl (hd 23 rfl) <| Ab ?_
        refine ⟨i + 1, ?_, ?_, (by show [(⟨79, 1, 0, true, A2 .u64 _⟩ : Ob)] = [⟨79, 1, 0, true, A2 .u64 _⟩]; rw [T6 (by omega)]), Ba 57 rfl rfl ?_⟩
        · omega
        · omega
        · exact (.cons rfl (.cons rfl (.v9 (.v9 (.v5 (.u .nil))))))
    · refine By <| Af ?_
      obtain rfl : i = (trm a).length := by omega
      refine Ir (k := .u64) (l' := Nu a b) 6 rfl rfl (by rw [D0 (Dh _ _ _)]; simp [Dh]) (by rw [D0 (Dh _ _ _), List.drop_zero, List.take_of_length_le (by simp [Dh])]; rfl) hL <| Ag <| zmv rfl (hd 48 rfl) ?_
      refine Aj Try.f101 (Ry (Nu a b) (by unfold Nu; rw [Dh]; omega) (Mx uX uY _) h) rfl Try.func101 rfl rfl (Aa rfl Ad) (.cons .n .nil) (hd 49 rfl) ?_ (fun ch hp => by simp at hp)
      rintro _ ⟨⟩; refine Ac (Ak rfl rfl) (hd 50 rfl) <| Ac (Ak rfl rfl) (hd 51 rfl) <| zas rfl (hd 4 rfl) <| zas rfl (hd 5 rfl) <| Ab <| As ?_
      refine ⟨_, _, (.cons rfl (.cons rfl .nil)), (.t1 .n (.t1 .i .t0)), ?_⟩
      exact rfl

theorem Aau (a b : List Int) (ha : a.length < 4294967296) (hb : b.length < 4294967296) (ua : A3 a) (ub : A3 b) (hle : 0 ≤ Lk (trm a) (trm b)) (h : 67108864 < Dp (trm (Nu a b))) : Spec Try.prog 86 [.n false .u64 a, .n false .u64 b] (fun o => o = .ret (.t [.n false .u64 [], .i .i64 3])) := by
  refine Az [(0, .n false .u64 a), (1, .n false .u64 b)] rfl Try.func86 rfl (zlb rfl) fun Γ hN hds hL hR => ?_
  have hd := B5 52 hN
  have hma := C7 a
  have hmb := C7 b
  have uX := Bk ua
  have uY := Bk ub
  refine zsr <| zas rfl (hd 4 rfl) <| zas rfl (hd 5 rfl) <| Ab <| Af <| zsr <| zmv rfl (hd 10 rfl) <| zmv rfl (hd 11 rfl) ?_
  refine Aj Try.f71 (E6 a b (by omega) (by omega)) rfl Try.func71 rfl rfl (Aa rfl (Aa rfl Ad)) (.cons .n (.cons .n .nil)) (hd 12 rfl) ?_ (fun ch hp => by simp at hp)
  rintro _ ⟨⟩; refine Ac (Cd (Ch rfl rfl) (by omega)) (hd 13 rfl) <| Ab <| Bl rfl <| Am <| zsr <| zmv rfl (hd 14 rfl) ?_
  refine Aj Try.f61 (Fh a (by omega)) rfl Try.func61 rfl rfl (Aa rfl Ad) (.cons .n .nil) (hd 15 rfl) ?_ (fun ch hp => by simp at hp)
  rintro _ ⟨⟩; refine zmv rfl (hd 16 rfl) ?_
  refine Aj Try.f61 (Fh b (by omega)) rfl Try.func61 rfl rfl (Aa rfl Ad) (.cons .n .nil) (hd 17 rfl) ?_ (fun ch hp => by simp at hp)
  rintro _ ⟨⟩; refine zas rfl (hd 0 rfl) <| zas rfl (hd 1 rfl) <| Ab <| zsr <| zmv rfl (hd 18 rfl) <| Ac (Av Bo rfl) (hd 19 rfl) <| Ay (Fp (m := (trm a).length) Ky rfl rfl rfl (by show 8 * (trm a).length ≤ _; omega) (by unfold maxLen; omega) rfl) (hd 20 rfl) <| zas rfl (hd 6 rfl) <| Ab <| zsr <| zas rfl (hd 7 rfl) ?_; refine Ab <| Af <| zsr <| zmv rfl (hd 21 rfl) <| Ac (Av Bo rfl) (hd 22 rfl) <| zmv rfl (hd 23 rfl) <| Ab <| Aw ?_
  refine B4 (G := Nat) (fun i => i ≤ (trm a).length) (fun i => [(7, .i .u64 (sbN (trm a) (trm b) i).2), (23, .i .i64 (i : Int)), (8, .u), (9, .u), (24, .u), (25, .u), (26, .u), (27, .u), (28, .u), (29, .u), (30, .u), (31, .u), (32, .u), (33, .u), (34, .u), (35, .u), (36, .u), (37, .u), (38, .u), (39, .u), (40, .u), (41, .u), (42, .u), (43, .u), (44, .u), (45, .u), (46, .u), (47, .u)]) (fun i => [⟨79, 1, 0, true, A2 .u64 (Cv (sbN (trm a) (trm b) i).1 (trm a).length)⟩]) (fun i => (trm a).length - i) 0 ?_ ?_ rfl ?_
  · exact Nat.zero_le _
  · exact (.cons rfl (.cons rfl (.v9 (.v9 (.v5 (.u .nil))))))
  · rintro i hc1
    have hf := Et (l := (sbN (trm a) (trm b) i).1) (n := (trm a).length) (by rw [Dh]; omega)
    have hc := Qt (trm a) (trm b) i
    have hx := Bg uX i
    have hy := Bg uY i
    refine zsr <| Ac (Ch rfl rfl) (hd 24 rfl) <| Ab <| Af ?_
    refine Bu rfl (fun h2 => ?_) (fun h2 => ?_)
    · refine Am <| Af <| Aw <| zsr <| zmv rfl (hd 25 rfl) <| zas rfl (hd 8 rfl) <| Ab <| zsr <| zas rfl (hd 9 rfl) <| Ab ?_
      refine Cu (G := Unit) (fun _ => True) (fun _ => [(9, .i .u64 ((trm b).getD i 0)), (26, .u), (27, .u), (28, .u), (29, .u), (30, .u), (31, .u), (32, .u), (33, .u)]) ?_ ?_
      · refine zsr <| zmv rfl (hd 26 rfl) <| zmv rfl (hd 27 rfl) <| Ac (Av Bo rfl) (hd 28 rfl) <| Ac (Ch rfl rfl) (hd 29 rfl) <| Ab ?_
        refine Bu rfl (fun h3 => ?_) (fun h3 => ?_)
        · refine Ag <| zmv rfl (hd 30 rfl) <| zmv rfl (hd 31 rfl) <| Ac (B8 (i := i) Bo rfl rfl (by first | rfl | omega) (by omega)) (hd 32 rfl) <| Ac (B7 Bw rfl rfl) (hd 33 rfl) <| zas rfl (hd 9 rfl) <| Ab ?_
          refine ⟨(), ?_, rfl, Ba 9 rfl rfl ?_⟩
          · trivial
          · exact (.cons (by first | rfl | (show some (V.i .u64 _) = some (V.i .u64 _); rw [Dw (by omega)])) (.v5 (.u (.u (.u .nil)))))
        · refine Am ?_
          refine ⟨(), ?_, rfl, Ba 4 rfl rfl ?_⟩
          · trivial
          · exact (.cons (by first | rfl | (show some (V.i .u64 _) = some (V.i .u64 _); rw [Dw (by omega)])) (.v5 (.u (.u (.u .nil)))))
      · rintro _ _; refine Ag <| zmv rfl (hd 35 rfl) <| zmv rfl (hd 36 rfl) <| zmv rfl (hd 37 rfl) <| zmv rfl (hd 38 rfl) <| Ac (B8 (i := i) Bo rfl rfl (by first | rfl | omega) (by omega)) (hd 39 rfl) <| Ac (B7 Bw rfl rfl) (hd 40 rfl) <| zmv rfl (hd 41 rfl) <| zmv rfl (hd 42 rfl) <| Ay (Eh (e := E0) Try.func94 rfl rfl (by kernel_rfl) (by kernel_rfl) rfl rfl rfl (fun w => Gq _ _ _ hx.1 hx.2 hy.1 hy.2 hc.1 hc.2 w) Dr) (hd 43 rfl) <| zmv rfl (hd 34 rfl) <| Ac (Ak rfl rfl) (hd 44 rfl) <| Ac (Ak rfl rfl) (hd 45 rfl) ?_; refine Ac (Ci (i := i) Bo rfl rfl rfl (by first | rfl | omega) (by omega) rfl) (hd 46 rfl) <| A1 (Cc rfl rfl rfl Bw (by omega)) <| zas rfl (hd 7 rfl) <| Ab <| Ag <| Ac (A9 rfl rfl (Ap (by omega) (by omega))) (hd 47 rfl) <| zmv rfl (hd 23 rfl) <| Ab ?_
        refine ⟨i + 1, ?_, ?_, (by show [(⟨79, 1, 0, true, A2 .u64 _⟩ : Ob)] = [⟨79, 1, 0, true, A2 .u64 _⟩]; rw [T6 (by omega)]), Ba 57 rfl rfl ?_⟩
        · omega
        · omega
        · exact (.cons rfl (.cons rfl (.v9 (.v9 (.v5 (.u .nil))))))
    · refine By <| Af ?_
      obtain rfl : i = (trm a).length := by omega
      refine Ir (k := .u64) (l' := Nu a b) 6 rfl rfl (by rw [D0 (Dh _ _ _)]; simp [Dh]) (by rw [D0 (Dh _ _ _), List.drop_zero, List.take_of_length_le (by simp [Dh])]; rfl) hL <| Ag <| zmv rfl (hd 48 rfl) ?_
      refine Aj Try.f101 (O9 (Nu a b) (by unfold Nu; rw [Dh]; omega) (Mx uX uY _) h) rfl Try.func101 rfl rfl (Aa rfl Ad) (.cons .n .nil) (hd 49 rfl) ?_ (fun ch hp => by simp at hp)
      rintro _ ⟨⟩; refine Ac (Ak rfl rfl) (hd 50 rfl) <| Ac (Ak rfl rfl) (hd 51 rfl) <| zas rfl (hd 4 rfl) <| zas rfl (hd 5 rfl) <| Ab <| As ?_
      refine ⟨_, _, (.cons rfl (.cons rfl .nil)), (.t1 .n (.t1 .i .t0)), ?_⟩
      exact rfl


theorem Hx (l : List Int) (hl : l.length < 1099511627776) : Spec Try.prog 53 [.n false .u64 l] (fun o => o = .ret (.n false .u64 (trm l))) := by
  refine Az [(0, .n false .u64 l)] rfl Try.func53 rfl (zlb rfl) fun Γ hN hds hL hR => ?_
  have hd := B5 22 hN
  refine zsr <| zas rfl (hd 2 rfl) <| Ab <| zsr <| zmv rfl (hd 4 rfl) <| Ac (Av Dc rfl) (hd 5 rfl) <| zas rfl (hd 3 rfl) <| Ab <| Af <| Aw ?_
  refine B4 (G := Nat) (fun k => k ≤ l.length ∧ tN l k = tN l l.length) (fun k => [(3, .i .i64 (k : Int)), (6, .u), (7, .u), (8, .u), (9, .u), (10, .u), (11, .u), (12, .u), (13, .u), (14, .u), (15, .u), (16, .u), (17, .u)]) (fun _ => _) (fun k => k) l.length ?_ ?_ rfl ?_
  · exact ⟨Nat.le_refl _, rfl⟩
  · exact (.cons rfl (.v9 (.u (.u .nil))))
  · rintro k ⟨hc1, hc2⟩; refine Af <| zsr <| zmv rfl (hd 6 rfl) <| Ac (C0 rfl rfl) (hd 7 rfl) <| zmv rfl (hd 8 rfl) ?_
    refine Fo 8 rfl (fun h1 => ?_) (fun h1 => ?_)
    · refine Bn 8 rfl rfl (A0 rfl) (hd 9 rfl) <| Bn 8 rfl rfl (A0 rfl) (hd 10 rfl) <| Bn 8 rfl rfl (B1 rfl rfl (Ap (by omega) (by omega))) (hd 11 rfl) <| Bn 8 rfl rfl (B8 (i := k - 1) Dc rfl rfl (by omega) (by omega)) (hd 12 rfl) <| Bn 8 rfl rfl (B7 Bw rfl rfl) (hd 13 rfl) <| Bn 8 rfl rfl (Dy rfl rfl) (hd 14 rfl) <| Ac (Cg rfl rfl) (hd 15 rfl) <| Ab ?_
      refine Bu rfl (fun h2 => ?_) (fun h2 => ?_)
      · refine Am <| Aw <| Ag <| zmv rfl (hd 16 rfl) <| Ac (B1 rfl rfl (Ap (by omega) (by omega))) (hd 17 rfl) <| zas rfl (hd 3 rfl) <| Ab ?_
        refine ⟨k - 1, ?_, ?_, rfl, Ba 27 rfl rfl ?_⟩
        · exact ⟨by omega, by rw [← hc2, R2 (by omega) (by assumption)]⟩
        · omega
        · exact (.cons (by show some (V.i .i64 _) = some (V.i .i64 _); congr 2; omega) (.v9 (.u (.u .nil))))
      · refine By <| zsr <| zmv rfl (hd 18 rfl) <| zmv rfl (hd 19 rfl) <| zmv rfl (hd 20 rfl) <| Ac (Il Dc rfl Gi (C8 rfl (by first | rfl | omega)) (.inr ⟨k, C8 rfl rfl, Nat.le_refl _, hc1, rfl⟩) (by omega) (by omega)) (hd 21 rfl) <| zas rfl (hd 2 rfl) <| Ab <| As ?_
        refine ⟨_, _, (.cons rfl .nil), .n, ?_⟩
        unfold trm
        rw [← hc2, N3 (by omega) (by assumption), List.drop_zero]
    · refine B6 8 rfl rfl rfl (hd 9 rfl) <| B6 8 rfl rfl rfl (hd 10 rfl) <| B6 8 rfl rfl rfl (hd 11 rfl) <| B6 8 rfl rfl rfl (hd 12 rfl) <| B6 8 rfl rfl rfl (hd 13 rfl) <| B6 8 rfl rfl rfl (hd 14 rfl) <| Ac (B9 rfl rfl) (hd 15 rfl) <| Ab <| Bl rfl <| By <| zsr <| zmv rfl (hd 18 rfl) ?_; refine zmv rfl (hd 19 rfl) <| zmv rfl (hd 20 rfl) <| Ac (Il Dc rfl Gi (C8 rfl (by first | rfl | omega)) (.inr ⟨k, C8 rfl rfl, Nat.le_refl _, hc1, rfl⟩) (by omega) (by omega)) (hd 21 rfl) <| zas rfl (hd 2 rfl) <| Ab <| As ?_
      refine ⟨_, _, (.cons rfl .nil), .n, ?_⟩
      unfold trm
      rw [← hc2, Ae9 (by omega), List.drop_zero]

theorem Qj (l : List Int) : Spec Try.prog 46 [.n false .u64 l] (fun o => o = .ret (.b (decide ((l.length : Int) = 0)))) := by
  refine Az [(0, .n false .u64 l)] rfl Try.func46 rfl (zlb rfl) fun Γ hN hds hL hR => ?_
  have hd := B5 6 hN
  refine zsr <| zas rfl (hd 2 rfl) <| Ab <| zsr <| zmv rfl (hd 3 rfl) <| Ac (Av Dc rfl) (hd 4 rfl) <| Ac (Dy rfl rfl) (hd 5 rfl) <| zas rfl (hd 2 rfl) <| Ab <| As ?_
  refine ⟨_, _, (.cons rfl .nil), .b, ?_⟩
  exact rfl

theorem L8 (s : Bool) (l : List Int) : Spec Try.prog 55 [.b s, .n false .u64 l] (fun o => o = .ret (.a [.b (s && decide (l ≠ [])), .n false .u64 l])) := by
  refine Az [(0, .b s), (1, .n false .u64 l)] rfl Try.func55 rfl (zlb rfl) fun Γ hN hds hL hR => ?_
  have hd := B5 13 hN
  refine zsr <| Ay (An (id := 0) Bx (by decide) rfl (by decide) rfl) (hd 4 rfl) <| Ab <| zsr <| zmv rfl (hd 5 rfl) <| zmv rfl (hd 6 rfl) ?_
  refine Io 6 rfl (fun h1 => ?_) (fun h1 => ?_)
  · refine Bn 6 rfl rfl (A0 rfl) (hd 7 rfl) ?_
    refine Eb Try.f46 6 rfl rfl (Qj l) rfl Try.func46 rfl rfl (Aa rfl Ad) (.cons .n .nil) (hd 8 rfl) ?_ (fun ch hp => by simp at hp)
    rintro _ ⟨⟩; refine Bn 6 rfl rfl (Fn rfl) (hd 9 rfl) <| Ac (Cg rfl rfl) (hd 10 rfl) <| zmv rfl (hd 11 rfl) <| Ac (B3 (is := [0, 1]) (xs := [.tmp 10, .tmp 11]) Bx Ih rfl (Aa rfl (Aa rfl Ad)) rfl (by first | (simp [Ck, cellsV]; done) | (simp [Ck, cellsV, old]; done)) (Cj rfl) rfl) (hd 12 rfl) <| A1 (Ae rfl rfl rfl Ca rfl rfl (zlb rfl)) <| Ab <| As ?_
    refine ⟨_, _, (.cons (ResV.cell Bt rfl rfl rfl rfl) .nil), (.a1 .b (.a1 .n .a0)), ?_⟩
    cases l <;> simp_all <;> omega
  · refine B6 6 rfl rfl rfl (hd 7 rfl) <| B6 6 rfl rfl rfl (hd 8 rfl) <| B6 6 rfl rfl rfl (hd 9 rfl) <| Ac (B9 rfl rfl) (hd 10 rfl) <| zmv rfl (hd 11 rfl) <| Ac (B3 (is := [0, 1]) (xs := [.tmp 10, .tmp 11]) Bx Ih rfl (Aa rfl (Aa rfl Ad)) rfl (by first | (simp [Ck, cellsV]; done) | (simp [Ck, cellsV, old]; done)) (Cj rfl) rfl) (hd 12 rfl) <| A1 (Ae rfl rfl rfl Ca rfl rfl (zlb rfl)) <| Ab <| As ?_
    refine ⟨_, _, (.cons (ResV.cell Bt rfl rfl rfl rfl) .nil), (.a1 .b (.a1 .n .a0)), ?_⟩
    cases l <;> simp_all <;> omega

theorem Zj (l : List Int) (hl : l.length < 4294967296) (hu : A3 l) : Spec Try.prog 20 [.n false .u64 l] (fun o => o = .ret (.n false .u64 (trm (dig l)))) := by
  refine Az [(0, .n false .u64 l)] rfl Try.func20 rfl (zlb rfl) fun Γ hN hds hL hR => ?_
  have hd := B5 26 hN
  refine zsr <| zas rfl (hd 2 rfl) <| Ab <| zsr <| zmv rfl (hd 6 rfl) <| Ac (Av Hv rfl) (hd 7 rfl) <| Ac (Dv rfl rfl (Ap (by omega) (by omega))) (hd 8 rfl) <| Ay (Acv (m := 2 * l.length) Vj rfl rfl (by omega) (by show 8 * (2 * l.length) ≤ _; omega) (by unfold maxLen; omega) rfl) (hd 9 rfl) <| zas rfl (hd 3 rfl) <| Ab <| Af ?_; refine zsr <| zmv rfl (hd 10 rfl) <| Ac (Av Hv rfl) (hd 11 rfl) <| zmv rfl (hd 12 rfl) <| Ab <| Aw ?_
  refine Iq (G := Nat) 1 (fun g => g ≤ l.length) (fun g => [(3, .o 0 g 0 (2 * g)), (12, .i .i64 (g : Int)), (5, .u), (13, .u), (14, .u), (15, .u), (16, .u), (17, .u), (18, .u), (19, .u), (20, .u), (21, .u), (22, .u), (23, .u)]) (fun g => [⟨79, 1, g, true, A2 .u64 (dig (l.take g))⟩]) (fun g => l.length - g) 0 ?_ ?_ rfl hR rfl (fun _ _ => rfl) (fun g _ => .cons Bc .nil) ?_
  · exact Nat.zero_le _
  · exact (.cons rfl (.cons rfl (.v9 (.u (.u .nil)))))
  · rintro i hc1
    have hx := Bg hu i
    refine zsr <| Ac (Ch rfl rfl) (hd 13 rfl) <| Ab <| Af ?_
    refine Bu rfl (fun h1 => ?_) (fun h1 => ?_)
    · refine Am <| Af <| Aw <| zsr <| Ac (B8 (i := i) Hv rfl rfl (by first | rfl | omega) (by omega)) (hd 14 rfl) <| Ac (B7 Bw rfl rfl) (hd 15 rfl) <| zas rfl (hd 5 rfl) <| Ab <| Ag <| zmv rfl (hd 16 rfl) <| zmv rfl (hd 17 rfl) <| Ac (B0 (Hq rfl rfl (by decide) rfl) (show V.i .u64 ((l.getD i 0).tmod 4294967296) = V.i .u64 ((l.getD i 0) % 4294967296) by rw [Int.tmod_eq_emod_of_nonneg hx.1])) (hd 18 rfl) ?_; refine zmv rfl (hd 19 rfl) <| Ac (Fx rfl rfl (by decide) (r := (l.getD i 0) / 4294967296) (by show IntKind.u64.wrap (Int.tdiv (l.getD i 0) 4294967296) = _; rw [Int.tdiv_eq_ediv_of_nonneg hx.1]; exact Bh (by omega) (by omega))) (hd 20 rfl) <| Ay (Hs (id := 1) (xs := [.tmp 18, .tmp 20]) Vj rfl (Aa rfl (Aa rfl Ad)) rfl (F3 rfl) (by decide) rfl) (hd 21 rfl) <| To Vj rfl rfl (by rw [D6, Kp, List.length_take, Nat.min_eq_left (by omega), Nat.mul_one]) rfl (Yx rfl rfl rfl) (by show (2 * i + 2) * 8 ≤ _; omega) (by unfold maxLen; omega) (hd 22 rfl) <| zas rfl (hd 3 rfl) <| Ab <| Ag <| Ac (A9 rfl rfl (Ap (by omega) (by omega))) (hd 23 rfl) <| zmv rfl (hd 12 rfl) <| Ab ?_
      refine ⟨i + 1, ?_, ?_, (by show [(⟨79, 1, i + 1, true, A2 .u64 (dig (l.take i)) ++ A2 .u64 [_, _]⟩ : Ob)] = [⟨79, 1, i + 1, true, A2 .u64 (dig (l.take (i + 1)))⟩]; rw [Hy, Wt (by omega)]), Ba 28 rfl rfl ?_⟩
      · omega
      · omega
      · exact (.cons rfl (.cons rfl (.v9 (.u (.u .nil)))))
    · refine By <| Af ?_
      obtain rfl : i = l.length := by omega
      refine Ag <| Gz (k := .u64) (l' := dig l) 3 rfl rfl (by rw [Kp, List.length_take, Nat.min_self]; omega) (by rw [List.take_length, List.drop_zero, List.take_of_length_le (by rw [Kp]; exact Nat.le_refl _)]) hL <| zmv rfl (hd 24 rfl) ?_
      refine Aj Try.f53 (Hx (dig l) (by rw [Kp]; omega)) rfl Try.func53 rfl rfl (Aa rfl Ad) (.cons .n .nil) (hd 25 rfl) ?_ (fun ch hp => by simp at hp)
      rintro _ ⟨⟩; refine zas rfl (hd 2 rfl) <| Ab <| As ?_
      refine ⟨_, _, (.cons rfl .nil), .n, ?_⟩
      exact rfl

theorem Ab1 (v : Int) (h0 : 0 ≤ v) (h1 : v < 9223372036854775808) : Spec Try.prog 57 [.i .i64 v] (fun o => o = .ret (.n false .u64 (trm (dig [v])))) := by
  refine Az [(0, .i .i64 v)] rfl Try.func57 rfl (zlb rfl) fun Γ hN hds hL hR => ?_
  have hd := B5 7 hN
  refine zsr <| zas rfl (hd 2 rfl) <| Ab <| zsr <| zmv rfl (hd 3 rfl) <| Ac (D1 Mt H7 rfl (Bh (by omega) (by omega))) (hd 4 rfl) <| Ay (Hs (id := 0) (xs := [.tmp 4]) Aaf rfl (Aa rfl Ad) rfl (F3 rfl) (by decide) rfl) (hd 5 rfl) <| Gz (k := .u64) (l := [v]) (l' := [v]) 5 rfl rfl (Nat.le_refl _) rfl hL ?_
  refine Aj Try.f20 (Zj [v] (by simp) (H8 (by omega) (by omega))) rfl Try.func20 rfl rfl (Aa rfl Ad) (.cons .n .nil) (hd 6 rfl) ?_ (fun ch hp => by simp at hp)
  rintro _ ⟨⟩; refine zas rfl (hd 2 rfl) <| Ab <| As ?_
  refine ⟨_, _, (.cons rfl .nil), .n, ?_⟩
  exact rfl

theorem Va (v : Int) (h0 : 0 ≤ v) (h1 : v < 9223372036854775808) : Spec Try.prog 28 [.i .i64 v] (fun o => o = .ret (.a [.b (false && decide (trm (dig [v]) ≠ [])), .n false .u64 (trm (dig [v]))])) := by
  refine Az [(0, .i .i64 v)] rfl Try.func28 rfl (zlb rfl) fun Γ hN hds hL hR => ?_
  have hd := B5 16 hN
  refine zsr <| Ay (An (id := 0) Bx (by decide) rfl (by decide) rfl) (hd 2 rfl) <| Ab <| Af <| zsr <| zmv rfl (hd 3 rfl) <| Ac (Cd (Ch rfl rfl) (by omega)) (hd 4 rfl) <| Ab <| Bl rfl <| Am <| Af ?_; refine Ag <| zmv rfl (hd 13 rfl) ?_
  refine Aj Try.f57 (Ab1 v h0 h1) rfl Try.func57 rfl rfl (Aa rfl Ad) (.cons .i .nil) (hd 14 rfl) ?_ (fun ch hp => by simp at hp)
  rintro y hy; injection hy with hy; subst hy
  refine Aj Try.f55 (L8 false (trm (dig [v]))) rfl Try.func55 rfl rfl (Aa rfl (Aa rfl Ad)) (.cons .b (.cons .n .nil)) (hd 15 rfl) ?_ (fun ch hp => by simp at hp)
  rintro _ ⟨⟩; refine A1 (Ae rfl rfl rfl Ca rfl rfl (zlb rfl)) <| Ab <| As ?_
  refine ⟨_, _, (.cons (ResV.cell Bt rfl rfl rfl rfl) .nil), (.a1 .b (.a1 .n .a0)), ?_⟩
  exact rfl

theorem Vb (v : Int) (h0 : v < 0) (h1 : -9223372036854775808 ≤ v) : Spec Try.prog 28 [.i .i64 v] (fun o => o = .ret (.a [.b (true && decide (trm (dig [-v]) ≠ [])), .n false .u64 (trm (dig [-v]))])) := by
  refine Az [(0, .i .i64 v)] rfl Try.func28 rfl (zlb rfl) fun Γ hN hds hL hR => ?_
  have hd := B5 16 hN
  refine zsr <| Ay (An (id := 0) Bx (by decide) rfl (by decide) rfl) (hd 2 rfl) <| Ab <| Af <| zsr <| zmv rfl (hd 3 rfl) <| Ac (Ft (Ch rfl rfl) (by omega)) (hd 4 rfl) <| Ab <| Dm rfl <| Af <| Ag ?_; refine zmv rfl (hd 5 rfl) <| Ac (A9 rfl rfl (Ap (by omega) (by omega))) (hd 6 rfl) <| Ac (S8 rfl (Ap (by omega) (by omega))) (hd 7 rfl) <| Ac (D1 Mt H7 rfl (Bh (by omega) (by omega))) (hd 8 rfl) <| Ac (A9 rfl rfl (r := -v) (by rw [Bh (by omega) (by omega)]; omega)) (hd 9 rfl) <| Ay (Hs (id := 1) (xs := [.tmp 9]) Aaf rfl (Aa rfl Ad) rfl (F3 rfl) (by decide) rfl) (hd 10 rfl) <| Gz (k := .u64) (l := [-v]) (l' := [-v]) 10 rfl rfl (Nat.le_refl _) rfl hL ?_
  refine Aj Try.f20 (Zj [-v] (by simp) (H8 (by omega) (by omega))) rfl Try.func20 rfl rfl (Aa rfl Ad) (.cons .n .nil) (hd 11 rfl) ?_ (fun ch hp => by simp at hp)
  rintro y hy; injection hy with hy; subst hy
  refine Aj Try.f55 (L8 true (trm (dig [-v]))) rfl Try.func55 rfl rfl (Aa rfl (Aa rfl Ad)) (.cons .b (.cons .n .nil)) (hd 12 rfl) ?_ (fun ch hp => by simp at hp)
  rintro _ ⟨⟩; refine A1 (Ae rfl rfl rfl Ca rfl rfl (zlb rfl)) <| Ab <| As ?_
  refine ⟨_, _, (.cons (ResV.cell Bt rfl rfl rfl rfl) .nil), (.a1 .b (.a1 .n .a0)), ?_⟩
  exact rfl

theorem Aav (l : List Int) (hl : l.length < 4294967296) : Spec Try.prog 22 [.n false .u64 l] (fun o => o = .ret (.n true .u64 (Ks l))) := by
  refine Az [(0, .n false .u64 l)] rfl Try.func22 rfl (zlb rfl) fun Γ hN hds hL hR => ?_
  have hd := B5 34 hN
  refine zsr <| zas rfl (hd 2 rfl) <| Ab <| zsr <| zas rfl (hd 3 rfl) <| Ab <| Af <| Af <| Ol (id := 0) 3 79 1 rfl rfl <| Ag <| zas rfl (hd 4 rfl) ?_; refine Ab <| Aw ?_
  refine Iq (G := Nat × List Int) 1 (fun g => g.1 ≤ l.length + 1 ∧ g.2 ++ Ks (l.drop g.1) = Ks l ∧ g.2.length ≤ g.1) (fun g => [(3, .o 0 g.2.length 0 g.2.length), (4, .i .i64 (g.1 : Int)), (5, .u), (6, .u), (7, .u), (8, .u), (9, .u), (10, .u), (11, .u), (12, .u), (13, .u), (14, .u), (15, .u), (16, .u), (17, .u), (18, .u), (19, .u), (20, .u), (21, .u), (22, .u), (23, .u), (24, .u), (25, .u), (26, .u), (27, .u), (28, .u), (29, .u), (30, .u), (31, .u), (32, .u)]) (fun g => [⟨79, 1, g.2.length, true, A2 .u64 g.2⟩]) (fun g => l.length + 1 - g.1) (0, []) ?_ ?_ rfl hR rfl (fun _ _ => rfl) (fun g _ => .cons Bc .nil) ?_
  · exact ⟨Nat.zero_le _, rfl, Nat.le_refl _⟩
  · exact (.cons rfl (.cons rfl (.v9 (.v9 (.v5 (.u (.u (.u .nil))))))))
  · rintro ⟨j, acc⟩ ⟨hc1, hc2, hc3⟩
    dsimp only at hc1 hc2 hc3
    refine Af <| zsr <| zmv rfl (hd 6 rfl) <| zmv rfl (hd 7 rfl) <| Ac (Av Dc rfl) (hd 8 rfl) <| Ac (Ch rfl rfl) (hd 9 rfl) <| Ab ?_
    refine Bu rfl (fun h1 => ?_) (fun h1 => ?_)
    · have hjl : j < l.length := by
        have h0 : (j : Int) < (l.length : Int) := by assumption
        omega
      refine Am <| Af <| Aw <| zsr <| zmv rfl (hd 12 rfl) <| zmv rfl (hd 13 rfl) <| Ac (B8 (i := j) Dc rfl rfl (by first | rfl | omega) (by omega)) (hd 14 rfl) <| Ac (B7 Bw rfl rfl) (hd 15 rfl) <| zas rfl (hd 5 rfl) <| Ab ?_
      refine Cu (G := Int) (fun v => Ks (l.drop j) = v :: Ks (l.drop (j + 2))) (fun v => [(5, .i .u64 v), (16, .u), (17, .u), (18, .u), (19, .u), (20, .u), (21, .u), (22, .u), (23, .u), (24, .u), (25, .u), (26, .u), (27, .u), (28, .u)]) ?_ ?_
      · refine zsr <| zmv rfl (hd 16 rfl) <| Ac (A9 rfl rfl (r := ((j + 1 : Nat) : Int)) (by rw [Ap (by omega) (by omega)]; omega)) (hd 17 rfl) <| zmv rfl (hd 18 rfl) <| Ac (Av Dc rfl) (hd 19 rfl) <| Ac (Ch rfl rfl) (hd 20 rfl) <| Ab ?_
        refine Bu rfl (fun h2 => ?_) (fun h2 => ?_)
        · refine Ag <| zmv rfl (hd 21 rfl) <| zmv rfl (hd 22 rfl) <| zmv rfl (hd 23 rfl) <| Ac (A9 rfl rfl (r := ((j + 1 : Nat) : Int)) (by rw [Ap (by omega) (by omega)]; omega)) (hd 24 rfl) <| Ac (B8 (i := j + 1) Dc rfl rfl (by first | rfl | omega) (by omega)) (hd 25 rfl) <| Ac (B7 Bw rfl rfl) (hd 26 rfl) <| Ac (Dv rfl rfl rfl) (hd 27 rfl) <| Ac (A9 rfl rfl rfl) (hd 28 rfl) <| zas rfl (hd 5 rfl) <| Ab ?_
          refine ⟨IntKind.u64.wrap (l.getD j 0 + IntKind.u64.wrap (l.getD (j + 1) 0 * 4294967296)), ?_, rfl, Ba 14 rfl rfl ?_⟩
          · exact Aen (by omega)
          · exact (.cons rfl (.v9 (.u (.u (.u .nil)))))
        · refine Am ?_
          refine ⟨l.getD j 0, ?_, rfl, Ba 5 rfl rfl ?_⟩
          · exact Aeo hjl (by omega)
          · exact (.cons rfl (.v9 (.u (.u (.u .nil)))))
      · rintro v hv; refine Ag <| zmv rfl (hd 29 rfl) <| zmv rfl (hd 30 rfl) <| Ay (Hs (id := 1) (xs := [.tmp 30]) Aaf rfl (Aa rfl Ad) rfl (F3 rfl) (by decide) rfl) (hd 31 rfl) <| To Aaf rfl rfl (by rw [D6, Nat.mul_one]) rfl (Yx rfl rfl rfl) (by show (acc.length + 1) * 8 ≤ _; omega) (by show acc.length + 1 ≤ 9223372036854775807; omega) (hd 32 rfl) <| zas rfl (hd 3 rfl) <| Ab <| Ag <| zmv rfl (hd 10 rfl) <| Ac (A9 rfl rfl (r := ((j + 2 : Nat) : Int)) (by rw [Ap (by omega) (by omega)]; omega)) (hd 11 rfl) <| zas rfl (hd 4 rfl) <| Ab ?_
        refine ⟨(j + 2, acc ++ [v]), ?_, ?_, (by show [(⟨79, 1, acc.length + 1, true, A2 .u64 acc ++ A2 .u64 [v]⟩ : Ob)] = [⟨79, 1, (acc ++ [v]).length, true, A2 .u64 (acc ++ [v])⟩]; rw [Hy, List.length_append]; rfl), Ba 61 rfl rfl ?_⟩
        · exact ⟨by omega, by rw [List.append_assoc, List.singleton_append, ← hv]; exact hc2, by rw [List.length_append, List.length_singleton]; omega⟩
        · show l.length + 1 - (j + 2) < l.length + 1 - j
          omega
        · exact (.cons (by show some _ = some _; rw [List.length_append]; rfl) (.cons rfl (.v9 (.v9 (.v5 (.u (.u (.u .nil))))))))
    · have hjl : l.length ≤ j := by
        have h0 : ¬ (j : Int) < (l.length : Int) := by assumption
        omega
      refine By <| zsr <| zmv rfl (hd 33 rfl) <| zas rfl (hd 2 rfl) <| Ab <| As ?_
      refine ⟨_, _, (.cons rfl .nil), (.o rfl (by simp) rfl), ?_⟩
      rw [List.drop_zero, List.take_length, ← hc2, List.drop_eq_nil_of_le hjl]
      simp only [Ks, List.append_nil]

theorem Ags (l : List Int) (hl : l.length < 4294967296) : Spec Try.prog 21 [.n false .u64 l, .n false .u64 (Ks l)] (fun o => o = .ret (.b true)) := by
  refine Az [(0, .n false .u64 l), (1, .n false .u64 (Ks l))] rfl Try.func21 rfl (zlb rfl) fun Γ hN hds hL hR => ?_
  have hd := B5 29 hN
  have hm := Pw l
  refine zsr <| zas rfl (hd 4 rfl) <| Ab <| zsr <| zmv rfl (hd 7 rfl) ?_
  refine Aj Try.f22 (Aav l hl) rfl Try.func22 rfl rfl (Aa rfl Ad) (.cons .n .nil) (hd 8 rfl) ?_ (fun ch hp => by simp at hp)
  rintro _ ⟨⟩; refine zas rfl (hd 5 rfl) <| Ab <| Af <| zsr <| zmv rfl (hd 9 rfl) <| Ac (Av Hv rfl) (hd 10 rfl) <| zmv rfl (hd 11 rfl) <| Ac (Av Hv rfl) (hd 12 rfl) <| Ac (Cd (Cm rfl rfl) (by simp)) (hd 13 rfl) <| Ab <| Bl rfl <| Am ?_; refine Af <| zsr <| zmv rfl (hd 14 rfl) <| Ac (Av Hv rfl) (hd 15 rfl) <| zmv rfl (hd 16 rfl) <| Ab <| Aw ?_
  refine B4 (G := Nat) (fun i => i ≤ (Ks l).length) (fun i => [(16, .i .i64 (i : Int)), (4, .u), (6, .u), (17, .u), (18, .u), (19, .u), (20, .u), (21, .u), (22, .u), (23, .u), (24, .u), (25, .u), (26, .u), (27, .u), (28, .u)]) (fun _ => _) (fun i => (Ks l).length - i) 0 ?_ ?_ rfl ?_
  · exact Nat.zero_le _
  · exact (.cons rfl (.v9 (.u (.u (.u (.u .nil))))))
  · rintro i hc1; refine zsr <| Ac (Ch rfl rfl) (hd 17 rfl) <| Ab <| Af ?_
    refine Bu rfl (fun h2 => ?_) (fun h2 => ?_)
    · refine Am <| Af <| Aw <| zsr <| zmv rfl (hd 18 rfl) <| zas rfl (hd 6 rfl) <| Ab <| Af <| Be (n := 9) _ rfl B2 <| Ax 0 [2, 3, 8] (Ao (A0 rfl) (hd 19 rfl)) rfl <| Ax 1 [2, 3, 8] (Ao (A0 rfl) (hd 20 rfl)) rfl <| Ax 2 [3, 8] (Ao (B8 (i := i) Hv rfl rfl (by first | rfl | omega) (by omega)) (hd 21 rfl)) rfl ?_; refine zal 3 (Ao (B7 Bw rfl rfl) (hd 22 rfl)) rfl <| Ax 4 [6, 7, 8] (Ao (A0 rfl) (hd 23 rfl)) rfl <| Ax 5 [6, 7, 8] (Ao (A0 rfl) (hd 24 rfl)) rfl <| Ax 6 [7, 8] (Ao (B8 (i := i) Hv rfl rfl (by first | rfl | omega) (by omega)) (hd 25 rfl)) rfl <| zal 7 (Ao (B7 Bw rfl rfl) (hd 26 rfl)) rfl <| zal 8 (Ao (Cd (Cm rfl rfl) (by simp)) (hd 27 rfl)) rfl <| Bi (by kernel_rfl) <| Bl rfl <| Am <| Ag <| Ac (A9 rfl rfl (Ap (by omega) (by omega))) (hd 28 rfl) <| zmv rfl (hd 16 rfl) <| Ab ?_
      refine ⟨i + 1, ?_, ?_, rfl, Ba 29 rfl rfl ?_⟩
      · omega
      · omega
      · exact (.cons rfl (.v9 (.u (.u (.u (.u .nil))))))
    · refine By <| zsr <| zas rfl (hd 4 rfl) <| Ab <| As ?_
      refine ⟨_, _, (.cons rfl .nil), .b, ?_⟩
      exact rfl

theorem Aas (s : Bool) (l : List Int) (hl : l.length < 4294967296) : Spec Try.prog 45 [.a [.b s, .n false .u64 l], .b s, .n false .u64 (Ks l)] (fun o => o = .ret (.b true)) := by
  refine Az [(0, .a [.b s, .n false .u64 l]), (1, .b s), (2, .n false .u64 (Ks l))] rfl Try.func45 rfl (zlb rfl) fun Γ hN hds hL hR => ?_
  have hd := B5 17 hN
  refine zsr <| Ay (Br (id := 0) (n := 2) rfl rfl rfl (by decide) rfl) (hd 3 rfl) <| zas rfl (hd 6 rfl) <| Ab <| zsr <| Ac (Bd Ep rfl rfl rfl) (hd 7 rfl) <| Ac (A8 C5 rfl rfl rfl) (hd 8 rfl) <| zmv rfl (hd 9 rfl) <| Ac (B0 (Pt Qo rfl rfl) (show V.b (s == s) = V.b true by simp)) (hd 10 rfl) <| zmv rfl (hd 11 rfl) <| Bn 11 rfl rfl (Bd Dl rfl rfl rfl) (hd 12 rfl) ?_; refine Bn 11 rfl rfl (A8 Fl rfl rfl rfl) (hd 13 rfl) <| Bn 11 rfl rfl (A0 rfl) (hd 14 rfl) ?_
  refine Eb Try.f21 11 rfl rfl (Ags l hl) rfl Try.func21 rfl rfl (Aa rfl (Aa rfl Ad)) (.cons .n (.cons .n .nil)) (hd 15 rfl) ?_ (fun ch hp => by simp at hp)
  rintro _ ⟨⟩; refine Ac (Cg rfl rfl) (hd 16 rfl) <| zas rfl (hd 6 rfl) <| Ab <| As ?_
  refine ⟨_, _, (.cons rfl .nil), .b, ?_⟩
  exact rfl

theorem Aax (x d : Int) (hx0 : 0 ≤ x) (hx : x < 18446744073709551616) (hd0 : 0 < d) (hdm : d < 18446744073709551616) : Spec Try.prog 78 [.i .u64 0, .i .u64 x, .i .u64 d] (fun o => o = .ret (.t [.i .u64 (x / d), .i .u64 (x % d)])) := by
  refine Az [(0, .i .u64 0), (1, .i .u64 x), (2, .i .u64 d)] rfl Try.func78 rfl (zlb rfl) fun Γ hN hds hL hR => ?_
  have hd := B5 135 hN
  refine zsr <| zas rfl (hd 6 rfl) <| zas rfl (hd 7 rfl) <| Ab <| Af <| zsr <| zmv rfl (hd 19 rfl) <| Ac (Cd (Dy rfl rfl) (by omega)) (hd 20 rfl) <| Ab <| Bl rfl <| Am ?_; refine Af <| zsr <| zmv rfl (hd 22 rfl) <| zmv rfl (hd 23 rfl) <| Ac (Cd (S9 rfl rfl) (by omega)) (hd 24 rfl) <| Ab <| Bl rfl <| Am <| Af <| zsr <| zmv rfl (hd 26 rfl) ?_; refine Ac (Ft (Dy rfl rfl) rfl) (hd 27 rfl) <| Ab <| Dm rfl <| Af <| Be (n := 8) _ rfl B2 <| zal 0 (Ao (A0 rfl) (hd 28 rfl)) rfl <| zal 1 (Ao (A0 rfl) (hd 29 rfl)) rfl <| zal 2 (Ao (Fx rfl rfl (by omega) (r := x / d) (by show IntKind.u64.wrap (Int.tdiv x d) = _; rw [Int.tdiv_eq_ediv_of_nonneg hx0]; exact Bh (Int.ediv_nonneg hx0 (by omega)) (Int.lt_of_le_of_lt (Int.ediv_le_self d hx0) hx))) (hd 30 rfl)) rfl <| zal 3 (Ao (A0 rfl) (hd 31 rfl)) rfl <| zal 4 (Ao (A0 rfl) (hd 32 rfl)) rfl <| zal 5 (Ao (B0 (Hq rfl rfl (by omega) rfl) (show V.i .u64 (x.tmod d) = V.i .u64 (x % d) by rw [Int.tmod_eq_emod_of_nonneg hx0])) (hd 33 rfl)) rfl <| zal 6 (Ao (Cr rfl) (hd 6 rfl)) rfl <| zal 7 (Ao (Cr rfl) (hd 7 rfl)) rfl ?_; refine Bi (by kernel_rfl) <| As ?_
  refine ⟨_, _, (.cons rfl (.cons rfl .nil)), (.t1 .i (.t1 .i .t0)), ?_⟩
  exact rfl

theorem Wr (x d : Int) (hx0 : 0 ≤ x) (hx : x < 18446744073709551616) (hd0 : 0 < d) (hdm : d < 18446744073709551616) (hle : d ≤ x) : Spec Try.prog 65 [.n false .u64 [x], .n false .u64 [d]] (fun o => o = .ret (.t [.n true .u64 (trm [x / d]), .n true .u64 (if x % d = 0 then [] else [x % d])])) := by
  refine Az [(0, .n false .u64 [x]), (1, .n false .u64 [d])] rfl Try.func65 rfl (zlb rfl) fun Γ hN hds hL hR => ?_
  have hd := B5 104 hN
  have hcm : ¬ Lk (trm [x]) (trm [d]) < 0 := by rw [Ad0 (by omega), Ad0 (by omega)]; exact Agk hle
  refine zsr <| zas rfl (hd 4 rfl) <| zas rfl (hd 5 rfl) <| Ab <| Af <| zsr <| zmv rfl (hd 15 rfl) <| zmv rfl (hd 16 rfl) ?_
  refine Aj Try.f71 (E6 [x] [d] (by simp) (by simp)) rfl Try.func71 rfl rfl (Aa rfl (Aa rfl Ad)) (.cons .n (.cons .n .nil)) (hd 17 rfl) ?_ (fun ch hp => by simp at hp)
  rintro _ ⟨⟩; refine Ac (Cd (Ch rfl rfl) hcm) (hd 18 rfl) <| Ab <| Bl rfl <| Am <| Af <| zsr <| zmv rfl (hd 20 rfl) <| Ac (Av Bo rfl) (hd 21 rfl) <| Ac (Ft (Dy rfl rfl) rfl) (hd 22 rfl) <| Ab <| Dm rfl <| Af ?_; refine Ag <| zmv rfl (hd 23 rfl) <| Ac (Av Bo rfl) (hd 24 rfl) <| Ay (Fp (m := 1) Ky rfl rfl rfl (by decide) (by decide) rfl) (hd 25 rfl) <| zas rfl (hd 6 rfl) <| zas rfl (hd 7 rfl) <| Ab <| Af <| zsr <| zmv rfl (hd 26 rfl) <| Ac (Av Bo rfl) (hd 27 rfl) <| Ac (B1 rfl rfl (r := 0) rfl) (hd 28 rfl) ?_; refine zas rfl (hd 8 rfl) <| Ab <| Aw ?_
  refine B4 (G := Nat) (fun g => g ≤ 1) (fun g => [(7, .i .u64 (if g = 1 then 0 else x % d)), (8, .i .i64 ((g : Int) - 1)), (29, .u), (30, .u), (31, .u), (32, .u), (33, .u), (34, .u), (35, .u), (36, .u), (37, .u), (38, .u), (39, .u), (40, .u), (41, .u), (42, .u), (43, .u), (44, .u), (45, .u), (46, .u), (47, .u)]) (fun g => [⟨79, 1, 0, true, A2 .u64 [if g = 1 then 0 else x / d]⟩]) (fun g => g) 1 ?_ ?_ rfl ?_
  · exact Nat.le_refl _
  · exact (.cons rfl (.cons rfl (.v9 (.v5 (.u (.u (.u (.u .nil))))))))
  · rintro k hc1; refine Af <| zsr <| zmv rfl (hd 29 rfl) <| Ac (Eu rfl rfl) (hd 30 rfl) <| Ab ?_
    refine Bu rfl (fun h3 => ?_) (fun h3 => ?_)
    · obtain rfl : k = 1 := by omega
      refine Am <| Af <| Aw <| Be (n := 17) _ rfl B2 <| zal 0 (Ao (A0 rfl) (hd 34 rfl)) rfl <| zal 1 (Ao (A0 rfl) (hd 35 rfl)) rfl <| Ax 2 [10, 11, 12, 13, 14, 15, 16] (Ao (A0 rfl) (hd 36 rfl)) rfl <| Ax 3 [5, 6, 10, 11, 12, 13, 14, 15, 16] (Ao (A0 rfl) (hd 37 rfl)) rfl <| Ax 4 [5, 6, 10, 11, 12, 13, 14, 15, 16] (Ao (A0 rfl) (hd 38 rfl)) rfl <| Ax 5 [6, 10, 11, 12, 13, 14, 15, 16] (Ao (B8 (i := 0) Bo rfl rfl rfl (by simp)) (hd 39 rfl)) rfl <| Ax 6 [10, 11, 12, 13, 14, 15, 16] (Ao (B7 Bw rfl rfl) (hd 40 rfl)) rfl <| Ax 7 [8, 9, 10, 11, 12, 13, 14, 15, 16] (Ao (A0 rfl) (hd 41 rfl)) rfl <| Ax 8 [9, 10, 11, 12, 13, 14, 15, 16] (Ao (B8 (i := 0) Bo rfl rfl rfl (by simp)) (hd 42 rfl)) rfl ?_; refine Ax 9 [10, 11, 12, 13, 14, 15, 16] (Ao (B7 Bw rfl rfl) (hd 43 rfl)) rfl ?_
      refine Bb 10 ?_ rfl (by kernel_rfl)
      refine A4 Try.f78 (Aax x d hx0 hx hd0 hdm) rfl Try.func78 rfl rfl (Aa rfl (Aa rfl (Aa rfl Ad))) (.cons .i (.cons .i (.cons .i .nil))) (hd 44 rfl) ?_ (fun ch hp => by simp at hp)
      rintro _ ⟨⟩; refine zal 11 (Ao (A0 rfl) (hd 33 rfl)) rfl <| zal 12 (Ao (Ak rfl rfl) (hd 45 rfl)) rfl <| zal 13 (Gy rfl rfl (hd 46 rfl)) rfl <| zal 14 (Ao (Ci (i := 0) Bo rfl rfl rfl rfl (Nat.le_refl 1) rfl) (hd 47 rfl)) rfl ?_
      refine Bb 15 ?_ rfl (by kernel_rfl)
      refine A7 (Cc rfl rfl rfl Bw (Nat.le_refl 1)) rfl <| zal 16 (Ao (Cr rfl) (hd 7 rfl)) rfl <| Bi (by kernel_rfl) <| Ag <| zmv rfl (hd 31 rfl) <| Ac (B1 rfl rfl (Ap (by omega) (by omega))) (hd 32 rfl) <| zas rfl (hd 8 rfl) <| Ab ?_
      refine ⟨0, ?_, ?_, rfl, Ba 42 rfl rfl ?_⟩
      · exact Nat.zero_le _
      · exact Nat.zero_lt_succ _
      · exact (.cons rfl (.cons rfl (.v9 (.v5 (.u (.u (.u (.u .nil))))))))
    · obtain rfl : k = 0 := by omega
      refine By <| zsr <| Gz (k := .u64) (l := [x / d]) (l' := [x / d]) 6 rfl rfl (Nat.le_refl _) rfl hL <| zmv rfl (hd 48 rfl) ?_
      refine Aj Try.f48 (E9 [x / d] (by simp)) rfl Try.func48 rfl rfl (Aa rfl Ad) (.cons .n .nil) (hd 49 rfl) ?_ (fun ch hp => by simp at hp)
      rintro _ ⟨⟩; refine zmv rfl (hd 50 rfl) ?_
      refine Aj Try.f63 (Jk (x % d)) rfl Try.func63 rfl rfl (Aa rfl Ad) (.cons .i .nil) (hd 51 rfl) ?_ (fun ch hp => by simp at hp)
      rintro _ ⟨⟩; refine zas rfl (hd 4 rfl) <| zas rfl (hd 5 rfl) <| Ab <| As ?_
      refine ⟨_, _, (.cons rfl (.cons rfl .nil)), (.t1 .n (.t1 .n .t0)), ?_⟩
      exact rfl

theorem Adz (x d : Int) (hx0 : 0 ≤ x) (hx : x < 18446744073709551616) (hd0 : 0 < d) (hdm : d < 18446744073709551616) (hle : d ≤ x) : Spec Try.prog 83 [.n false .u64 [x], .n false .u64 [d]] (fun o => o = .ret (.t [.n true .u64 (trm [x / d]), .n true .u64 (if x % d = 0 then [] else [x % d]), .i .i64 0])) := by
  refine Az [(0, .n false .u64 [x]), (1, .n false .u64 [d])] rfl Try.func83 rfl (zlb rfl) fun Γ hN hds hL hR => ?_
  have hd := B5 32 hN
  have ex : trm [x] = [x] := Ad0 (by omega)
  have ed : trm [d] = [d] := Ad0 (by omega)
  have rx : Spec Try.prog 48 [.n false .u64 [x]] (fun o => o = .ret (.n true .u64 [x])) := by have h := E9 [x] (by simp); rwa [ex] at h
  have rd : Spec Try.prog 48 [.n false .u64 [d]] (fun o => o = .ret (.n true .u64 [d])) := by have h := E9 [d] (by simp); rwa [ed] at h
  have hq := H8 (v := x / d) (Int.ediv_nonneg hx0 (by omega)) (Int.lt_of_le_of_lt (Int.ediv_le_self d hx0) hx)
  have hm1 := C7 [x / d]
  have hr0 : 0 ≤ x % d := Int.emod_nonneg x (by omega)
  have hr1 : x % d < d := Int.emod_lt_of_pos x hd0
  have hL1 := Kj (trm [x / d])
  have hL2 := Kj (if x % d = 0 then [] else [x % d])
  have hrl : (if x % d = 0 then [] else [x % d] : List Int).length ≤ 1 := by split <;> simp
  have hru : A3 (if x % d = 0 then [] else [x % d]) := by
    split
    · intro y hy; cases hy
    · exact H8 hr0 (by omega)
  simp only [List.length_singleton] at hm1
  refine zsr <| zas rfl (hd 4 rfl) <| zas rfl (hd 5 rfl) <| zas rfl (hd 6 rfl) <| Ab <| zsr <| zmv rfl (hd 9 rfl) ?_
  refine Aj Try.f48 (rx) rfl Try.func48 rfl rfl (Aa rfl Ad) (.cons .n .nil) (hd 10 rfl) ?_ (fun ch hp => by simp at hp)
  rintro _ ⟨⟩; refine zmv rfl (hd 11 rfl) ?_
  refine Aj Try.f48 (rd) rfl Try.func48 rfl rfl (Aa rfl Ad) (.cons .n .nil) (hd 12 rfl) ?_ (fun ch hp => by simp at hp)
  rintro _ ⟨⟩; refine zas rfl (hd 0 rfl) <| zas rfl (hd 1 rfl) <| Ab <| Af <| zsr <| zmv rfl (hd 13 rfl) <| Ac (Av Bo rfl) (hd 14 rfl) <| Ac (Cd (Dy rfl rfl) (by simp)) (hd 15 rfl) <| Ab <| Bl rfl <| Am <| Af ?_; refine Ag <| zmv rfl (hd 17 rfl) <| zmv rfl (hd 18 rfl) ?_
  refine Aj Try.f65 (Wr x d hx0 hx hd0 hdm hle) rfl Try.func65 rfl rfl (Aa rfl (Aa rfl Ad)) (.cons .n (.cons .n .nil)) (hd 19 rfl) ?_ (fun ch hp => by simp at hp)
  rintro _ ⟨⟩; refine zmv rfl (hd 16 rfl) <| Ac (Ak rfl rfl) (hd 20 rfl) <| Ac (Ak rfl rfl) (hd 21 rfl) <| zas rfl (hd 7 rfl) <| zas rfl (hd 8 rfl) <| Ab <| Af <| zsr <| zmv rfl (hd 22 rfl) ?_
  refine Aj Try.f33 (Ed (trm [x / d]) (by omega) (Bk hq)) rfl Try.func33 rfl rfl (Aa rfl Ad) (.cons .n .nil) (hd 23 rfl) ?_ (fun ch hp => by simp at hp)
  rintro _ ⟨⟩; refine Ac (Cd (C0 rfl rfl) (by omega)) (hd 24 rfl) <| zmv rfl (hd 25 rfl) <| Bn 25 rfl rfl (A0 rfl) (hd 26 rfl) ?_
  refine Eb Try.f33 25 rfl rfl (Ed _ (by omega) hru) rfl Try.func33 rfl rfl (Aa rfl Ad) (.cons .n .nil) (hd 27 rfl) ?_ (fun ch hp => by simp at hp)
  rintro _ ⟨⟩; refine Bn 25 rfl rfl (Cd (C0 rfl rfl) (by omega)) (hd 28 rfl) <| Ac (B9 rfl rfl) (hd 29 rfl) <| Ab <| Bl rfl <| Am <| zsr <| zmv rfl (hd 30 rfl) <| zmv rfl (hd 31 rfl) <| zas rfl (hd 4 rfl) <| zas rfl (hd 5 rfl) <| zas rfl (hd 6 rfl) <| Ab ?_; refine As ?_
  refine ⟨_, _, (.cons rfl (.cons rfl (.cons rfl .nil))), (.t1 .n (.t1 .n (.t1 .i .t0))), ?_⟩
  exact rfl

theorem Hn (s : Bool) (l : List Int) (hl : l.length < 1099511627776) : Spec Try.prog 32 [.a [.b s, .n false .u64 l]] (fun o => o = .ret (.a [.b (s && decide (0 < ((trm l).length : Int))), .n true .u64 (trm l)])) := by
  refine Az [(0, .a [.b s, .n false .u64 l])] rfl Try.func32 rfl (zlb rfl) fun Γ hN hds hL hR => ?_
  have hd := B5 16 hN
  refine zsr <| Ay (Br (id := 0) (n := 2) rfl rfl rfl (by decide) rfl) (hd 1 rfl) <| Ay (An (id := 1) At (by decide) rfl (by decide) rfl) (hd 2 rfl) <| Ab <| zsr <| Ac (Bd Bp rfl rfl rfl) (hd 4 rfl) <| Ac (A8 Ce rfl rfl rfl) (hd 5 rfl) ?_
  refine Aj Try.f48 (E9 l hl) rfl Try.func48 rfl rfl (Aa rfl Ad) (.cons .n .nil) (hd 6 rfl) ?_ (fun ch hp => by simp at hp)
  rintro _ ⟨⟩; refine zas rfl (hd 3 rfl) <| Ab <| zsr <| Ac (Bd Cf rfl rfl rfl) (hd 7 rfl) <| Ac (A8 C5 rfl rfl rfl) (hd 8 rfl) <| zmv rfl (hd 9 rfl) ?_
  refine Io 9 rfl (fun h1 => ?_) (fun h1 => ?_)
  · refine Bn 9 rfl rfl (A0 rfl) (hd 10 rfl) <| Bn 9 rfl rfl (Av Bo rfl) (hd 11 rfl) <| Bn 9 rfl rfl (C0 rfl rfl) (hd 12 rfl) <| Ac (Cg rfl rfl) (hd 13 rfl) <| zmv rfl (hd 14 rfl) <| Ac (B3 (is := [0, 1]) (xs := [.tmp 13, .tmp 14]) At Dx rfl (Aa rfl (Aa rfl Ad)) rfl (by first | (simp [Ck, cellsV]; done) | (simp [Ck, cellsV, old]; done)) (Cj rfl) rfl) (hd 15 rfl) <| A1 (Ae rfl rfl rfl Au rfl rfl (zlb rfl)) <| Ab <| As ?_
    refine ⟨_, _, (.cons (ResV.cell Aq rfl rfl rfl rfl) .nil), (.a1 .b (.a1 .n .a0)), ?_⟩
    simp_all
  · refine B6 9 rfl rfl rfl (hd 10 rfl) <| B6 9 rfl rfl rfl (hd 11 rfl) <| B6 9 rfl rfl rfl (hd 12 rfl) <| Ac (B9 rfl rfl) (hd 13 rfl) <| zmv rfl (hd 14 rfl) <| Ac (B3 (is := [0, 1]) (xs := [.tmp 13, .tmp 14]) At Dx rfl (Aa rfl (Aa rfl Ad)) rfl (by first | (simp [Ck, cellsV]; done) | (simp [Ck, cellsV, old]; done)) (Cj rfl) rfl) (hd 15 rfl) <| A1 (Ae rfl rfl rfl Au rfl rfl (zlb rfl)) <| Ab <| As ?_
    refine ⟨_, _, (.cons (ResV.cell Aq rfl rfl rfl rfl) .nil), (.a1 .b (.a1 .n .a0)), ?_⟩
    simp_all

theorem Aac (s : Bool) (l : List Int) (hl : l.length < 1099511627776) (hu : A3 l) (h : Dp l ≤ 67108864) : Spec Try.prog 90 [.a [.b s, .n false .u64 l]] (fun o => o = .ret (.t [.a [.b (s && decide (0 < ((trm l).length : Int))), .n true .u64 (trm l)], .i .i64 0])) := by
  refine Az [(0, .a [.b s, .n false .u64 l])] rfl Try.func90 rfl (zlb rfl) fun Γ hN hds hL hR => ?_
  have hd := B5 11 hN
  refine zsr <| Ay (Br (id := 0) (n := 2) rfl rfl rfl (by decide) rfl) (hd 1 rfl) <| Ay (An (id := 1) At (by decide) rfl (by decide) rfl) (hd 2 rfl) <| zas rfl (hd 3 rfl) <| Ab <| Af <| zsr <| Ac (Bd Bp rfl rfl rfl) (hd 4 rfl) <| Ac (A8 Ce rfl rfl rfl) (hd 5 rfl) ?_
  refine Aj Try.f33 (Ed l hl hu) rfl Try.func33 rfl rfl (Aa rfl Ad) (.cons .n .nil) (hd 6 rfl) ?_ (fun ch hp => by simp at hp)
  rintro _ ⟨⟩; refine Ac (Cd (C0 rfl rfl) (by omega)) (hd 7 rfl) <| Ab <| Bl rfl <| Am <| zsr <| Ac (Ah Aq rfl rfl rfl rfl) (hd 9 rfl) ?_
  refine Aj Try.f32 (Hn s l hl) rfl Try.func32 rfl rfl (Aa rfl Ad) (.cons (.a1 .b (.a1 .n .a0)) .nil) (hd 10 rfl) ?_ (fun ch hp => by simp at hp)
  rintro _ ⟨⟩; refine A1 (Ae rfl rfl rfl Au rfl rfl (zlb rfl)) <| zas rfl (hd 3 rfl) <| Ab <| As ?_
  refine ⟨_, _, (.cons (ResV.cell Aq rfl rfl rfl rfl) (.cons rfl .nil)), (.t1 (.a1 .b (.a1 .n .a0)) (.t1 .i .t0)), ?_⟩
  exact rfl

theorem Kf (s : Bool) (l : List Int) (hl : l.length < 1099511627776) (hu : A3 l) (h : Dp l ≤ 67108864) : Spec Try.prog 68 [.b s, .n false .u64 l, .i .i64 0] (fun o => o = .ret (.t [.a [.b (s && decide (0 < ((trm l).length : Int))), .n true .u64 (trm l)], .i .i64 0])) := by
  refine Az [(0, .b s), (1, .n false .u64 l), (2, .i .i64 0)] rfl Try.func68 rfl (zlb rfl) fun Γ hN hds hL hR => ?_
  have hd := B5 18 hN
  refine zsr <| Ay (An (id := 0) At (by decide) rfl (by decide) rfl) (hd 6 rfl) <| zas rfl (hd 7 rfl) <| Ab <| Af <| zsr <| zmv rfl (hd 8 rfl) <| Ac (Cd (Cm rfl rfl) (by simp)) (hd 9 rfl) <| Ab <| Bl rfl <| Am ?_; refine zsr <| zmv rfl (hd 12 rfl) <| zmv rfl (hd 13 rfl) <| Ac (B3 (is := [0, 1]) (xs := [.tmp 12, .tmp 13]) At Dx rfl (Aa rfl (Aa rfl Ad)) rfl (by first | (simp [Ck, cellsV]; done) | (simp [Ck, cellsV, old]; done)) (Cj rfl) rfl) (hd 14 rfl) ?_
  refine Aj Try.f90 (Aac s l hl hu h) rfl Try.func90 rfl rfl (Aa rfl Ad) (.cons (.a1 .b (.a1 .n .a0)) .nil) (hd 15 rfl) ?_ (fun ch hp => by simp at hp)
  rintro _ ⟨⟩; refine Ac (Ak rfl rfl) (hd 16 rfl) <| Ac (Ak rfl rfl) (hd 17 rfl) <| A1 (Ae rfl rfl rfl Au rfl rfl (zlb rfl)) <| zas rfl (hd 7 rfl) <| Ab <| As ?_
  refine ⟨_, _, (.cons (ResV.cell Aq rfl rfl rfl rfl) (.cons rfl .nil)), (.t1 (.a1 .b (.a1 .n .a0)) (.t1 .i .t0)), ?_⟩
  exact rfl

theorem Yg (v : Int) (h0 : v < 0) (h1 : -9223372036854775808 ≤ v) : Spec Try.prog 35 [.i .i64 v] (fun o => o = .ret (.a [.b true, .n true .u64 [-v]])) := by
  refine Az [(0, .i .i64 v)] rfl Try.func35 rfl (zlb rfl) fun Γ hN hds hL hR => ?_
  have hd := B5 14 hN
  have rF : Spec Try.prog 63 [.i .u64 (-v)] (fun o => o = .ret (.n true .u64 [-v])) := by have h := Jk (-v); rwa [if_neg (by omega)] at h
  refine zsr <| Ay (An (id := 0) At (by decide) rfl (by decide) rfl) (hd 2 rfl) <| Ab <| Af <| zsr <| zmv rfl (hd 3 rfl) <| Ac (Ft (Ch rfl rfl) (by omega)) (hd 4 rfl) <| Ab <| Dm rfl <| Af <| Ag ?_; refine zmv rfl (hd 5 rfl) <| Ac (D1 Mt H7 rfl (r := v + 18446744073709551616) (H4 (by omega) (by omega) (by omega))) (hd 6 rfl) <| Ac (S8 rfl (r := -v) (H4 (by omega) (by omega) (by omega))) (hd 7 rfl) ?_
  refine Aj Try.f63 (rF) rfl Try.func63 rfl rfl (Aa rfl Ad) (.cons .i .nil) (hd 8 rfl) ?_ (fun ch hp => by simp at hp)
  rintro _ ⟨⟩; refine Ac (B3 (is := [0, 1]) (xs := [.const (.bool true), .tmp 8]) At Dx rfl (Aa rfl (Aa rfl Ad)) rfl (by first | (simp [Ck, cellsV]; done) | (simp [Ck, cellsV, old]; done)) (Cj rfl) rfl) (hd 9 rfl) <| A1 (Ae rfl rfl rfl Au rfl rfl (zlb rfl)) <| Ab <| As ?_
  refine ⟨_, _, (.cons (ResV.cell Aq rfl rfl rfl rfl) .nil), (.a1 .b (.a1 .n .a0)), ?_⟩
  exact rfl

theorem Yf (v : Int) (h0 : 0 < v) (h1 : v < 9223372036854775808) : Spec Try.prog 35 [.i .i64 v] (fun o => o = .ret (.a [.b false, .n true .u64 [v]])) := by
  refine Az [(0, .i .i64 v)] rfl Try.func35 rfl (zlb rfl) fun Γ hN hds hL hR => ?_
  have hd := B5 14 hN
  have rF : Spec Try.prog 63 [.i .u64 v] (fun o => o = .ret (.n true .u64 [v])) := by have h := Jk v; rwa [if_neg (by omega)] at h
  refine zsr <| Ay (An (id := 0) At (by decide) rfl (by decide) rfl) (hd 2 rfl) <| Ab <| Af <| zsr <| zmv rfl (hd 3 rfl) <| Ac (Cd (Ch rfl rfl) (by omega)) (hd 4 rfl) <| Ab <| Bl rfl <| Am <| Af ?_; refine Ag <| zmv rfl (hd 10 rfl) <| Ac (D1 Mt H7 rfl (Bh (by omega) (by omega))) (hd 11 rfl) ?_
  refine Aj Try.f63 (rF) rfl Try.func63 rfl rfl (Aa rfl Ad) (.cons .i .nil) (hd 12 rfl) ?_ (fun ch hp => by simp at hp)
  rintro _ ⟨⟩; refine Ac (B3 (is := [1]) (xs := [.tmp 12]) At F1 rfl (Aa rfl Ad) rfl (by first | (simp [Ck, cellsV]; done) | (simp [Ck, cellsV, old]; done)) (Cj rfl) rfl) (hd 13 rfl) <| A1 (Ae rfl rfl rfl Au rfl rfl (zlb rfl)) <| Ab <| As ?_
  refine ⟨_, _, (.cons (ResV.cell Aq rfl rfl rfl rfl) .nil), (.a1 .b (.a1 .n .a0)), ?_⟩
  exact rfl

theorem Zs (n : Int) : Spec Try.prog 44 [.i .i64 n] (fun o => o = .ret (.i .i64 n)) := by
  refine Az [(0, .i .i64 n)] rfl Try.func44 rfl (zlb rfl) fun Γ hN hds hL hR => ?_
  have hd := B5 4 hN
  refine zsr <| zas rfl (hd 2 rfl) <| Ab <| zsr <| zmv rfl (hd 3 rfl) <| zas rfl (hd 2 rfl) <| Ab <| As ?_
  refine ⟨_, _, (.cons rfl .nil), .i, ?_⟩
  exact rfl

theorem Ac6 (q r b : List Int) (s t u : Bool) : Spec Try.prog 96 [.n false .u64 q, .n false .u64 r, .n false .u64 b, .b s, .b t, .b u] (fun o => o = .ret (.b s)) := by
  refine Az [(0, .n false .u64 q), (1, .n false .u64 r), (2, .n false .u64 b), (3, .b s), (4, .b t), (5, .b u)] rfl Try.func96 rfl (zlb rfl) fun Γ hN hds hL hR => ?_
  have hd := B5 14 hN
  refine zsr <| zas rfl (hd 12 rfl) <| Ab <| zsr <| zmv rfl (hd 13 rfl) <| zas rfl (hd 12 rfl) <| Ab <| As ?_
  refine ⟨_, _, (.cons rfl .nil), .b, ?_⟩
  exact rfl

set_option maxRecDepth 100000 in
theorem O6  : Spec Try.prog 84 [] (fun o => o = .ret (.a [.f 95 [], .f 96 [], .f 97 [], .f 98 [], .f 100 []])) := by
  refine Az [] rfl Try.func84 rfl (zlb rfl) fun Γ hN hds hL hR => ?_
  have hd := B5 2 hN
  refine zsr <| Ay (An (id := 0) Yn (by decide) rfl (by decide) rfl) (hd 0 rfl) <| Ab <| zsr <| Ac (V8 (v := .agg #[.func (.func 95) #[] #[], .func (.func 96) #[] #[], .func (.func 97) #[] #[], .func (.func 98) #[] #[], .func (.func 100) #[] #[]]) (y := .a [.f 95 [], .f 96 [], .f 97 [], .f 98 [], .f 100 []]) (fun _ _ _ _ => ⟨[.func (.func 95) #[] #[], .func (.func 96) #[] #[], .func (.func 97) #[] #[], .func (.func 98) #[] #[], .func (.func 100) #[] #[]], rfl, _, _, rfl, ⟨[], rfl, rfl⟩, _, _, rfl, ⟨[], rfl, rfl⟩, _, _, rfl, ⟨[], rfl, rfl⟩, _, _, rfl, ⟨[], rfl, rfl⟩, _, _, rfl, ⟨[], rfl, rfl⟩, rfl⟩) (by intro a dst type pos after g w2; kernel_rfl)) (hd 1 rfl) <| A1 (Ae rfl rfl rfl Abo rfl rfl (zlb rfl)) <| Ab <| As ?_
  refine ⟨_, _, (.cons (ResV.cell Adm rfl rfl rfl rfl) .nil), (.a1 .f (.a1 .f (.a1 .f (.a1 .f (.a1 .f .a0))))), ?_⟩
  exact rfl

theorem Uh  : Spec Try.prog 66 [.a [.b true, .n false .u64 [7]], .a [.b false, .n false .u64 [2]], .i .i64 1] (fun o => o = .ret (.t [.a [.b true, .n true .u64 [4]], .a [.b false, .n true .u64 [1]], .i .i64 0])) := by
  refine Az [(0, .a [.b true, .n false .u64 [7]]), (1, .a [.b false, .n false .u64 [2]]), (2, .i .i64 1)] rfl Try.func66 rfl (zlb rfl) fun Γ hN hds hL hR => ?_
  have hd := B5 103 hN
  have rA : Spec Try.prog 32 [.a [.b true, .n false .u64 [7]]] (fun o => o = .ret (.a [.b true, .n true .u64 [7]])) := Hn true [7] (by decide)
  have rB : Spec Try.prog 32 [.a [.b false, .n false .u64 [2]]] (fun o => o = .ret (.a [.b false, .n true .u64 [2]])) := Hn false [2] (by decide)
  have rD : Spec Try.prog 83 [.n false .u64 [7], .n false .u64 [2]] (fun o => o = .ret (.t [.n true .u64 [3], .n true .u64 [1], .i .i64 0])) := Adz 7 2 (by decide) (by decide) (by decide) (by decide) (by decide)
  have rL : Spec Try.prog 33 [.n false .u64 [1]] (fun o => o = .ret (.i .i64 1)) := by have h := Ed [1] (by decide) (H8 (v := 1) (by decide) (by decide)); rw [show Dp [1] = 1 by decide] at h; exact h
  have rF1 : Spec Try.prog 63 [.i .u64 1] (fun o => o = .ret (.n true .u64 [1])) := Jk 1
  have rS : Spec Try.prog 85 [.n false .u64 [3], .n false .u64 [1]] (fun o => o = .ret (.t [.n false .u64 [4], .i .i64 0])) := by have h := Vg [3] [1] (by decide) (by decide) (H8 (v := 3) (by decide) (by decide)) (H8 (v := 1) (by decide) (by decide)) (by decide); rw [show trm (Lu [3] [1]) = [4] by decide] at h; exact h
  have rM : Spec Try.prog 86 [.n false .u64 [2], .n false .u64 [1]] (fun o => o = .ret (.t [.n false .u64 [1], .i .i64 0])) := by have h := U5 [2] [1] (by decide) (by decide) (H8 (v := 2) (by decide) (by decide)) (H8 (v := 1) (by decide) (by decide)) (by decide) (by decide); rw [show trm (Nu [2] [1]) = [1] by decide] at h; exact h
  have rR4 : Spec Try.prog 68 [.b true, .n false .u64 [4], .i .i64 0] (fun o => o = .ret (.t [.a [.b true, .n true .u64 [4]], .i .i64 0])) := Kf true [4] (by decide) (H8 (v := 4) (by decide) (by decide)) (by decide)
  have rR1 : Spec Try.prog 68 [.b false, .n false .u64 [1], .i .i64 0] (fun o => o = .ret (.t [.a [.b false, .n true .u64 [1]], .i .i64 0])) := Kf false [1] (by decide) (H8 (v := 1) (by decide) (by decide)) (by decide)
  refine zsr <| Ay (Br (id := 0) (n := 2) rfl rfl rfl (by decide) rfl) (hd 3 rfl) <| Ay (Br (id := 1) (n := 2) rfl rfl rfl (by decide) rfl) (hd 4 rfl) <| Ay (An (id := 2) At (by decide) rfl (by decide) rfl) (hd 6 rfl) <| Ay (An (id := 3) At (by decide) rfl (by decide) rfl) (hd 7 rfl) <| zas rfl (hd 8 rfl) <| Ab <| Af <| Be (n := 6) _ rfl B2 <| Ax 0 [1, 3, 4, 5] (Ao (Ah Aq rfl rfl rfl rfl) (hd 16 rfl)) rfl <| Ax 2 [3, 4, 5] (Ao (Ah Aq rfl rfl rfl rfl) (hd 18 rfl)) rfl ?_
  refine Bb 1 ?_ rfl (by kernel_rfl)
  refine A4 Try.f32 (rA) rfl Try.func32 rfl rfl (Aa rfl Ad) (.cons (.a1 .b (.a1 .n .a0)) .nil) (hd 17 rfl) ?_ (fun ch hp => by simp at hp)
  rintro y hy; injection hy with hy; subst hy
  refine Bb 3 ?_ rfl (by kernel_rfl)
  refine A4 Try.f32 (rB) rfl Try.func32 rfl rfl (Aa rfl Ad) (.cons (.a1 .b (.a1 .n .a0)) .nil) (hd 19 rfl) ?_ (fun ch hp => by simp at hp)
  rintro y hy; injection hy with hy; subst hy
  refine Bb 4 ?_ rfl (by kernel_rfl)
  refine A7 (Ae rfl rfl rfl Au rfl rfl (zlb rfl)) rfl ?_
  refine Bb 5 ?_ rfl (by kernel_rfl)
  refine A7 (Ae rfl rfl rfl Au rfl rfl (zlb rfl)) rfl <| Bi (by kernel_rfl) <| zsr <| Ac (Bd Bp rfl rfl rfl) (hd 21 rfl) <| Ac (A8 Ce rfl rfl rfl) (hd 22 rfl) <| Ac (Bd Bp rfl rfl rfl) (hd 23 rfl) <| Ac (A8 Ce rfl rfl rfl) (hd 24 rfl) ?_
  refine Aj Try.f83 (rD) rfl Try.func83 rfl rfl (Aa rfl (Aa rfl Ad)) (.cons .n (.cons .n .nil)) (hd 25 rfl) ?_ (fun ch hp => by simp at hp)
  rintro _ ⟨⟩; refine zmv rfl (hd 20 rfl) <| Ac (Ak rfl rfl) (hd 26 rfl) <| Ac (Ak rfl rfl) (hd 27 rfl) <| Ac (Ak rfl rfl) (hd 28 rfl) <| zas rfl (hd 9 rfl) <| zas rfl (hd 10 rfl) <| zas rfl (hd 11 rfl) <| Ab <| Af <| zsr <| zmv rfl (hd 29 rfl) <| Ac (Cd (Cm rfl rfl) (by simp)) (hd 30 rfl) ?_; refine Ab <| Bl rfl <| Am <| Af <| Be (n := 9) _ rfl B2 <| Ax 0 [1, 4, 7, 8] (Ao (Bd Cf rfl rfl rfl) (hd 34 rfl)) rfl <| zal 1 (Ao (A8 C5 rfl rfl rfl) (hd 35 rfl)) rfl <| Ax 2 [3, 4, 7, 8] (Ao (Bd Cf rfl rfl rfl) (hd 36 rfl)) rfl <| zal 3 (Ao (A8 C5 rfl rfl rfl) (hd 37 rfl)) rfl <| zal 4 (Ao (B0 (Im Qo rfl rfl) (show V.b (!(true == false)) = V.b true from rfl)) (hd 38 rfl)) rfl <| zal 5 (Ao (Bd Cf rfl rfl rfl) (hd 39 rfl)) rfl <| zal 6 (Ao (A8 C5 rfl rfl rfl) (hd 40 rfl)) rfl <| zal 7 (Ao (Cr rfl) (hd 12 rfl)) rfl ?_; refine zal 8 (Ao (Cr rfl) (hd 13 rfl)) rfl <| Bi (by kernel_rfl) <| Af <| Af <| Be (n := 18) _ rfl B2 <| Ax 0 [1, 2, 3, 4, 5, 6, 7, 8, 9, 10, 11, 12, 13, 14, 15, 16, 17] (Ao (A0 rfl) (hd 41 rfl)) rfl ?_
  refine Bb 1 ?_ rfl (by kernel_rfl)
  refine A4 Try.f33 (rL) rfl Try.func33 rfl rfl (Aa rfl Ad) (.cons .n .nil) (hd 42 rfl) ?_ (fun ch hp => by simp at hp)
  rintro _ ⟨⟩; refine Ax 2 [3, 4, 5, 6, 7, 8, 9, 10, 11, 12, 13, 14, 15, 16, 17] (Ao (Ft (C0 rfl rfl) (by decide)) (hd 43 rfl)) rfl <| zal 3 (Ao (A0 rfl) (hd 44 rfl)) rfl <| Ax 5 [6, 16, 17] (De 44 rfl rfl (A0 rfl) (hd 46 rfl)) rfl <| Ax 7 [16, 17] (De 44 rfl rfl (A0 rfl) (hd 48 rfl)) rfl <| Ax 8 [16, 17] (De 44 rfl rfl (A0 rfl) (hd 49 rfl)) rfl <| Ax 9 [10, 16, 17] (De 44 rfl rfl (Bd Bp rfl rfl rfl) (hd 50 rfl)) rfl <| Ax 10 [16, 17] (De 44 rfl rfl (A8 Ce rfl rfl rfl) (hd 51 rfl)) rfl <| Ax 11 [16, 17] (De 44 rfl rfl (A0 rfl) (hd 52 rfl)) rfl <| Ax 12 [13, 16, 17] (De 44 rfl rfl (Bd Cf rfl rfl rfl) (hd 53 rfl)) rfl <| Ax 13 [16, 17] (De 44 rfl rfl (A8 C5 rfl rfl rfl) (hd 54 rfl)) rfl <| Ax 14 [15, 16, 17] (De 44 rfl rfl (Bd Cf rfl rfl rfl) (hd 55 rfl)) rfl <| Ax 15 [16, 17] (De 44 rfl rfl (A8 C5 rfl rfl rfl) (hd 56 rfl)) rfl ?_
  refine Bb 4 ?_ rfl (by kernel_rfl)
  refine Ej Try.f84 44 rfl rfl (O6) rfl Try.func84 rfl rfl Ad .nil (hd 45 rfl) ?_ (fun ch hp => by simp at hp)
  rintro _ ⟨⟩; refine Ax 6 [16, 17] (De 44 rfl rfl (Ps (i := 1) Lq Pq rfl rfl rfl (by decide) rfl) (hd 47 rfl)) rfl ?_
  refine Bb 16 ?_ rfl (by kernel_rfl)
  refine Ej Try.f96 44 rfl rfl (Ac6 [3] [1] [2] true false true) rfl Try.func96 rfl rfl (Aa rfl (Aa rfl (Aa rfl (Aa rfl (Aa rfl (Aa rfl Ad)))))) (.cons .n (.cons .n (.cons .n (.cons .b (.cons .b (.cons .b .nil)))))) (hd 57 rfl) ?_ (fun ch hp => by simp at hp)
  rintro _ ⟨⟩; refine zal 17 (Ao (Cg rfl rfl) (hd 58 rfl)) rfl <| Bi (by kernel_rfl) <| Dm rfl <| Af <| zsr <| zmv rfl (hd 60 rfl) ?_
  refine Aj Try.f63 (rF1) rfl Try.func63 rfl rfl (Aa rfl Ad) (.cons .i .nil) (hd 61 rfl) ?_ (fun ch hp => by simp at hp)
  rintro y hy; injection hy with hy; subst hy
  refine Aj Try.f85 (rS) rfl Try.func85 rfl rfl (Aa rfl (Aa rfl Ad)) (.cons .n (.cons .n .nil)) (hd 62 rfl) ?_ (fun ch hp => by simp at hp)
  rintro _ ⟨⟩; refine zmv rfl (hd 59 rfl) <| Ac (Ak rfl rfl) (hd 63 rfl) <| Ac (Ak rfl rfl) (hd 64 rfl) <| zas rfl (hd 9 rfl) <| zas rfl (hd 11 rfl) <| Ab <| zsr <| zmv rfl (hd 65 rfl) <| Ac (Cd (Cm rfl rfl) (by simp)) (hd 66 rfl) <| Ab <| Bl rfl <| Am ?_; refine zsr <| Ac (Bd Bp rfl rfl rfl) (hd 71 rfl) <| Ac (A8 Ce rfl rfl rfl) (hd 72 rfl) <| zmv rfl (hd 73 rfl) ?_
  refine Aj Try.f86 (rM) rfl Try.func86 rfl rfl (Aa rfl (Aa rfl Ad)) (.cons .n (.cons .n .nil)) (hd 74 rfl) ?_ (fun ch hp => by simp at hp)
  rintro _ ⟨⟩; refine zmv rfl (hd 70 rfl) <| Ac (Ak rfl rfl) (hd 75 rfl) <| Ac (Ak rfl rfl) (hd 76 rfl) <| zas rfl (hd 10 rfl) <| Ab <| Ag <| zmv rfl (hd 77 rfl) <| Ac (Fn rfl) (hd 78 rfl) <| zas rfl (hd 13 rfl) <| Ab <| zsr <| zmv rfl (hd 80 rfl) ?_; refine zmv rfl (hd 81 rfl) ?_
  refine Aj Try.f68 (rR4) rfl Try.func68 rfl rfl (Aa rfl (Aa rfl (Aa rfl Ad))) (.cons .b (.cons .n (.cons .i .nil))) (hd 82 rfl) ?_ (fun ch hp => by simp at hp)
  rintro _ ⟨⟩; refine zmv rfl (hd 79 rfl) <| Ac (Ak rfl rfl) (hd 83 rfl) <| Ac (Ak rfl rfl) (hd 84 rfl) <| Ay (An (id := 4) At (by decide) rfl (by decide) rfl) (hd 14 rfl) <| A1 (Ae rfl rfl rfl Au rfl rfl (zlb rfl)) <| zas rfl (hd 11 rfl) <| Ab <| Af <| zsr <| zmv rfl (hd 85 rfl) <| Ac (Cd (Cm rfl rfl) (by simp)) (hd 86 rfl) <| Ab ?_; refine Bl rfl <| Am <| zsr <| zmv rfl (hd 91 rfl) <| zmv rfl (hd 92 rfl) ?_
  refine Aj Try.f68 (rR1) rfl Try.func68 rfl rfl (Aa rfl (Aa rfl (Aa rfl Ad))) (.cons .b (.cons .n (.cons .i .nil))) (hd 93 rfl) ?_ (fun ch hp => by simp at hp)
  rintro _ ⟨⟩; refine zmv rfl (hd 90 rfl) <| Ac (Ak rfl rfl) (hd 94 rfl) <| Ac (Ak rfl rfl) (hd 95 rfl) <| Ay (An (id := 5) At (by decide) rfl (by decide) rfl) (hd 15 rfl) <| A1 (Ae rfl rfl rfl Au rfl rfl (zlb rfl)) <| zas rfl (hd 11 rfl) <| Ab <| Af <| zsr <| zmv rfl (hd 96 rfl) <| Ac (Cd (Cm rfl rfl) (by simp)) (hd 97 rfl) <| Ab ?_; refine Bl rfl <| Am <| Af <| Be (n := 5) _ rfl B2 <| zal 0 (Ao (Ah Aq rfl rfl rfl rfl) (hd 101 rfl)) rfl ?_
  refine Ct 1 2 ?_ ?_ rfl rfl (by kernel_rfl)
  · refine C4 (Ah Aq rfl rfl rfl rfl) (hd 102 rfl) ?_
    refine Bb 2 ?_ rfl (by kernel_rfl)
    refine A7 (Ae rfl rfl rfl Au rfl rfl (zlb rfl)) rfl ?_
    refine Bb 3 ?_ rfl (by kernel_rfl)
    refine A7 (Ae rfl rfl rfl Au rfl rfl (zlb rfl)) rfl <| zal 4 (Ao (Cr rfl) (hd 8 rfl)) rfl <| Bi (by kernel_rfl) <| As ?_
    refine ⟨_, _, (.cons (ResV.cell Aq rfl rfl rfl rfl) (.cons (ResV.cell Aq rfl rfl rfl rfl) (.cons rfl .nil))), (.t1 (.a1 .b (.a1 .n .a0)) (.t1 (.a1 .b (.a1 .n .a0)) (.t1 .i .t0))), ?_⟩
    exact rfl
  · refine A7 (Ae rfl rfl rfl Au rfl rfl (zlb rfl)) rfl <| zal 1 (Ao (Ah Aq rfl rfl rfl rfl) (hd 102 rfl)) rfl ?_
    refine Bb 3 ?_ rfl (by kernel_rfl)
    refine A7 (Ae rfl rfl rfl Au rfl rfl (zlb rfl)) rfl <| zal 4 (Ao (Cr rfl) (hd 8 rfl)) rfl <| Bi (by kernel_rfl) <| As ?_
    refine ⟨_, _, (.cons (ResV.cell Aq rfl rfl rfl rfl) (.cons (ResV.cell Aq rfl rfl rfl rfl) (.cons rfl .nil))), (.t1 (.a1 .b (.a1 .n .a0)) (.t1 (.a1 .b (.a1 .n .a0)) (.t1 .i .t0))), ?_⟩
    exact rfl

theorem W0  : Spec Try.prog 50 [.a [.b true, .n false .u64 [7]], .a [.b false, .n false .u64 [2]]] (fun o => o = .ret (.t [.a [.b true, .n true .u64 [4]], .a [.b false, .n true .u64 [1]], .i .i64 0])) := by
  refine Az [(0, .a [.b true, .n false .u64 [7]]), (1, .a [.b false, .n false .u64 [2]])] rfl Try.func50 rfl (zlb rfl) fun Γ hN hds hL hR => ?_
  have hd := B5 13 hN
  refine zsr <| Ay (Br (id := 0) (n := 2) rfl rfl rfl (by decide) rfl) (hd 2 rfl) <| Ay (Br (id := 1) (n := 2) rfl rfl rfl (by decide) rfl) (hd 3 rfl) <| Ay (An (id := 2) At (by decide) rfl (by decide) rfl) (hd 4 rfl) <| Ay (An (id := 3) At (by decide) rfl (by decide) rfl) (hd 5 rfl) <| zas rfl (hd 6 rfl) <| Ab <| zsr <| Ac (Ah Aq rfl rfl rfl rfl) (hd 7 rfl) <| Ac (Ah Aq rfl rfl rfl rfl) (hd 8 rfl) ?_
  refine Aj Try.f66 (Uh) rfl Try.func66 rfl rfl (Aa rfl (Aa rfl (Aa rfl Ad))) (.cons (.a1 .b (.a1 .n .a0)) (.cons (.a1 .b (.a1 .n .a0)) (.cons .i .nil))) (hd 9 rfl) ?_ (fun ch hp => by simp at hp)
  rintro _ ⟨⟩; refine Ac (Ak rfl rfl) (hd 10 rfl) <| Ac (Ak rfl rfl) (hd 11 rfl) <| Ac (Ak rfl rfl) (hd 12 rfl) <| A1 (Ae rfl rfl rfl Au rfl rfl (zlb rfl)) <| A1 (Ae rfl rfl rfl Au rfl rfl (zlb rfl)) <| zas rfl (hd 6 rfl) <| Ab <| As ?_
  refine ⟨_, _, (.cons (ResV.cell Aq rfl rfl rfl rfl) (.cons (ResV.cell Aq rfl rfl rfl rfl) (.cons rfl .nil))), (.t1 (.a1 .b (.a1 .n .a0)) (.t1 (.a1 .b (.a1 .n .a0)) (.t1 .i .t0))), ?_⟩
  exact rfl

theorem Aaq  : Spec Try.prog 17 [] (fun o => o = .ret (.b true)) := by
  refine Az [] rfl Try.func17 rfl (zlb rfl) fun Γ hN hds hL hR => ?_
  have hd := B5 30 hN
  have r7 : Spec Try.prog 35 [.i .i64 (-7)] (fun o => o = .ret (.a [.b true, .n true .u64 [7]])) := Yg (-7) (by decide) (by decide)
  have r2 : Spec Try.prog 35 [.i .i64 2] (fun o => o = .ret (.a [.b false, .n true .u64 [2]])) := Yf 2 (by decide) (by decide)
  have rI4 : Spec Try.prog 28 [.i .i64 (-4)] (fun o => o = .ret (.a [.b true, .n false .u64 [4]])) := Vb (-4) (by decide) (by decide)
  have rI1 : Spec Try.prog 28 [.i .i64 1] (fun o => o = .ret (.a [.b false, .n false .u64 [1]])) := Va 1 (by decide) (by decide)
  have rZ4 : Spec Try.prog 45 [.a [.b true, .n false .u64 [4]], .b true, .n false .u64 [4]] (fun o => o = .ret (.b true)) := Aas true [4] (by decide)
  have rZ1 : Spec Try.prog 45 [.a [.b false, .n false .u64 [1]], .b false, .n false .u64 [1]] (fun o => o = .ret (.b true)) := Aas false [1] (by decide)
  refine zsr <| zas rfl (hd 0 rfl) <| Ab <| Af <| Ag ?_
  refine Aj Try.f35 (r7) rfl Try.func35 rfl rfl (Aa rfl Ad) (.cons .i .nil) (hd 5 rfl) ?_ (fun ch hp => by simp at hp)
  rintro y hy; injection hy with hy; subst hy
  refine Aj Try.f35 (r2) rfl Try.func35 rfl rfl (Aa rfl Ad) (.cons .i .nil) (hd 6 rfl) ?_ (fun ch hp => by simp at hp)
  rintro y hy; injection hy with hy; subst hy
  refine Aj Try.f50 (W0) rfl Try.func50 rfl rfl (Aa rfl (Aa rfl Ad)) (.cons (.a1 .b (.a1 .n .a0)) (.cons (.a1 .b (.a1 .n .a0)) .nil)) (hd 7 rfl) ?_ (fun ch hp => by simp at hp)
  rintro _ ⟨⟩; refine zmv rfl (hd 4 rfl) <| Ac (Ak rfl rfl) (hd 8 rfl) <| Ac (Ak rfl rfl) (hd 9 rfl) <| Ac (Ak rfl rfl) (hd 10 rfl) <| Ay (An (id := 0) At (by decide) rfl (by decide) rfl) (hd 1 rfl) <| Ay (An (id := 1) At (by decide) rfl (by decide) rfl) (hd 2 rfl) <| A1 (Ae rfl rfl rfl Au rfl rfl (zlb rfl)) <| A1 (Ae rfl rfl rfl Au rfl rfl (zlb rfl)) <| zas rfl (hd 3 rfl) <| Ab <| Af <| Be (n := 20) _ rfl B2 <| Ax 0 [1, 2, 3, 4, 5, 6, 7, 8, 9, 10, 11, 12, 13, 14, 15, 16, 17, 18, 19] (Ao (A0 rfl) (hd 11 rfl)) rfl ?_
  refine Bb 1 ?_ rfl (by kernel_rfl)
  refine A4 Try.f44 (Zs 0) rfl Try.func44 rfl rfl (Aa rfl Ad) (.cons .i .nil) (hd 12 rfl) ?_ (fun ch hp => by simp at hp)
  rintro _ ⟨⟩; refine Ax 2 [3, 4, 5, 6, 7, 8, 9, 10, 11, 12, 13, 14, 15, 16, 17, 18, 19] (Ao (Ft (Dy rfl rfl) rfl) (hd 13 rfl)) rfl <| Ax 3 [4, 5, 6, 7, 8, 9, 10, 11, 12, 13, 14, 15, 16, 17, 18, 19] (Ao (A0 rfl) (hd 14 rfl)) rfl <| Ax 5 [6, 9, 10, 11, 12, 13, 14, 15, 16, 17, 18, 19] (De 14 rfl rfl (Bd Cf rfl rfl rfl) (hd 16 rfl)) rfl <| Ax 6 [9, 10, 11, 12, 13, 14, 15, 16, 17, 18, 19] (De 14 rfl rfl (A8 C5 rfl rfl rfl) (hd 17 rfl)) rfl <| Ax 7 [8, 9, 10, 11, 12, 13, 14, 15, 16, 17, 18, 19] (De 14 rfl rfl (Bd Bp rfl rfl rfl) (hd 18 rfl)) rfl <| Ax 8 [9, 10, 11, 12, 13, 14, 15, 16, 17, 18, 19] (De 14 rfl rfl (A8 Ce rfl rfl rfl) (hd 19 rfl)) rfl ?_
  refine Bb 4 ?_ rfl (by kernel_rfl)
  refine Ej Try.f28 14 rfl rfl (rI4) rfl Try.func28 rfl rfl (Aa rfl Ad) (.cons .i .nil) (hd 15 rfl) ?_ (fun ch hp => by simp at hp)
  rintro y hy; injection hy with hy; subst hy
  refine Bb 9 ?_ rfl (by kernel_rfl)
  refine Ej Try.f45 14 rfl rfl (rZ4) rfl Try.func45 rfl rfl (Aa rfl (Aa rfl (Aa rfl Ad))) (.cons (.a1 .b (.a1 .n .a0)) (.cons .b (.cons .n .nil))) (hd 20 rfl) ?_ (fun ch hp => by simp at hp)
  rintro _ ⟨⟩; refine Ax 10 [11, 12, 13, 14, 15, 16, 17, 18, 19] (Ao (Cg rfl rfl) (hd 21 rfl)) rfl <| zal 11 (Ao (A0 rfl) (hd 22 rfl)) rfl <| Ax 13 [14, 17, 18, 19] (De 22 rfl rfl (Bd Cf rfl rfl rfl) (hd 24 rfl)) rfl <| Ax 14 [17, 18, 19] (De 22 rfl rfl (A8 C5 rfl rfl rfl) (hd 25 rfl)) rfl <| Ax 15 [16, 17, 18, 19] (De 22 rfl rfl (Bd Bp rfl rfl rfl) (hd 26 rfl)) rfl <| Ax 16 [17, 18, 19] (De 22 rfl rfl (A8 Ce rfl rfl rfl) (hd 27 rfl)) rfl ?_
  refine Bb 12 ?_ rfl (by kernel_rfl)
  refine Ej Try.f28 22 rfl rfl (rI1) rfl Try.func28 rfl rfl (Aa rfl Ad) (.cons .i .nil) (hd 23 rfl) ?_ (fun ch hp => by simp at hp)
  rintro y hy; injection hy with hy; subst hy
  refine Bb 17 ?_ rfl (by kernel_rfl)
  refine Ej Try.f45 22 rfl rfl (rZ1) rfl Try.func45 rfl rfl (Aa rfl (Aa rfl (Aa rfl Ad))) (.cons (.a1 .b (.a1 .n .a0)) (.cons .b (.cons .n .nil))) (hd 28 rfl) ?_ (fun ch hp => by simp at hp)
  rintro _ ⟨⟩; refine zal 18 (Ao (Cg rfl rfl) (hd 29 rfl)) rfl <| zal 19 (Ao (Cr rfl) (hd 0 rfl)) rfl <| Bi (by kernel_rfl) <| As ?_
  refine ⟨_, _, (.cons rfl .nil), .b, ?_⟩
  exact rfl

theorem Ow (x y : Int) (hx0 : 0 ≤ x) (hx : x < 18446744073709551616) (hy0 : 0 ≤ y) (hy : y < 18446744073709551616) : Spec Try.prog 93 [.i .u64 x, .i .u64 y] (fun o => o = .ret (.t [.i .u64 (x * y / 18446744073709551616), .i .u64 (x * y % 18446744073709551616)])) := by
  refine Az [(0, .i .u64 x), (1, .i .u64 y)] rfl Try.func93 rfl (zlb rfl) fun Γ hN hds hL hR => ?_
  have hd := B5 51 hN
  have hM := S4 hx0 hx hy0 hy
  dsimp only at hM
  obtain ⟨b00, b10, b01, b11, hhi⟩ := hM
  refine zsr <| zas rfl (hd 4 rfl) <| zas rfl (hd 5 rfl) <| Ab <| zsr <| zmv rfl (hd 14 rfl) <| Ac (B0 (In (by simp) rfl rfl rfl) (show V.i .u64 (G2 .and .u64 (x) 4294967295) = V.i .u64 (x % 4294967296) by rw [Uy hx0 hx])) (hd 15 rfl) <| zas rfl (hd 6 rfl) <| Ab <| Af <| Ag ?_; refine zmv rfl (hd 16 rfl) <| Ac (B0 (E4 rfl rfl (by omega) rfl) (show V.i .u64 _ = V.i .u64 (x / 4294967296) from congrArg _ (N5 hx0))) (hd 17 rfl) <| zas rfl (hd 7 rfl) <| Ab <| zsr <| zmv rfl (hd 18 rfl) <| Ac (B0 (In (by simp) rfl rfl rfl) (show V.i .u64 (G2 .and .u64 (y) 4294967295) = V.i .u64 (y % 4294967296) by rw [Uy hy0 hy])) (hd 19 rfl) <| zas rfl (hd 8 rfl) <| Ab <| zsr <| zmv rfl (hd 20 rfl) ?_; refine Ac (B0 (E4 rfl rfl (by omega) rfl) (show V.i .u64 _ = V.i .u64 (y / 4294967296) from congrArg _ (N5 hy0))) (hd 21 rfl) <| zas rfl (hd 9 rfl) <| Ab <| zsr <| zmv rfl (hd 22 rfl) <| zmv rfl (hd 23 rfl) <| Ac (Dv rfl rfl (Bh (by omega) (by omega))) (hd 24 rfl) <| zas rfl (hd 10 rfl) <| Ab <| zsr <| zmv rfl (hd 25 rfl) ?_; refine zmv rfl (hd 26 rfl) <| Ac (Dv rfl rfl (Bh (by omega) (by omega))) (hd 27 rfl) <| zmv rfl (hd 28 rfl) <| Ac (B0 (E4 rfl rfl (by omega) rfl) (show V.i .u64 _ = V.i .u64 (x % 4294967296 * (y % 4294967296) / 4294967296) from congrArg _ (N5 b00.1))) (hd 29 rfl) <| Ac (A9 rfl rfl (Bh (by omega) (by omega))) (hd 30 rfl) <| zas rfl (hd 11 rfl) <| Ab <| zsr <| zmv rfl (hd 31 rfl) <| Ac (B0 (In (by simp) rfl rfl rfl) (show V.i .u64 (G2 .and .u64 ((x / 4294967296 * (y % 4294967296) + x % 4294967296 * (y % 4294967296) / 4294967296)) 4294967295) = V.i .u64 ((x / 4294967296 * (y % 4294967296) + x % 4294967296 * (y % 4294967296) / 4294967296) % 4294967296) by rw [Uy (by omega) (by omega)])) (hd 32 rfl) <| zas rfl (hd 12 rfl) <| Ab ?_; refine zsr <| zmv rfl (hd 33 rfl) <| Ac (B0 (E4 rfl rfl (by omega) rfl) (show V.i .u64 _ = V.i .u64 ((x / 4294967296 * (y % 4294967296) + x % 4294967296 * (y % 4294967296) / 4294967296) / 4294967296) from congrArg _ (N5 (by omega)))) (hd 34 rfl) <| zas rfl (hd 13 rfl) <| Ab <| zsr <| zmv rfl (hd 35 rfl) <| zmv rfl (hd 36 rfl) <| zmv rfl (hd 37 rfl) <| Ac (Dv rfl rfl (Bh (by omega) (by omega))) (hd 38 rfl) <| Ac (A9 rfl rfl (Bh (by omega) (by omega))) (hd 39 rfl) ?_; refine zas rfl (hd 12 rfl) <| Ab <| zsr <| zmv rfl (hd 40 rfl) <| zmv rfl (hd 41 rfl) <| Ac (Dv rfl rfl (Bh (by omega) (by omega))) (hd 42 rfl) <| zmv rfl (hd 43 rfl) <| Ac (A9 rfl rfl (Bh (by omega) (by omega))) (hd 44 rfl) <| zmv rfl (hd 45 rfl) <| Ac (B0 (E4 rfl rfl (by omega) rfl) (show V.i .u64 _ = V.i .u64 (((x / 4294967296 * (y % 4294967296) + x % 4294967296 * (y % 4294967296) / 4294967296) % 4294967296 + x % 4294967296 * (y / 4294967296)) / 4294967296) from congrArg _ (N5 (by omega)))) (hd 46 rfl) <| Ac (A9 rfl rfl (Bh (by omega) (by omega))) (hd 47 rfl) ?_
  refine zas rfl (hd 4 rfl) <| Ab <| zsr <| zmv rfl (hd 48 rfl) <| zmv rfl (hd 49 rfl) <| Ac (Dv rfl rfl (r := x * y % 18446744073709551616) Eq) (hd 50 rfl) <| zas rfl (hd 5 rfl) <| Ab <| As ?_
  refine ⟨_, _, (.cons rfl (.cons rfl .nil)), (.t1 .i (.t1 .i .t0)), ?_⟩
  rw [hhi]

theorem Vv (a b : List Int) (hla : a.length < 1099511627776) (hlb : b.length < 1099511627776) (ua : A3 a) (ub : A3 b) : Spec Try.prog 104 [.n false .u64 a, .n false .u64 b] (fun o => ∃ r, o = .ret (.n true .u64 r) ∧ A3 r ∧ r.length = a.length + b.length ∧ vl r = vl a * vl b) := by
  refine Az [(0, .n false .u64 a), (1, .n false .u64 b)] rfl Try.func104 rfl (zlb rfl) fun Γ hN hds hL hR => ?_
  have hd := B5 78 hN
  refine zsr <| zas rfl (hd 4 rfl) <| Ab <| zsr <| zmv rfl (hd 14 rfl) <| Ac (Av Bo rfl) (hd 15 rfl) <| zmv rfl (hd 16 rfl) <| Ac (Av Bo rfl) (hd 17 rfl) <| Ac (A9 rfl rfl (r := ((a.length + b.length : Nat) : Int)) (by rw [Ap (by omega) (by omega)]; omega)) (hd 18 rfl) <| Ay (Fp (m := a.length + b.length) Ky rfl rfl rfl (by show 8 * (a.length + b.length) ≤ _; omega) (by unfold maxLen; omega) rfl) (hd 19 rfl) <| zas rfl (hd 5 rfl) ?_; refine Ab <| Af <| zsr <| zmv rfl (hd 20 rfl) <| Ac (Av Bo rfl) (hd 21 rfl) <| zmv rfl (hd 22 rfl) <| Ab <| Aw ?_
  refine B4 (G := Nat × List Int) (fun g => g.1 ≤ a.length ∧ g.2.length = a.length + b.length ∧ A3 g.2 ∧ vl g.2 = vk a g.1 * vl b ∧ ∀ j, g.1 + b.length ≤ j → g.2.getD j 0 = 0) (fun g => [(22, .i .i64 (g.1 : Int)), (6, .u), (7, .u), (8, .u), (9, .u), (10, .u), (11, .u), (12, .u), (13, .u), (23, .u), (24, .u), (25, .u), (26, .u), (27, .u), (28, .u), (29, .u), (30, .u), (31, .u), (32, .u), (33, .u), (34, .u), (35, .u), (36, .u), (37, .u), (38, .u), (39, .u), (40, .u), (41, .u), (42, .u), (43, .u), (44, .u), (45, .u), (46, .u), (47, .u), (48, .u), (49, .u), (50, .u), (51, .u), (52, .u), (53, .u), (54, .u), (55, .u), (56, .u), (57, .u), (58, .u), (59, .u), (60, .u), (61, .u), (62, .u), (63, .u), (64, .u), (65, .u), (66, .u), (67, .u), (68, .u), (69, .u), (70, .u), (71, .u), (72, .u), (73, .u), (74, .u), (75, .u), (76, .u)]) (fun g => [⟨79, 1, 0, true, A2 .u64 g.2⟩]) (fun g => a.length - g.1) (0, List.replicate (a.length + b.length) 0) ?_ ?_ rfl ?_
  · exact ⟨Nat.zero_le _, List.length_replicate, G4 _, by rw [G3, vk_0, Int.zero_mul], fun j _ => Le _ j⟩
  · exact (.cons rfl (.v9 (.v9 (.v9 (.v9 (.v9 (.v9 (.u (.u .nil)))))))))
  · rintro ⟨i, r⟩ ⟨hc1, hc2, hc3, hc4, hc5⟩
    dsimp only at hc1 hc2 hc3 hc4 hc5
    have hX := Bg ua i
    refine zsr <| Ac (Ch rfl rfl) (hd 23 rfl) <| Ab <| Af ?_
    refine Bu rfl (fun h1 => ?_) (fun h1 => ?_)
    · refine Am <| Af <| Aw <| zsr <| zmv rfl (hd 24 rfl) <| Ac (B8 (i := i) Bo rfl rfl (by first | rfl | omega) (by omega)) (hd 25 rfl) <| Ac (B7 Bw rfl rfl) (hd 26 rfl) <| zas rfl (hd 6 rfl) <| zas rfl (hd 7 rfl) <| Ab <| Af <| Ag ?_; refine zas rfl (hd 8 rfl) <| Ab <| Af <| zsr <| zmv rfl (hd 27 rfl) <| Ac (Av Bo rfl) (hd 28 rfl) <| zmv rfl (hd 29 rfl) <| Ab <| Aw ?_
      refine B4 (G := Nat × List Int × Int) (fun g => g.1 ≤ b.length ∧ g.2.1.length = a.length + b.length ∧ A3 g.2.1 ∧ (0 ≤ g.2.2 ∧ g.2.2 < 18446744073709551616) ∧ vl g.2.1 + g.2.2 * pB (i + g.1) = vl r + a.getD i 0 * pB i * vk b g.1 ∧ ∀ j, i + b.length ≤ j → g.2.1.getD j 0 = 0) (fun g => [(8, .i .u64 g.2.2), (29, .i .i64 (g.1 : Int)), (9, .u), (10, .u), (11, .u), (12, .u), (13, .u), (30, .u), (31, .u), (32, .u), (33, .u), (34, .u), (35, .u), (36, .u), (37, .u), (38, .u), (39, .u), (40, .u), (41, .u), (42, .u), (43, .u), (44, .u), (45, .u), (46, .u), (47, .u), (48, .u), (49, .u), (50, .u), (51, .u), (52, .u), (53, .u), (54, .u), (55, .u), (56, .u), (57, .u), (58, .u), (59, .u), (60, .u), (61, .u), (62, .u), (63, .u), (64, .u), (65, .u), (66, .u), (67, .u), (68, .u)]) (fun g => [⟨79, 1, 0, true, A2 .u64 g.2.1⟩]) (fun g => b.length - g.1) (0, r, 0) ?_ ?_ rfl ?_
      · exact ⟨Nat.zero_le _, hc2, hc3, ⟨Int.le_refl 0, by show (0 : Int) < _; decide⟩, by show vl r + 0 * _ = _ + _ * vk b 0; rw [vk_0, Int.mul_zero, Int.zero_mul], hc5⟩
      · exact (.cons rfl (.cons rfl (.v9 (.v9 (.v9 (.v9 (.u (.u (.u (.u .nil))))))))))
      · rintro ⟨k, q, c⟩ ⟨hd1, hd2, hd3, hd4, hd5, hd6⟩
        dsimp only at hd1 hd2 hd3 hd4 hd5 hd6
        have hY := Bg ub k
        have hT := Bg hd3 (i + k)
        have hP := Ik (m := 18446744073709551615) hX.1 hY.1 (by omega) (by omega)
        have hP2 : a.getD i 0 * b.getD k 0 ≤ 340282366920938463426481119284349108225 := by have := hP.2; simpa using this
        have hst := N7 (P := a.getD i 0 * b.getD k 0) (c := c) (t := q.getD (i + k) 0) hP.1 hP2 hd4.1 hd4.2 hT.1 hT.2
        obtain ⟨hs1, hs2, hs3, hs4, hs5⟩ := hst
        refine zsr <| Ac (Ch rfl rfl) (hd 30 rfl) <| Ab <| Af ?_
        refine Bu rfl (fun h2 => ?_) (fun h2 => ?_)
        · refine Am <| Af <| Aw <| zsr <| zmv rfl (hd 31 rfl) <| Ac (B8 (i := k) Bo rfl rfl (by first | rfl | omega) (by omega)) (hd 32 rfl) <| Ac (B7 Bw rfl rfl) (hd 33 rfl) <| zas rfl (hd 9 rfl) <| zas rfl (hd 10 rfl) <| Ab <| Af <| Ag ?_; refine zmv rfl (hd 35 rfl) <| zmv rfl (hd 36 rfl) ?_
          refine Aj Try.f93 (Ow (a.getD i 0) (b.getD k 0) hX.1 hX.2 hY.1 hY.2) rfl Try.func93 rfl rfl (Aa rfl (Aa rfl Ad)) (.cons .i (.cons .i .nil)) (hd 37 rfl) ?_ (fun ch hp => by simp at hp)
          rintro _ ⟨⟩; refine zmv rfl (hd 34 rfl) <| Ac (Ak rfl rfl) (hd 38 rfl) <| Ac (Ak rfl rfl) (hd 39 rfl) <| zas rfl (hd 11 rfl) <| zas rfl (hd 12 rfl) <| Ab <| zsr <| zas rfl (hd 13 rfl) <| Ab <| zsr <| zmv rfl (hd 41 rfl) ?_; refine zmv rfl (hd 42 rfl) <| Ay (Eh (e := add64Entry) Try.func92 rfl rfl (by kernel_rfl) (by kernel_rfl) rfl rfl rfl (fun w => run_add64 _ _ _ (by omega) hd4.1 (by decide) (by decide) w) Dr) (hd 43 rfl) <| zmv rfl (hd 40 rfl) <| Ac (Ak rfl rfl) (hd 44 rfl) <| Ac (Ak rfl rfl) (hd 45 rfl) <| zas rfl (hd 12 rfl) <| zas rfl (hd 13 rfl) <| Ab <| zsr <| zmv rfl (hd 46 rfl) <| zmv rfl (hd 47 rfl) <| Ac (A9 rfl rfl (Bh (by omega) (by omega))) (hd 48 rfl) ?_; refine zas rfl (hd 11 rfl) <| Ab <| zsr <| zmv rfl (hd 50 rfl) <| zmv rfl (hd 51 rfl) <| zmv rfl (hd 52 rfl) <| Ac (A9 rfl rfl (r := ((i + k : Nat) : Int)) (by rw [Ap (by omega) (by omega)]; omega)) (hd 53 rfl) <| zmv rfl (hd 54 rfl) <| zmv rfl (hd 55 rfl) <| zmv rfl (hd 56 rfl) <| Ac (A9 rfl rfl (r := ((i + k : Nat) : Int)) (by rw [Ap (by omega) (by omega)]; omega)) (hd 57 rfl) <| Ac (Ci (i := i + k) Bo rfl rfl rfl (by first | rfl | omega) (by omega) rfl) (hd 58 rfl) ?_; refine Ac (B0 (Es Bw rfl rfl (by dsimp only; omega)) (show V.i .u64 (q.getD ((0 + (i + k)) * 1) 0) = V.i .u64 (q.getD (i + k) 0) by rw [Nat.zero_add, Nat.mul_one])) (hd 59 rfl) <| zmv rfl (hd 60 rfl) <| Ay (Eh (e := add64Entry) Try.func92 rfl rfl (by kernel_rfl) (by kernel_rfl) rfl rfl rfl (fun w => run_add64 _ _ _ hT.1 (by omega) (by decide) (by decide) w) Dr) (hd 61 rfl) <| zmv rfl (hd 49 rfl) <| Ac (Ak rfl rfl) (hd 62 rfl) <| Ac (Ak rfl rfl) (hd 63 rfl) <| Ac (Ci (i := i + k) Bo rfl rfl rfl (by first | rfl | omega) (by omega) rfl) (hd 64 rfl) <| A1 (Cc rfl rfl rfl Bw (by dsimp only; omega)) <| zas rfl (hd 13 rfl) <| Ab <| Ag <| zmv rfl (hd 65 rfl) <| zmv rfl (hd 66 rfl) ?_; refine Ac (A9 rfl rfl (Bh (by omega) (by omega))) (hd 67 rfl) <| zas rfl (hd 8 rfl) <| Ab <| Ag <| Ac (A9 rfl rfl (Ap (by omega) (by omega))) (hd 68 rfl) <| zmv rfl (hd 29 rfl) <| Ab ?_
          refine ⟨(k + 1, q.set ((0 + (i + k)) * 1) ((q.getD (i + k) 0 + (a.getD i 0 * b.getD k 0 % 18446744073709551616 + c + 0) % 18446744073709551616 + 0) % 18446744073709551616), a.getD i 0 * b.getD k 0 / 18446744073709551616 + (a.getD i 0 * b.getD k 0 % 18446744073709551616 + c + 0) / 18446744073709551616 + (q.getD (i + k) 0 + (a.getD i 0 * b.getD k 0 % 18446744073709551616 + c + 0) % 18446744073709551616 + 0) / 18446744073709551616), ?_, ?_, rfl, Ba 96 rfl rfl ?_⟩
          · refine ⟨by omega, by rw [List.length_set]; exact hd2, Jo hd3 (by omega) (by omega), ⟨hs3, hs4⟩, ?_, fun j hj => ?_⟩
            · exact school_in (by omega) (by rw [Nat.zero_add, Nat.mul_one]) rfl hd5 hs5
            · rw [Nat.zero_add, Nat.mul_one, Jy (by omega)]; exact hd6 j hj
          · show b.length - (k + 1) < b.length - k
            omega
          · exact (.cons rfl (.cons rfl (.v9 (.v9 (.v9 (.v9 (.u (.u (.u (.u .nil))))))))))
        · obtain rfl : k = b.length := by omega
          refine By <| Ag <| zmv rfl (hd 69 rfl) <| zmv rfl (hd 70 rfl) <| zmv rfl (hd 71 rfl) <| Ac (Av Bo rfl) (hd 72 rfl) <| Ac (A9 rfl rfl (r := ((i + b.length : Nat) : Int)) (by rw [Ap (by omega) (by omega)]; omega)) (hd 73 rfl) <| zmv rfl (hd 74 rfl) <| Ac (Ci (i := i + b.length) Bo rfl rfl rfl (by first | rfl | omega) (by omega) rfl) (hd 75 rfl) <| A1 (Cc rfl rfl rfl Bw (by dsimp only; omega)) <| Ab <| Ag <| Ac (A9 rfl rfl (Ap (by omega) (by omega))) (hd 76 rfl) ?_; refine zmv rfl (hd 22 rfl) <| Ab ?_
          refine ⟨(i + 1, q.set ((0 + (i + b.length)) * 1) c), ?_, ?_, rfl, Ba 129 (by kernel_rfl) (by kernel_rfl) ?_⟩
          · exact ⟨by omega, by rw [List.length_set]; exact hd2, Jo hd3 hd4.1 hd4.2, school_row (by omega) (hd6 _ (Nat.le_refl _)) (by rw [Nat.zero_add, Nat.mul_one]) (by rw [hd5, hc4]), fun j hj => by rw [Nat.zero_add, Nat.mul_one, Jy (by omega)]; exact hd6 j (by omega)⟩
          · show a.length - (i + 1) < a.length - i
            omega
          · exact (.cons rfl (.v9 (.v9 (.v9 (.v9 (.v9 (.v9 (.u (.u .nil)))))))))
    · refine By <| zsr <| zmv rfl (hd 77 rfl) <| zas rfl (hd 4 rfl) <| Ab <| As ?_
      refine ⟨_, _, (.cons rfl .nil), (.o (l := r) rfl (by omega) rfl), ?_⟩
      rw [List.drop_zero, List.take_of_length_le (by omega)]
      exact ⟨r, rfl, hc3, hc2, by rw [hc4, vk_all (by omega)]⟩

theorem Jh (r b : List Int) (n at_ : Nat) (hr : r.length = n) (hn : n < 4398046511104) (hat : at_ < 4398046511104) (hlb : b.length < 4398046511104) (ur : A3 r) (ub : A3 b) (hfit : vl r + pB at_ * vl b < pB n) : SpecM Try.prog 105 [.o 0 0 0 n, .n false .u64 b, .i .i64 (at_ : Int)] ([⟨79, 1, 0, true, A2 .u64 r⟩]) (fun o H' => o = .ret (.t []) ∧ ∃ r2, H' = [⟨79, 1, 0, true, A2 .u64 r2⟩] ∧ r2.length = n ∧ A3 r2 ∧ vl r2 = vl r + pB at_ * vl b) := by
  refine Jq [(0, .o 0 0 0 n), (1, .n false .u64 b), (2, .i .i64 (at_ : Int))] rfl (1) rfl Try.func105 rfl (zlb rfl) fun Γ hN hds => ?_
  have hd := B5 53 hN
  refine zsr <| zas rfl (hd 6 rfl) <| Ab <| zsr <| zmv rfl (hd 9 rfl) <| zas rfl (hd 7 rfl) <| Ab <| Aw ?_
  refine B4 (G := Nat × List Int × Int) (fun g => at_ ≤ g.1 ∧ g.1 ≤ n + at_ ∧ g.2.1.length = n ∧ A3 g.2.1 ∧ vl g.2.1 + g.2.2 * pB g.1 = vl r + pB at_ * vk b (g.1 - at_) ∧ 0 ≤ g.2.2 ∧ g.2.2 ≤ 1) (fun g => [(6, .i .u64 g.2.2), (7, .i .i64 (g.1 : Int)), (8, .u), (10, .u), (11, .u), (12, .u), (13, .u), (14, .u), (15, .u), (16, .u), (17, .u), (18, .u), (19, .u), (20, .u), (21, .u), (22, .u), (23, .u), (24, .u), (25, .u), (26, .u), (27, .u), (28, .u), (29, .u), (30, .u), (31, .u), (32, .u), (33, .u), (34, .u), (35, .u), (36, .u), (37, .u), (38, .u), (39, .u), (40, .u), (41, .u), (42, .u), (43, .u), (44, .u), (45, .u), (46, .u), (47, .u), (48, .u), (49, .u), (50, .u), (51, .u), (52, .u)]) (fun g => [⟨79, 1, 0, true, A2 .u64 g.2.1⟩]) (fun g => n - g.1) (at_, r, 0) ?_ ?_ rfl ?_
  · exact ⟨Nat.le_refl _, by show at_ ≤ n + at_; omega, hr, ur, by show vl r + 0 * _ = _ + _ * vk b (at_ - at_); rw [Nat.sub_self, vk_0, Int.mul_zero, Int.zero_mul], Int.le_refl 0, (by decide : (0 : Int) ≤ 1)⟩
  · exact (.cons rfl (.cons rfl (.v9 (.v9 (.v9 (.v9 (.u (.u (.u (.u .nil))))))))))
  · rintro ⟨i, q, c⟩ ⟨hc1, hc0, hc3, hc4, hc5, hc6, hc7⟩
    dsimp only at hc1 hc0 hc3 hc4 hc5 hc6 hc7
    have hT := Bg hc4 i
    have hY := Bg ub (i - at_)
    refine Af <| zsr <| zmv rfl (hd 10 rfl) <| zmv rfl (hd 11 rfl) <| Ac (Eo Bo rfl rfl) (hd 12 rfl) <| Ac (Ch rfl rfl) (hd 13 rfl) <| zmv rfl (hd 14 rfl) ?_
    refine Fo 14 rfl (fun h1 => ?_) (fun h1 => ?_)
    · refine Bn 14 rfl rfl (A0 rfl) (hd 15 rfl) <| Bn 14 rfl rfl (A0 rfl) (hd 16 rfl) <| Bn 14 rfl rfl (B1 rfl rfl (r := ((i - at_ : Nat) : Int)) (by rw [Ap (by omega) (by omega)]; omega)) (hd 17 rfl) <| Bn 14 rfl rfl (A0 rfl) (hd 18 rfl) <| Bn 14 rfl rfl (Av Bo rfl) (hd 19 rfl) <| Bn 14 rfl rfl (Ch rfl rfl) (hd 20 rfl) <| Bn 14 rfl rfl (A0 rfl) (hd 21 rfl) ?_
      refine Fo 21 rfl (fun h2 => ?_) (fun h2 => ?_)
      · refine B6 21 rfl rfl rfl (hd 22 rfl) <| B6 21 rfl rfl rfl (hd 23 rfl) <| Bn 14 rfl rfl (Cg rfl rfl) (hd 24 rfl) <| Ac (Cg rfl rfl) (hd 25 rfl) <| Ab <| Dm rfl <| Am <| Af <| Aw <| zsr <| zas rfl (hd 8 rfl) <| Ab ?_
        refine Cu (G := Unit) (fun _ => True) (fun _ => [(8, .i .u64 (b.getD (i - at_) 0)), (28, .u), (29, .u), (30, .u), (31, .u), (32, .u), (33, .u), (34, .u), (35, .u), (36, .u), (37, .u), (38, .u), (39, .u)]) ?_ ?_
        · refine zsr <| zmv rfl (hd 28 rfl) <| zmv rfl (hd 29 rfl) <| Ac (B1 rfl rfl (r := ((i - at_ : Nat) : Int)) (by rw [Ap (by omega) (by omega)]; omega)) (hd 30 rfl) <| zmv rfl (hd 31 rfl) <| Ac (Av Bo rfl) (hd 32 rfl) <| Ac (Ch rfl rfl) (hd 33 rfl) <| Ab ?_
          refine Bu rfl (fun h4 => ?_) (fun h4 => ?_)
          · refine Ag <| zmv rfl (hd 34 rfl) <| zmv rfl (hd 35 rfl) <| zmv rfl (hd 36 rfl) <| Ac (B1 rfl rfl (r := ((i - at_ : Nat) : Int)) (by rw [Ap (by omega) (by omega)]; omega)) (hd 37 rfl) <| Ac (B8 (i := i - at_) Bo rfl rfl (by first | rfl | omega) (by first | omega | (dsimp only; omega))) (hd 38 rfl) <| Ac (B7 Bw rfl rfl) (hd 39 rfl) <| zas rfl (hd 8 rfl) <| Ab ?_
            refine ⟨(), ?_, rfl, Ba 13 rfl rfl ?_⟩
            · trivial
            · exact (.cons (by first | rfl | (show some (V.i .u64 _) = some (V.i .u64 _); rw [Dw (by omega)])) (.v9 (.u (.u .nil))))
          · refine Am ?_
            refine ⟨(), ?_, rfl, Ba 6 rfl rfl ?_⟩
            · trivial
            · exact (.cons (by first | rfl | (show some (V.i .u64 _) = some (V.i .u64 _); rw [Dw (by omega)])) (.v9 (.u (.u .nil))))
        · rintro _ _; refine Ag <| zmv rfl (hd 41 rfl) <| zmv rfl (hd 42 rfl) <| zmv rfl (hd 43 rfl) <| zmv rfl (hd 44 rfl) <| Ac (Ci (i := i) Bo rfl rfl rfl (by first | rfl | omega) (by first | omega | (dsimp only; omega)) rfl) (hd 45 rfl) <| Ac (B0 (Es Bw rfl rfl (by first | omega | (dsimp only; omega))) (show V.i .u64 (q.getD ((0 + i) * 1) 0) = V.i .u64 (q.getD i 0) by rw [Nat.zero_add, Nat.mul_one])) (hd 46 rfl) <| zmv rfl (hd 47 rfl) <| zmv rfl (hd 48 rfl) <| Ay (Eh (e := add64Entry) Try.func92 rfl rfl (by kernel_rfl) (by kernel_rfl) rfl rfl rfl (fun w => run_add64 _ _ _ hT.1 hY.1 hc6 hc7 w) Dr) (hd 49 rfl) <| zmv rfl (hd 40 rfl) <| Ac (Ak rfl rfl) (hd 50 rfl) <| Ac (Ak rfl rfl) (hd 51 rfl) ?_; refine Ac (Ci (i := i) Bo rfl rfl rfl (by first | rfl | omega) (by first | omega | (dsimp only; omega)) rfl) (hd 52 rfl) <| A1 (Cc rfl rfl rfl Bw (by first | omega | (dsimp only; omega))) <| zas rfl (hd 6 rfl) <| Ab <| Ag <| zmv rfl (hd 26 rfl) <| Ac (A9 rfl rfl (Ap (by first | omega | (dsimp only; omega)) (by first | omega | (dsimp only; omega)))) (hd 27 rfl) <| zas rfl (hd 7 rfl) <| Ab ?_
          refine ⟨(i + 1, q.set ((0 + i) * 1) ((q.getD i 0 + b.getD (i - at_) 0 + c) % 18446744073709551616), (q.getD i 0 + b.getD (i - at_) 0 + c) / 18446744073709551616), ?_, ?_, rfl, Ba 95 rfl rfl ?_⟩
          · exact ⟨by omega, by omega, by rw [List.length_set]; exact hc3, Jo hc4 (by omega) (by omega), Yc (by omega) hc1 (by rw [Nat.zero_add, Nat.mul_one]) hc5 (by dsimp only; omega), by show 0 ≤ (q.getD i 0 + b.getD (i - at_) 0 + c) / 18446744073709551616; omega, by show (q.getD i 0 + b.getD (i - at_) 0 + c) / 18446744073709551616 ≤ 1; omega⟩
          · show n - (i + 1) < n - i
            omega
          · exact (.cons rfl (.cons rfl (.v9 (.v9 (.v9 (.v9 (.u (.u (.u (.u .nil))))))))))
      · refine Bn 21 rfl rfl (A0 rfl) (hd 22 rfl) <| Bn 21 rfl rfl (C0 rfl rfl) (hd 23 rfl) <| Bn 14 rfl rfl (B9 rfl rfl) (hd 24 rfl) <| Ac (Cg rfl rfl) (hd 25 rfl) <| Ab ?_
        refine Bu rfl (fun h5 => ?_) (fun h5 => ?_)
        · refine Am <| Af <| Aw <| zsr <| zas rfl (hd 8 rfl) <| Ab ?_
          refine Cu (G := Unit) (fun _ => True) (fun _ => [(8, .i .u64 (b.getD (i - at_) 0)), (28, .u), (29, .u), (30, .u), (31, .u), (32, .u), (33, .u), (34, .u), (35, .u), (36, .u), (37, .u), (38, .u), (39, .u)]) ?_ ?_
          · refine zsr <| zmv rfl (hd 28 rfl) <| zmv rfl (hd 29 rfl) <| Ac (B1 rfl rfl (r := ((i - at_ : Nat) : Int)) (by rw [Ap (by omega) (by omega)]; omega)) (hd 30 rfl) <| zmv rfl (hd 31 rfl) <| Ac (Av Bo rfl) (hd 32 rfl) <| Ac (Ch rfl rfl) (hd 33 rfl) <| Ab ?_
            refine Bu rfl (fun h6 => ?_) (fun h6 => ?_)
            · refine Ag <| zmv rfl (hd 34 rfl) <| zmv rfl (hd 35 rfl) <| zmv rfl (hd 36 rfl) <| Ac (B1 rfl rfl (r := ((i - at_ : Nat) : Int)) (by rw [Ap (by omega) (by omega)]; omega)) (hd 37 rfl) <| Ac (B8 (i := i - at_) Bo rfl rfl (by first | rfl | omega) (by first | omega | (dsimp only; omega))) (hd 38 rfl) <| Ac (B7 Bw rfl rfl) (hd 39 rfl) <| zas rfl (hd 8 rfl) <| Ab ?_
              refine ⟨(), ?_, rfl, Ba 13 rfl rfl ?_⟩
              · trivial
              · exact (.cons (by first | rfl | (show some (V.i .u64 _) = some (V.i .u64 _); rw [Dw (by omega)])) (.v9 (.u (.u .nil))))
            · refine Am ?_
              refine ⟨(), ?_, rfl, Ba 6 rfl rfl ?_⟩
              · trivial
              · exact (.cons (by first | rfl | (show some (V.i .u64 _) = some (V.i .u64 _); rw [Dw (by omega)])) (.v9 (.u (.u .nil))))
          · rintro _ _; refine Ag <| zmv rfl (hd 41 rfl) <| zmv rfl (hd 42 rfl) <| zmv rfl (hd 43 rfl) <| zmv rfl (hd 44 rfl) <| Ac (Ci (i := i) Bo rfl rfl rfl (by first | rfl | omega) (by first | omega | (dsimp only; omega)) rfl) (hd 45 rfl) <| Ac (B0 (Es Bw rfl rfl (by first | omega | (dsimp only; omega))) (show V.i .u64 (q.getD ((0 + i) * 1) 0) = V.i .u64 (q.getD i 0) by rw [Nat.zero_add, Nat.mul_one])) (hd 46 rfl) <| zmv rfl (hd 47 rfl) <| zmv rfl (hd 48 rfl) <| Ay (Eh (e := add64Entry) Try.func92 rfl rfl (by kernel_rfl) (by kernel_rfl) rfl rfl rfl (fun w => run_add64 _ _ _ hT.1 hY.1 hc6 hc7 w) Dr) (hd 49 rfl) <| zmv rfl (hd 40 rfl) <| Ac (Ak rfl rfl) (hd 50 rfl) <| Ac (Ak rfl rfl) (hd 51 rfl) ?_; refine Ac (Ci (i := i) Bo rfl rfl rfl (by first | rfl | omega) (by first | omega | (dsimp only; omega)) rfl) (hd 52 rfl) <| A1 (Cc rfl rfl rfl Bw (by first | omega | (dsimp only; omega))) <| zas rfl (hd 6 rfl) <| Ab <| Ag <| zmv rfl (hd 26 rfl) <| Ac (A9 rfl rfl (Ap (by first | omega | (dsimp only; omega)) (by first | omega | (dsimp only; omega)))) (hd 27 rfl) <| zas rfl (hd 7 rfl) <| Ab ?_
            refine ⟨(i + 1, q.set ((0 + i) * 1) ((q.getD i 0 + b.getD (i - at_) 0 + c) % 18446744073709551616), (q.getD i 0 + b.getD (i - at_) 0 + c) / 18446744073709551616), ?_, ?_, rfl, Ba 95 rfl rfl ?_⟩
            · exact ⟨by omega, by omega, by rw [List.length_set]; exact hc3, Jo hc4 (by omega) (by omega), Yc (by omega) hc1 (by rw [Nat.zero_add, Nat.mul_one]) hc5 (by dsimp only; omega), by show 0 ≤ (q.getD i 0 + b.getD (i - at_) 0 + c) / 18446744073709551616; omega, by show (q.getD i 0 + b.getD (i - at_) 0 + c) / 18446744073709551616 ≤ 1; omega⟩
            · show n - (i + 1) < n - i
              omega
            · exact (.cons rfl (.cons rfl (.v9 (.v9 (.v9 (.v9 (.u (.u (.u (.u .nil))))))))))
        · refine By ?_
          refine ⟨_, .nil, rfl, (.cons Bc .nil), ?_⟩
          exact ⟨rfl, q, rfl, hc3, hc4, U2 hc4 ur ub hc6 hc1 hfit (by dsimp only at *; first | (left; omega) | (right; omega)) hc5⟩
    · refine B6 14 rfl rfl rfl (hd 15 rfl) <| B6 14 rfl rfl rfl (hd 16 rfl) <| B6 14 rfl rfl rfl (hd 17 rfl) <| B6 14 rfl rfl rfl (hd 18 rfl) <| B6 14 rfl rfl rfl (hd 19 rfl) <| B6 14 rfl rfl rfl (hd 20 rfl) <| B6 14 rfl rfl rfl (hd 21 rfl) <| Me 21 rfl rfl (hd 22 rfl) <| Me 21 rfl rfl (hd 23 rfl) <| B6 14 rfl rfl rfl (hd 24 rfl) <| Ac (B9 rfl rfl) (hd 25 rfl) <| Ab <| Bl rfl ?_; refine By ?_
      refine ⟨_, .nil, rfl, (.cons Bc .nil), ?_⟩
      exact ⟨rfl, q, rfl, hc3, hc4, U2 hc4 ur ub hc6 hc1 hfit (by dsimp only at *; first | (left; omega) | (right; omega)) hc5⟩

theorem Abj (a b : List Int) (hla : a.length < 1099511627776) (hlb : b.length < 1099511627776) (ua : A3 a) (ub : A3 b) : Spec Try.prog 108 [.n false .u64 a, .n false .u64 b] (fun o => ∃ r, o = .ret (.n true .u64 r) ∧ A3 r ∧ r.length = max a.length b.length + 1 ∧ vl r = vl a + vl b) := by
  refine Az [(0, .n false .u64 a), (1, .n false .u64 b)] rfl Try.func108 rfl (zlb rfl) fun Γ hN hds hL hR => ?_
  have hd := B5 20 hN
  have hl0 : (a ++ (List.replicate (max a.length b.length + 1) 0).drop a.length).length = max a.length b.length + 1 := by simp; omega
  have hv0 : vl (a ++ (List.replicate (max a.length b.length + 1) (0 : Int)).drop a.length) = vl a := by rw [Ee, List.drop_replicate, G3, Int.mul_zero, Int.add_zero]
  have hfa := Fe ua
  have hfb := Fe ub
  have hpa := Fj (show a.length ≤ max a.length b.length by omega)
  have hpb := Fj (show b.length ≤ max a.length b.length by omega)
  have hpp := Dn (max a.length b.length)
  refine zsr <| zas rfl (hd 4 rfl) <| Ab <| zsr <| zmv rfl (hd 6 rfl) <| Ac (Av Bo rfl) (hd 7 rfl) <| zmv rfl (hd 8 rfl) <| Ac (Av Bo rfl) (hd 9 rfl) <| Ac (Ack rfl rfl) (hd 10 rfl) <| Ac (A9 rfl rfl (r := ((max a.length b.length + 1 : Nat) : Int)) (by rw [Ap (by omega) (by omega)]; omega)) (hd 11 rfl) <| Ay (Fp (m := max a.length b.length + 1) Ky rfl rfl rfl (by show 8 * (max a.length b.length + 1) ≤ _; omega) (by unfold maxLen; omega) rfl) (hd 12 rfl) ?_; refine zas rfl (hd 5 rfl) <| Ab <| zsr <| zmv rfl (hd 13 rfl) <| zmv rfl (hd 14 rfl) <| Tm Rt Xc rfl rfl List.length_replicate rfl (by omega) (hd 15 rfl) <| Ab <| zsr <| zmv rfl (hd 16 rfl) <| zmv rfl (hd 17 rfl) ?_
  refine Fy Try.f105 (Jh (a ++ (List.replicate (max a.length b.length + 1) 0).drop a.length) b (max a.length b.length + 1) 0 hl0 (by omega) (by omega) (by omega) (Lr ua (E3 (G4 _) _)) ub (by rw [hv0]; simp only [pB, Int.one_mul]; have : Bs = 18446744073709551616 := rfl; rw [this]; omega)) rfl Try.func105 rfl rfl (Aa rfl (Aa rfl (Aa rfl Ad))) (.cons (.same rfl) (.cons .n (.cons (.same rfl) .nil))) (Cx Dz Dj) (hd 18 rfl) ?_ (fun ch H2 hp => by simp at hp)
  rintro y H2 ⟨hy, r2, rfl, hl2, hu2, hv2⟩; injection hy with hy; subst hy; refine Ab <| zsr <| zmv rfl (hd 19 rfl) <| zas rfl (hd 4 rfl) <| Ab <| As ?_
  refine ⟨_, _, (.cons rfl .nil), (.o (l := r2) rfl (by omega) rfl), ?_⟩
  rw [List.drop_zero, List.take_of_length_le (by omega)]
  exact ⟨r2, rfl, hu2, hl2, by rw [hv2, hv0]; simp only [pB, Int.one_mul]⟩

theorem Xu (a b : List Int) (hla : a.length < 1099511627776) (hlb : b.length < 1099511627776) (ua : A3 a) (ub : A3 b) (hle : vl b ≤ vl a) : Spec Try.prog 107 [.n false .u64 a, .n false .u64 b] (fun o => ∃ r, o = .ret (.n true .u64 r) ∧ A3 r ∧ r.length = a.length ∧ vl r = vl a - vl b) := by
  refine Az [(0, .n false .u64 a), (1, .n false .u64 b)] rfl Try.func107 rfl (zlb rfl) fun Γ hN hds hL hR => ?_
  have hd := B5 43 hN
  refine zsr <| zas rfl (hd 4 rfl) <| Ab <| zsr <| zmv rfl (hd 9 rfl) <| Ac (Av Bo rfl) (hd 10 rfl) <| Ay (Fp (m := a.length) Ky rfl rfl rfl (by show 8 * a.length ≤ _; omega) (by unfold maxLen; omega) rfl) (hd 11 rfl) <| zas rfl (hd 5 rfl) <| Ab <| Af <| Ag ?_; refine zmv rfl (hd 12 rfl) <| zmv rfl (hd 13 rfl) <| Tm Rt Xc rfl rfl List.length_replicate rfl (Nat.le_refl _) (hd 14 rfl) <| Ab <| zsr <| zas rfl (hd 6 rfl) <| Ab <| Af <| Af <| Cs (H' := [⟨79, 1, 0, true, A2 .u64 ((sbN a b 0).1 ++ a.drop 0)⟩]) (by show [(⟨79, 1, 0, true, A2 .u64 (a ++ (List.replicate a.length 0).drop a.length)⟩ : Ob)] = _; rw [List.drop_eq_nil_of_le (by simp), List.append_nil]; rfl) <| Ag <| zmv rfl (hd 15 rfl) ?_; refine Ac (Eo Bo rfl rfl) (hd 16 rfl) <| zmv rfl (hd 17 rfl) <| Ab <| Aw ?_
  refine B4 (G := Nat) (fun i => i ≤ a.length) (fun i => [(6, .i .u64 (sbN a b i).2), (17, .i .i64 (i : Int)), (7, .u), (8, .u), (18, .u), (19, .u), (20, .u), (21, .u), (22, .u), (23, .u), (24, .u), (25, .u), (26, .u), (27, .u), (28, .u), (29, .u), (30, .u), (31, .u), (32, .u), (33, .u), (34, .u), (35, .u), (36, .u), (37, .u), (38, .u), (39, .u), (40, .u), (41, .u)]) (fun i => [⟨79, 1, 0, true, A2 .u64 ((sbN a b i).1 ++ a.drop i)⟩]) (fun i => a.length - i) 0 ?_ ?_ rfl ?_
  · exact Nat.zero_le _
  · exact (.cons rfl (.cons rfl (.v9 (.v9 (.v5 (.u .nil))))))
  · rintro i hc1
    have hf := Yw (b := b) hc1
    have hc := Qt a b i
    have hx := Bg ua i
    have hy := Bg ub i
    refine zsr <| Ac (Ch rfl rfl) (hd 18 rfl) <| Ab <| Af ?_
    refine Bu rfl (fun h1 => ?_) (fun h1 => ?_)
    · refine Am <| Af <| Aw <| zsr <| zmv rfl (hd 19 rfl) <| zas rfl (hd 7 rfl) <| Ab <| zsr <| zas rfl (hd 8 rfl) <| Ab ?_
      refine Cu (G := Unit) (fun _ => True) (fun _ => [(8, .i .u64 (b.getD i 0)), (20, .u), (21, .u), (22, .u), (23, .u), (24, .u), (25, .u), (26, .u), (27, .u)]) ?_ ?_
      · refine zsr <| zmv rfl (hd 20 rfl) <| zmv rfl (hd 21 rfl) <| Ac (Av Bo rfl) (hd 22 rfl) <| Ac (Ch rfl rfl) (hd 23 rfl) <| Ab ?_
        refine Bu rfl (fun h2 => ?_) (fun h2 => ?_)
        · refine Ag <| zmv rfl (hd 24 rfl) <| zmv rfl (hd 25 rfl) <| Ac (B8 (i := i) Bo rfl rfl (by first | rfl | omega) (by omega)) (hd 26 rfl) <| Ac (B7 Bw rfl rfl) (hd 27 rfl) <| zas rfl (hd 8 rfl) <| Ab ?_
          refine ⟨(), ?_, rfl, Ba 9 rfl rfl ?_⟩
          · trivial
          · exact (.cons (by first | rfl | (show some (V.i .u64 _) = some (V.i .u64 _); rw [Dw (by omega)])) (.v5 (.u (.u (.u .nil)))))
        · refine Am ?_
          refine ⟨(), ?_, rfl, Ba 4 rfl rfl ?_⟩
          · trivial
          · exact (.cons (by first | rfl | (show some (V.i .u64 _) = some (V.i .u64 _); rw [Dw (by omega)])) (.v5 (.u (.u (.u .nil)))))
      · rintro _ _; refine Ag <| zmv rfl (hd 29 rfl) <| zmv rfl (hd 30 rfl) <| zmv rfl (hd 31 rfl) <| zmv rfl (hd 32 rfl) <| Ac (Ci (i := i) Bo rfl rfl rfl (by first | rfl | omega) (by omega) rfl) (hd 33 rfl) <| Ac (B0 (Es Bw rfl rfl (by omega)) (show V.i .u64 (((sbN a b i).1 ++ a.drop i).getD ((0 + i) * 1) 0) = V.i .u64 (a.getD i 0) by rw [Nat.zero_add, Nat.mul_one, Abk (by omega)])) (hd 34 rfl) <| zmv rfl (hd 35 rfl) <| zmv rfl (hd 36 rfl) <| Ay (Eh (e := E0) Try.func94 rfl rfl (by kernel_rfl) (by kernel_rfl) rfl rfl rfl (fun w => Gq _ _ _ hx.1 hx.2 hy.1 hy.2 hc.1 hc.2 w) Dr) (hd 37 rfl) <| zmv rfl (hd 28 rfl) <| Ac (Ak rfl rfl) (hd 38 rfl) <| Ac (Ak rfl rfl) (hd 39 rfl) ?_; refine Ac (Ci (i := i) Bo rfl rfl rfl (by first | rfl | omega) (by omega) rfl) (hd 40 rfl) <| A1 (Cc rfl rfl rfl Bw (by omega)) <| zas rfl (hd 6 rfl) <| Ab <| Ag <| Ac (A9 rfl rfl (Ap (by omega) (by omega))) (hd 41 rfl) <| zmv rfl (hd 17 rfl) <| Ab ?_
        refine ⟨i + 1, ?_, ?_, (by show [(⟨79, 1, 0, true, A2 .u64 _⟩ : Ob)] = [⟨79, 1, 0, true, A2 .u64 _⟩]; rw [Vu (by omega)]), Ba 57 rfl rfl ?_⟩
        · omega
        · omega
        · exact (.cons rfl (.cons rfl (.v9 (.v9 (.v5 (.u .nil))))))
    · obtain rfl : i = a.length := by omega
      refine By <| zsr <| zmv rfl (hd 42 rfl) <| zas rfl (hd 4 rfl) <| Ab <| As ?_
      refine ⟨_, _, (.cons rfl .nil), (.o (l := (sbN a b a.length).1 ++ a.drop a.length) rfl (by omega) rfl), ?_⟩
      rw [List.drop_zero, List.take_of_length_le (by omega), List.drop_eq_nil_of_le (Nat.le_refl _), List.append_nil]
      exact ⟨_, rfl, Mx ua ub _, Dh a b _, Aa7 ua ub hle⟩

theorem K7 (l : List Int) (f t : Nat) (hl : l.length < 4398046511104) (hft : f ≤ t) (hf : t < 4398046511104) (ul : A3 l) : Spec Try.prog 106 [.n false .u64 l, .i .i64 (f : Int), .i .i64 (t : Int)] (fun o => ∃ r, o = .ret (.n false .u64 r) ∧ A3 r ∧ r.length ≤ min t l.length - min f l.length ∧ vl r = vl ((l.take t).drop f)) := by
  refine Az [(0, .n false .u64 l), (1, .i .i64 (f : Int)), (2, .i .i64 (t : Int))] rfl Try.func106 rfl (zlb rfl) fun Γ hN hds hL hR => ?_
  have hd := B5 32 hN
  refine zsr <| zas rfl (hd 6 rfl) <| Ab <| zsr <| zmv rfl (hd 7 rfl) <| zmv rfl (hd 8 rfl) <| Ac (Av Bo rfl) (hd 9 rfl) <| Ac (B0 (Xr rfl rfl) (show V.i .i64 (min (f : Int) (l.length : Int)) = V.i .i64 ((min f l.length : Nat) : Int) by congr 1; omega)) (hd 10 rfl) <| zmv rfl (hd 11 rfl) <| zmv rfl (hd 12 rfl) <| Ac (Av Bo rfl) (hd 13 rfl) ?_; refine Ac (B0 (Xr rfl rfl) (show V.i .i64 (min (t : Int) (l.length : Int)) = V.i .i64 ((min t l.length : Nat) : Int) by congr 1; omega)) (hd 14 rfl) <| zas rfl (hd 1 rfl) <| zas rfl (hd 2 rfl) <| Ab <| Af <| Aw ?_
  refine B4 (G := Nat) (fun k => min f l.length ≤ k ∧ k ≤ min t l.length ∧ vl ((l.take k).drop (min f l.length)) = vl ((l.take t).drop f)) (fun k => [(2, .i .i64 (k : Int)), (15, .u), (16, .u), (17, .u), (18, .u), (19, .u), (20, .u), (21, .u), (22, .u), (23, .u), (24, .u), (25, .u), (26, .u), (27, .u)]) (fun _ => _) (fun k => k) (min t l.length) ?_ ?_ rfl ?_
  · exact ⟨by omega, Nat.le_refl _, by rw [V0 hft]⟩
  · exact (.cons rfl (.v9 (.u (.u (.u .nil)))))
  · rintro k ⟨hc1, hc2, hc3⟩; refine Af <| zsr <| zmv rfl (hd 15 rfl) <| zmv rfl (hd 16 rfl) <| Ac (C0 rfl rfl) (hd 17 rfl) <| zmv rfl (hd 18 rfl) ?_
    refine Fo 18 rfl (fun h1 => ?_) (fun h1 => ?_)
    · refine Bn 18 rfl rfl (A0 rfl) (hd 19 rfl) <| Bn 18 rfl rfl (A0 rfl) (hd 20 rfl) <| Bn 18 rfl rfl (B1 rfl rfl (Ap (by omega) (by omega))) (hd 21 rfl) <| Bn 18 rfl rfl (B8 (i := k - 1) Bo rfl rfl (by omega) (by omega)) (hd 22 rfl) <| Bn 18 rfl rfl (B7 Bw rfl rfl) (hd 23 rfl) <| Bn 18 rfl rfl (Dy rfl rfl) (hd 24 rfl) <| Ac (Cg rfl rfl) (hd 25 rfl) <| Ab ?_
      refine Bu rfl (fun h2 => ?_) (fun h2 => ?_)
      · refine Am <| Aw <| Ag <| zmv rfl (hd 26 rfl) <| Ac (B1 rfl rfl (Ap (by omega) (by omega))) (hd 27 rfl) <| zas rfl (hd 2 rfl) <| Ab ?_
        refine ⟨k - 1, ?_, ?_, rfl, Ba 29 rfl rfl ?_⟩
        · exact ⟨by omega, by omega, by rw [Sx (by omega) (by omega) (by assumption)]; exact hc3⟩
        · omega
        · exact (.cons (by show some (V.i .i64 _) = some (V.i .i64 _); congr 2; omega) (.v9 (.u (.u (.u .nil)))))
      · refine By <| zsr <| zmv rfl (hd 28 rfl) <| zmv rfl (hd 29 rfl) <| zmv rfl (hd 30 rfl) <| Ac (Il Bo rfl (C8 rfl rfl) (C8 rfl rfl) (.inl rfl) (by omega) (by omega)) (hd 31 rfl) <| zas rfl (hd 6 rfl) <| Ab <| As ?_
        refine ⟨_, _, (.cons rfl .nil), .n, ?_⟩
        exact ⟨_, rfl, E3 (D4 ul _) _, by rw [List.length_drop, List.length_take]; omega, hc3⟩
    · refine B6 18 rfl rfl rfl (hd 19 rfl) <| B6 18 rfl rfl rfl (hd 20 rfl) <| B6 18 rfl rfl rfl (hd 21 rfl) <| B6 18 rfl rfl rfl (hd 22 rfl) <| B6 18 rfl rfl rfl (hd 23 rfl) <| B6 18 rfl rfl rfl (hd 24 rfl) <| Ac (B9 rfl rfl) (hd 25 rfl) <| Ab <| Bl rfl <| By <| zsr <| zmv rfl (hd 28 rfl) ?_; refine zmv rfl (hd 29 rfl) <| zmv rfl (hd 30 rfl) <| Ac (Il Bo rfl (C8 rfl rfl) (C8 rfl rfl) (.inl rfl) (by omega) (by omega)) (hd 31 rfl) <| zas rfl (hd 6 rfl) <| Ab <| As ?_
      refine ⟨_, _, (.cons rfl .nil), .n, ?_⟩
      exact ⟨_, rfl, E3 (D4 ul _) _, by rw [List.length_drop, List.length_take]; omega, hc3⟩

theorem Tw (cut : Nat) (hc4 : 4 ≤ cut) (hcm : cut < 1099511627776) (a b : List Int) (hla : a.length < 549755813888) (hlb : b.length < 549755813888) (ua : A3 a) (ub : A3 b) (ih : ∀ a' b' : List Int, a'.length + b'.length < a.length + b.length → a'.length < 549755813888 → b'.length < 549755813888 → A3 a' → A3 b' → Spec Try.prog 89 [.n false .u64 a', .n false .u64 b', .i .i64 (cut : Int)] (fun o => ∃ r, o = .ret (.n true .u64 r) ∧ A3 r ∧ r.length ≤ a'.length + b'.length + 1 ∧ vl r = vl a' * vl b')) : Spec Try.prog 89 [.n false .u64 a, .n false .u64 b, .i .i64 (cut : Int)] (fun o => ∃ r, o = .ret (.n true .u64 r) ∧ A3 r ∧ r.length ≤ a.length + b.length + 1 ∧ vl r = vl a * vl b) := by
  refine Az [(0, .n false .u64 a), (1, .n false .u64 b), (2, .i .i64 (cut : Int))] rfl Try.func89 rfl (zlb rfl) fun Γ hN hds hL hR => ?_
  have hd := B5 124 hN
  refine zsr <| zas rfl (hd 6 rfl) <| Ab ?_
  refine Cu (G := List Int × List Int) (fun g => g.2.length ≤ g.1.length ∧ g.1.length + g.2.length = a.length + b.length ∧ A3 g.1 ∧ A3 g.2 ∧ vl g.1 * vl g.2 = vl a * vl b ∧ g.1.length < 549755813888 ∧ g.2.length < 549755813888) (fun g => [(0, .n false .u64 g.1), (1, .n false .u64 g.2), (17, .u), (18, .u), (19, .u), (20, .u), (21, .u), (22, .u), (23, .u)]) ?_ ?_
  · refine zsr <| zmv rfl (hd 17 rfl) <| Ac (Av Bo rfl) (hd 18 rfl) <| zmv rfl (hd 19 rfl) <| Ac (Av Bo rfl) (hd 20 rfl) <| Ac (Ch rfl rfl) (hd 21 rfl) <| Ab ?_
    refine Bu rfl (fun h1 => ?_) (fun h1 => ?_)
    · refine Ag <| zmv rfl (hd 22 rfl) <| zmv rfl (hd 23 rfl) <| zas rfl (hd 0 rfl) <| zas rfl (hd 1 rfl) <| Ab ?_
      refine ⟨(b, a), ?_, rfl, Ba 9 rfl rfl ?_⟩
      · exact ⟨by show a.length ≤ b.length; omega, by show b.length + a.length = _; omega, ub, ua, by show vl b * vl a = _; rw [Int.mul_comm], hlb, hla⟩
      · exact (.cons rfl (.cons rfl (.v5 (.u (.u .nil)))))
    · refine Am ?_
      refine ⟨(a, b), ?_, rfl, Ba 5 rfl rfl ?_⟩
      · exact ⟨by show b.length ≤ a.length; omega, rfl, ua, ub, rfl, hla, hlb⟩
      · exact (.cons rfl (.cons rfl (.v5 (.u (.u .nil)))))
  · rintro ⟨X, Y⟩ ⟨hm1, hm2, uX, uY, hm3, hX, hY⟩
    dsimp only at hm1 hm2 uX uY hm3 hX hY ⊢
    have hXY := Rm uX uY
    have hXY2 := Fj (show X.length + Y.length ≤ X.length + Y.length + 1 by omega)
    have x0 := Bq uX
    have y0 := Bq uY
    refine Af <| zsr <| zmv rfl (hd 24 rfl) <| Ac (Av Bo rfl) (hd 25 rfl) <| zmv rfl (hd 26 rfl) <| Ac (Ch rfl rfl) (hd 27 rfl) <| Ab ?_
    refine Bu rfl (fun h2 => ?_) (fun h2 => ?_)
    · refine zsr <| zmv rfl (hd 28 rfl) <| zmv rfl (hd 29 rfl) ?_
      refine Aj Try.f104 (Vv X Y (by omega) (by omega) uX uY) rfl Try.func104 rfl rfl (Aa rfl (Aa rfl Ad)) (.cons .n (.cons .n .nil)) (hd 30 rfl) ?_ (fun ch hp => by simp at hp)
      rintro y ⟨rs, hy, urs, lrs, vrs⟩; injection hy with hy; subst hy; refine zas rfl (hd 6 rfl) <| Ab <| As ?_
      refine ⟨_, _, (.cons rfl .nil), .n, ?_⟩
      exact ⟨rs, rfl, urs, by omega, by rw [vrs, hm3]⟩
    · refine Am <| Af ?_
      obtain ⟨k, hk⟩ : ∃ k, (X.length + 1) / 2 = k := ⟨_, rfl⟩
      have pk := Dn k
      refine Ag <| zmv rfl (hd 31 rfl) <| Ac (Av Bo rfl) (hd 32 rfl) <| Ac (A9 rfl rfl (r := ((X.length + 1 : Nat) : Int)) (by rw [Ap (by omega) (by omega)]; omega)) (hd 33 rfl) <| Ac (Fx rfl rfl (by decide) (r := (k : Int)) (by show IntKind.i64.wrap (Int.tdiv ((X.length + 1 : Nat) : Int) 2) = _; rw [Acx (by omega), hk])) (hd 34 rfl) <| zas rfl (hd 7 rfl) <| Ab <| Af <| zsr <| zmv rfl (hd 35 rfl) <| Ac (Av Bo rfl) (hd 36 rfl) <| zmv rfl (hd 37 rfl) ?_; refine Ac (S9 rfl rfl) (hd 38 rfl) <| Ab ?_
      refine Bu rfl (fun h3 => ?_) (fun h3 => ?_)
      · refine zsr <| zmv rfl (hd 39 rfl) <| Ac (Av Bo rfl) (hd 40 rfl) <| zmv rfl (hd 41 rfl) <| Ac (Av Bo rfl) (hd 42 rfl) <| Ac (A9 rfl rfl (r := ((X.length + Y.length : Nat) : Int)) (by rw [Ap (by omega) (by omega)]; omega)) (hd 43 rfl) <| Ac (A9 rfl rfl (r := ((X.length + Y.length + 1) : Nat)) (by rw [Ap (by omega) (by omega)]; omega)) (hd 44 rfl) <| Ay (Fp (m := (X.length + Y.length + 1)) Ky rfl rfl rfl (by show 8 * (X.length + Y.length + 1) ≤ _; omega) (by unfold maxLen; omega) rfl) (hd 45 rfl) <| zas rfl (hd 8 rfl) <| Ab <| Af <| Ag ?_; refine zmv rfl (hd 46 rfl) <| zmv rfl (hd 47 rfl) <| zmv rfl (hd 48 rfl) ?_
        refine Aj Try.f106 (K7 X 0 k (by omega) (by omega) (by omega) uX) rfl Try.func106 rfl rfl (Aa rfl (Aa rfl (Aa rfl Ad))) (.cons .n (.cons .i (.cons .i .nil))) (hd 49 rfl) ?_ (fun ch hp => by simp at hp)
        rintro y ⟨al, hy, ual, lal, val⟩; injection hy with hy; subst hy; refine zmv rfl (hd 50 rfl) <| zmv rfl (hd 51 rfl) ?_
        refine Aj Try.f89 (ih al Y (by omega) (by omega) (by omega) ual uY) rfl Try.func89 rfl rfl (Aa rfl (Aa rfl (Aa rfl Ad))) (.cons .n (.cons .n (.cons .i .nil))) (hd 52 rfl) ?_ (fun ch hp => by simp at hp)
        rintro y ⟨p1, hy, up1, lp1, vp1⟩; injection hy with hy; subst hy
        have a0 := Bq ual
        refine Fy Try.f105 (Jh (List.replicate (X.length + Y.length + 1) 0) p1 (X.length + Y.length + 1) 0 List.length_replicate (by omega) (by omega) (by omega) (G4 _) up1 (by
            have h1 := Ia (l := X) k
            rw [← val] at h1
            have h2 := Bq (E3 (D4 uX X.length) k)
            have h3 := Int.mul_nonneg (Int.le_of_lt pk) h2
            have h4 := Int.mul_le_mul_of_nonneg_right (show vl al ≤ vl X by omega) y0
            rw [G3, vp1]; simp only [pB, Int.one_mul, Int.zero_add] at *; omega)) rfl Try.func105 rfl rfl (Aa rfl (Aa rfl (Aa rfl Ad))) (.cons (.same rfl) (.cons .n (.cons (.same rfl) .nil))) (Cx Dz Dj) (hd 53 rfl) ?_ (fun ch H2 hp => by simp at hp)
        rintro y H2 ⟨hy, r1, rfl, lr1, ur1, vr1⟩; injection hy with hy; subst hy; refine Ab <| zsr <| zmv rfl (hd 54 rfl) <| zmv rfl (hd 55 rfl) <| zmv rfl (hd 56 rfl) <| zmv rfl (hd 57 rfl) <| Ac (Av Bo rfl) (hd 58 rfl) ?_
        refine Aj Try.f106 (K7 X k X.length (by omega) (by omega) (by omega) uX) rfl Try.func106 rfl rfl (Aa rfl (Aa rfl (Aa rfl Ad))) (.cons .n (.cons .i (.cons .i .nil))) (hd 59 rfl) ?_ (fun ch hp => by simp at hp)
        rintro y ⟨ah, hy, uah, lah, vah⟩; injection hy with hy; subst hy; refine zmv rfl (hd 60 rfl) <| zmv rfl (hd 61 rfl) ?_
        refine Aj Try.f89 (ih ah Y (by omega) (by omega) (by omega) uah uY) rfl Try.func89 rfl rfl (Aa rfl (Aa rfl (Aa rfl Ad))) (.cons .n (.cons .n (.cons .i .nil))) (hd 62 rfl) ?_ (fun ch hp => by simp at hp)
        rintro y ⟨p2, hy, up2, lp2, vp2⟩; injection hy with hy; subst hy
        have hv : vl r1 + pB k * vl p2 = vl X * vl Y := by
          have h1 := Ia (l := X) k
          rw [← val, ← vah] at h1
          rw [vr1, vp1, vp2, G3, ← h1, Int.add_mul, Int.mul_assoc (pB k)]
          simp only [pB, Int.one_mul, Int.zero_add]
        refine zmv rfl (hd 63 rfl) ?_
        refine Fy Try.f105 (Jh r1 p2 (X.length + Y.length + 1) k lr1 (by omega) (by omega) (by omega) ur1 up2 (by rw [hv]; omega)) rfl Try.func105 rfl rfl (Aa rfl (Aa rfl (Aa rfl Ad))) (.cons (.same rfl) (.cons .n (.cons (.same rfl) .nil))) (Cx Dz Dj) (hd 64 rfl) ?_ (fun ch H2 hp => by simp at hp)
        rintro y H2 ⟨hy, rf, rfl, lrf, urf, vrf⟩; injection hy with hy; subst hy; refine Ab <| zsr <| zmv rfl (hd 65 rfl) <| zas rfl (hd 6 rfl) <| Ab <| As ?_
        refine ⟨_, _, (.cons rfl .nil), (.o (l := rf) rfl (by omega) rfl), ?_⟩
        rw [List.drop_zero, List.take_of_length_le (by omega)]
        exact ⟨rf, rfl, urf, by omega, by rw [vrf, hv, hm3]⟩
      · refine Am <| zsr <| zmv rfl (hd 66 rfl) <| zmv rfl (hd 67 rfl) ?_
        refine Aj Try.f106 (K7 X 0 k (by omega) (by omega) (by omega) uX) rfl Try.func106 rfl rfl (Aa rfl (Aa rfl (Aa rfl Ad))) (.cons .n (.cons .i (.cons .i .nil))) (hd 68 rfl) ?_ (fun ch hp => by simp at hp)
        rintro y ⟨al, hy, ual, lal, val⟩; injection hy with hy; subst hy; refine zmv rfl (hd 69 rfl) <| zmv rfl (hd 70 rfl) <| zmv rfl (hd 71 rfl) <| Ac (Av Bo rfl) (hd 72 rfl) ?_
        refine Aj Try.f106 (K7 X k X.length (by omega) (by omega) (by omega) uX) rfl Try.func106 rfl rfl (Aa rfl (Aa rfl (Aa rfl Ad))) (.cons .n (.cons .i (.cons .i .nil))) (hd 73 rfl) ?_ (fun ch hp => by simp at hp)
        rintro y ⟨ah, hy, uah, lah, vah⟩; injection hy with hy; subst hy; refine zmv rfl (hd 74 rfl) <| zmv rfl (hd 75 rfl) ?_
        refine Aj Try.f106 (K7 Y 0 k (by omega) (by omega) (by omega) uY) rfl Try.func106 rfl rfl (Aa rfl (Aa rfl (Aa rfl Ad))) (.cons .n (.cons .i (.cons .i .nil))) (hd 76 rfl) ?_ (fun ch hp => by simp at hp)
        rintro y ⟨bl, hy, ubl, lbl, vbl⟩; injection hy with hy; subst hy; refine zmv rfl (hd 77 rfl) <| zmv rfl (hd 78 rfl) <| zmv rfl (hd 79 rfl) <| Ac (Av Bo rfl) (hd 80 rfl) ?_
        refine Aj Try.f106 (K7 Y k Y.length (by omega) (by omega) (by omega) uY) rfl Try.func106 rfl rfl (Aa rfl (Aa rfl (Aa rfl Ad))) (.cons .n (.cons .i (.cons .i .nil))) (hd 81 rfl) ?_ (fun ch hp => by simp at hp)
        rintro y ⟨bh, hy, ubh, lbh, vbh⟩; injection hy with hy; subst hy; refine zas rfl (hd 9 rfl) <| zas rfl (hd 10 rfl) <| zas rfl (hd 11 rfl) <| zas rfl (hd 12 rfl) <| Ab <| zsr <| zmv rfl (hd 82 rfl) <| zmv rfl (hd 83 rfl) <| zmv rfl (hd 84 rfl) ?_
        refine Aj Try.f89 (ih al bl (by omega) (by omega) (by omega) ual ubl) rfl Try.func89 rfl rfl (Aa rfl (Aa rfl (Aa rfl Ad))) (.cons .n (.cons .n (.cons .i .nil))) (hd 85 rfl) ?_ (fun ch hp => by simp at hp)
        rintro y ⟨lo, hy, ulo, llo, vlo⟩; injection hy with hy; subst hy; refine zmv rfl (hd 86 rfl) <| zmv rfl (hd 87 rfl) <| zmv rfl (hd 88 rfl) ?_
        refine Aj Try.f89 (ih ah bh (by omega) (by omega) (by omega) uah ubh) rfl Try.func89 rfl rfl (Aa rfl (Aa rfl (Aa rfl Ad))) (.cons .n (.cons .n (.cons .i .nil))) (hd 89 rfl) ?_ (fun ch hp => by simp at hp)
        rintro y ⟨hi, hy, uhi, lhi, vhi⟩; injection hy with hy; subst hy; refine zas rfl (hd 13 rfl) <| zas rfl (hd 14 rfl) <| Ab <| zsr <| zmv rfl (hd 90 rfl) <| zmv rfl (hd 91 rfl) ?_
        refine Aj Try.f108 (Abj al ah (by omega) (by omega) ual uah) rfl Try.func108 rfl rfl (Aa rfl (Aa rfl Ad)) (.cons .n (.cons .n .nil)) (hd 92 rfl) ?_ (fun ch hp => by simp at hp)
        rintro y ⟨s1, hy, us1, ls1, vs1⟩; injection hy with hy; subst hy
        have ts1 := C7 s1
        refine Aj Try.f48 (E9 s1 (by omega)) rfl Try.func48 rfl rfl (Aa rfl Ad) (.cons .n .nil) (hd 93 rfl) ?_ (fun ch hp => by simp at hp)
        rintro _ ⟨⟩; refine zmv rfl (hd 94 rfl) <| zmv rfl (hd 95 rfl) ?_
        refine Aj Try.f108 (Abj bl bh (by omega) (by omega) ubl ubh) rfl Try.func108 rfl rfl (Aa rfl (Aa rfl Ad)) (.cons .n (.cons .n .nil)) (hd 96 rfl) ?_ (fun ch hp => by simp at hp)
        rintro y ⟨s2, hy, us2, ls2, vs2⟩; injection hy with hy; subst hy
        have ts2 := C7 s2
        refine Aj Try.f48 (E9 s2 (by omega)) rfl Try.func48 rfl rfl (Aa rfl Ad) (.cons .n .nil) (hd 97 rfl) ?_ (fun ch hp => by simp at hp)
        rintro _ ⟨⟩; refine zmv rfl (hd 98 rfl) ?_
        refine Aj Try.f89 (ih (trm s1) (trm s2) (by omega) (by omega) (by omega) (Bk us1) (Bk us2)) rfl Try.func89 rfl rfl (Aa rfl (Aa rfl (Aa rfl Ad))) (.cons .n (.cons .n (.cons .i .nil))) (hd 99 rfl) ?_ (fun ch hp => by simp at hp)
        rintro y ⟨m0, hy, um0, lm0, vm0⟩; injection hy with hy; subst hy
        rw [Ew, Ew, vs1, vs2] at vm0
        have hle := Z5 (Bq ual) (Bq uah) (Bq ubl) (Bq ubh)
        rw [← vm0, ← vlo, ← vhi] at hle
        refine zmv rfl (hd 100 rfl) ?_
        refine Aj Try.f107 (Xu m0 lo (by omega) (by omega) um0 ulo hle.1) rfl Try.func107 rfl rfl (Aa rfl (Aa rfl Ad)) (.cons .n (.cons .n .nil)) (hd 101 rfl) ?_ (fun ch hp => by simp at hp)
        rintro y ⟨m1, hy, um1, lm1, vm1⟩; injection hy with hy; subst hy; refine zmv rfl (hd 102 rfl) ?_
        refine Aj Try.f107 (Xu m1 hi (by omega) (by omega) um1 uhi (by rw [vm1]; exact hle.2)) rfl Try.func107 rfl rfl (Aa rfl (Aa rfl Ad)) (.cons .n (.cons .n .nil)) (hd 103 rfl) ?_ (fun ch hp => by simp at hp)
        rintro y ⟨m2, hy, um2, lm2, vm2⟩; injection hy with hy; subst hy
        have hA : vl al + pB k * vl ah = vl X := by rw [val, vah]; exact Ia k
        have hB : vl bl + pB k * vl bh = vl Y := by rw [vbl, vbh]; exact Ia k
        have hmd : vl m2 = (vl al + vl ah) * (vl bl + vl bh) - vl lo - vl hi := by rw [vm2, vm1, vm0]
        have hkr := Agd hA hB vlo vhi hmd
        have g1 := Int.mul_nonneg (Int.le_of_lt pk) (Bq um2)
        have g2 := Int.mul_nonneg (Int.mul_nonneg (Int.le_of_lt pk) (Int.le_of_lt pk)) (Bq uhi)
        refine zas rfl (hd 15 rfl) <| Ab <| zsr <| zmv rfl (hd 104 rfl) <| Ac (Av Bo rfl) (hd 105 rfl) <| zmv rfl (hd 106 rfl) <| Ac (Av Bo rfl) (hd 107 rfl) <| Ac (A9 rfl rfl (r := ((X.length + Y.length : Nat) : Int)) (by rw [Ap (by omega) (by omega)]; omega)) (hd 108 rfl) <| Ac (A9 rfl rfl (r := ((X.length + Y.length + 1) : Nat)) (by rw [Ap (by omega) (by omega)]; omega)) (hd 109 rfl) <| Ay (Fp (m := (X.length + Y.length + 1)) Ky rfl rfl rfl (by show 8 * (X.length + Y.length + 1) ≤ _; omega) (by unfold maxLen; omega) rfl) (hd 110 rfl) <| zas rfl (hd 16 rfl) <| Ab ?_; refine zsr <| zmv rfl (hd 111 rfl) <| zmv rfl (hd 112 rfl) ?_
        refine Fy Try.f105 (Jh (List.replicate (X.length + Y.length + 1) 0) lo (X.length + Y.length + 1) 0 List.length_replicate (by omega) (by omega) (by omega) (G4 _) ulo (by rw [G3]; simp only [pB, Int.one_mul, Int.zero_add] at *; omega)) rfl Try.func105 rfl rfl (Aa rfl (Aa rfl (Aa rfl Ad))) (.cons (.same rfl) (.cons .n (.cons (.same rfl) .nil))) (Cx Dz Dj) (hd 113 rfl) ?_ (fun ch H2 hp => by simp at hp)
        rintro y H2 ⟨hy, r1, rfl, lr1, ur1, vr1⟩; injection hy with hy; subst hy
        have e1 : vl r1 = vl lo := by rw [vr1, G3]; simp only [pB, Int.one_mul, Int.zero_add]
        refine Ab <| zsr <| zmv rfl (hd 114 rfl) <| zmv rfl (hd 115 rfl) <| zmv rfl (hd 116 rfl) ?_
        refine Fy Try.f105 (Jh r1 m2 (X.length + Y.length + 1) k lr1 (by omega) (by omega) (by omega) ur1 um2 (by rw [e1]; omega)) rfl Try.func105 rfl rfl (Aa rfl (Aa rfl (Aa rfl Ad))) (.cons (.same rfl) (.cons .n (.cons (.same rfl) .nil))) (Cx Dz Dj) (hd 117 rfl) ?_ (fun ch H2 hp => by simp at hp)
        rintro y H2 ⟨hy, r2, rfl, lr2, ur2, vr2⟩; injection hy with hy; subst hy; refine Ab <| zsr <| zmv rfl (hd 118 rfl) <| zmv rfl (hd 119 rfl) <| zmv rfl (hd 120 rfl) <| Ac (Dv rfl rfl (r := ((2 * k : Nat) : Int)) (by rw [Ap (by omega) (by omega)]; omega)) (hd 121 rfl) ?_
        refine Fy Try.f105 (Jh r2 hi (X.length + Y.length + 1) (2 * k) lr2 (by omega) (by omega) (by omega) ur2 uhi (by rw [vr2, e1, show 2 * k = k + k by omega, Fw]; omega)) rfl Try.func105 rfl rfl (Aa rfl (Aa rfl (Aa rfl Ad))) (.cons (.same rfl) (.cons .n (.cons (.same rfl) .nil))) (Cx Dz Dj) (hd 122 rfl) ?_ (fun ch H2 hp => by simp at hp)
        rintro y H2 ⟨hy, rf, rfl, lrf, urf, vrf⟩; injection hy with hy; subst hy; refine Ab <| zsr <| zmv rfl (hd 123 rfl) <| zas rfl (hd 6 rfl) <| Ab <| As ?_
        refine ⟨_, _, (.cons rfl .nil), (.o (l := rf) rfl (by omega) rfl), ?_⟩
        rw [List.drop_zero, List.take_of_length_le (by omega)]
        exact ⟨rf, rfl, urf, by omega, by rw [vrf, vr2, e1, show 2 * k = k + k by omega, Fw, hkr, hm3]⟩

theorem Wg (cut : Nat) (hc4 : 4 ≤ cut) (hcm : cut < 1099511627776) (a b : List Int) (hla : a.length < 549755813888) (hlb : b.length < 549755813888) (ua : A3 a) (ub : A3 b) : Spec Try.prog 89 [.n false .u64 a, .n false .u64 b, .i .i64 (cut : Int)] (fun o => ∃ r, o = .ret (.n true .u64 r) ∧ A3 r ∧ r.length ≤ a.length + b.length + 1 ∧ vl r = vl a * vl b) := by
  induction hn : a.length + b.length using Nat.strongRecOn generalizing a b with
  | _ n ih =>
    subst hn
    exact Tw cut hc4 hcm a b hla hlb ua ub fun a' b' h h1 h2 h3 h4 => ih _ (by omega) a' b' h1 h2 h3 h4 rfl

theorem Ad5 (a b : List Int) (hla : a.length < 4294967296) (hlb : b.length < 4294967296) (ua : A3 a) (ub : A3 b) : Spec Try.prog 88 [.n false .u64 a, .n false .u64 b] (fun o => ∃ r, o = .ret (.n true .u64 r) ∧ A3 r ∧ r.length ≤ a.length + b.length + 1 ∧ vl r = vl a * vl b) := by
  refine Az [(0, .n false .u64 a), (1, .n false .u64 b)] rfl Try.func88 rfl (zlb rfl) fun Γ hN hds hL hR => ?_
  have hd := B5 8 hN
  refine zsr <| zas rfl (hd 4 rfl) <| Ab <| zsr <| zmv rfl (hd 5 rfl) <| zmv rfl (hd 6 rfl) ?_
  refine Aj Try.f89 (Wg 40 (by decide) (by decide) a b (by omega) (by omega) ua ub) rfl Try.func89 rfl rfl (Aa rfl (Aa rfl (Aa rfl Ad))) (.cons .n (.cons .n (.cons .i .nil))) (hd 7 rfl) ?_ (fun ch hp => by simp at hp)
  rintro y ⟨rs, hy, us, ls, vs⟩; injection hy with hy; subst hy; refine zas rfl (hd 4 rfl) <| Ab <| As ?_
  refine ⟨_, _, (.cons rfl .nil), .n, ?_⟩
  exact ⟨rs, rfl, us, ls, vs⟩



theorem T2 (s : Bool) (a : List Int) (hla : a.length < 4294967296) (ua : A3 a) : Spec Try.prog 64 [.a [.b s, .n false .u64 a]] (fun o => o = .ret (.a [.b (!s && decide (0 < ((trm a).length : Int))), .n true .u64 (trm a)])) := by
  refine Az [(0, .a [.b s, .n false .u64 a])] rfl Try.func64 rfl (zlb rfl) fun Γ hN hds hL hR => ?_
  have hd := B5 10 hN
  refine zsr <| Ay (Br (id := 0) (n := 2) rfl rfl rfl (by decide) rfl) (hd 1 rfl) <| Ay (An (id := 1) At (by decide) rfl (by decide) rfl) (hd 2 rfl) <| Ab <| zsr <| Ac (Bd Cf rfl rfl rfl) (hd 3 rfl) <| Ac (A8 C5 rfl rfl rfl) (hd 4 rfl) <| Ac (Fn rfl) (hd 5 rfl) <| Ac (Bd Bp rfl rfl rfl) (hd 6 rfl) <| Ac (A8 Ce rfl rfl rfl) (hd 7 rfl) <| Ac (B3 (is := [0, 1]) (xs := [.tmp 5, .tmp 7]) At Dx rfl (Aa rfl (Aa rfl Ad)) rfl (by first | (simp [Ck, cellsV]; done) | (simp [Ck, cellsV, old]; done)) (Cj rfl) rfl) (hd 8 rfl) ?_
  refine Aj Try.f32 (Hn (!s) a (by omega)) rfl Try.func32 rfl rfl (Aa rfl Ad) (.cons (.a1 .b (.a1 .n .a0)) .nil) (hd 9 rfl) ?_ (fun ch hp => by simp at hp)
  rintro _ ⟨⟩; refine A1 (Ae rfl rfl rfl Au rfl rfl (zlb rfl)) <| Ab <| As ?_
  refine ⟨_, _, (.cons (ResV.cell Aq rfl rfl rfl rfl) .nil), (.a1 .b (.a1 .n .a0)), ?_⟩
  exact rfl


theorem Ou (s : Bool) (a : List Int) (hla : a.length < 4294967296) (ua : A3 a) : Spec Try.prog 36 [.a [.b s, .n false .u64 a]] (fun o => o = .ret (.i .i64 (Cb (sv s a)))) := by
  refine Az [(0, .a [.b s, .n false .u64 a])] rfl Try.func36 rfl (zlb rfl) fun Γ hN hds hL hR => ?_
  have hd := B5 11 hN
  refine zsr <| Ay (Br (id := 0) (n := 2) rfl rfl rfl (by decide) rfl) (hd 1 rfl) <| zas rfl (hd 2 rfl) <| Ab <| Af <| Aw <| zsr <| Ac (Bd Bp rfl rfl rfl) (hd 4 rfl) <| Ac (A8 Ce rfl rfl rfl) (hd 5 rfl) ?_
  refine Aj Try.f33 (Ed a (by omega) ua) rfl Try.func33 rfl rfl (Aa rfl Ad) (.cons .n .nil) (hd 6 rfl) ?_ (fun ch hp => by simp at hp)
  rintro _ ⟨⟩; refine Ac (Dy rfl rfl) (hd 7 rfl) <| zas rfl (hd 3 rfl) <| Ab ?_
  refine Bu rfl (fun h1 => ?_) (fun h1 => ?_)
  · refine zsr <| zas rfl (hd 2 rfl) <| Ab <| As ?_
    refine ⟨_, _, (.cons rfl .nil), .i, ?_⟩
    rw [Sc ua, if_pos (by omega)]
  · refine zsr <| Ac (Bd Cf rfl rfl rfl) (hd 9 rfl) <| Ac (A8 C5 rfl rfl rfl) (hd 10 rfl) <| zas rfl (hd 8 rfl) <| Ab ?_
    refine E7 rfl (fun h2 => ?_) (fun h2 => ?_)
    · refine zsr <| zas rfl (hd 2 rfl) <| Ab <| As ?_
      refine ⟨_, _, (.cons rfl .nil), .i, ?_⟩
      rw [Sc ua, if_neg (by omega), if_pos (by assumption)]
    · refine Am <| zsr <| zas rfl (hd 2 rfl) <| Ab <| As ?_
      refine ⟨_, _, (.cons rfl .nil), .i, ?_⟩
      rw [Sc ua, if_neg (by omega), if_neg (by simp_all)]

theorem Adt (s t : Bool) (a b : List Int) (hla : a.length < 4294967296) (hlb : b.length < 4294967296) (ua : A3 a) (ub : A3 b) : Spec Try.prog 49 [.a [.b s, .n false .u64 a], .a [.b t, .n false .u64 b]] (fun o => o = .ret (.i .i64 (Du (sv s a) (sv t b)))) := by
  refine Az [(0, .a [.b s, .n false .u64 a]), (1, .a [.b t, .n false .u64 b])] rfl Try.func49 rfl (zlb rfl) fun Γ hN hds hL hR => ?_
  have hd := B5 26 hN
  have hcs := Um (s := s) (t := t) ua ub
  have hrg := Wu (x := sv s a) (y := sv t b)
  refine zsr <| Ay (Br (id := 0) (n := 2) rfl rfl rfl (by decide) rfl) (hd 2 rfl) <| Ay (Br (id := 1) (n := 2) rfl rfl rfl (by decide) rfl) (hd 3 rfl) <| zas rfl (hd 4 rfl) <| Ab <| Af <| Be (n := 6) _ rfl B2 <| Ax 0 [1, 3, 4, 5] (Ao (Ah Aq rfl rfl rfl rfl) (hd 7 rfl)) rfl <| Ax 2 [3, 4, 5] (Ao (Ah Aq rfl rfl rfl rfl) (hd 9 rfl)) rfl ?_
  refine Bb 1 ?_ rfl (by kernel_rfl)
  refine A4 Try.f36 (Ou s a hla ua) rfl Try.func36 rfl rfl (Aa rfl Ad) (.cons (.a1 .b (.a1 .n .a0)) .nil) (hd 8 rfl) ?_ (fun ch hp => by simp at hp)
  rintro y hy; injection hy with hy; subst hy
  refine Bb 3 ?_ rfl (by kernel_rfl)
  refine A4 Try.f36 (Ou t b hlb ub) rfl Try.func36 rfl rfl (Aa rfl Ad) (.cons (.a1 .b (.a1 .n .a0)) .nil) (hd 10 rfl) ?_ (fun ch hp => by simp at hp)
  rintro _ ⟨⟩; refine zal 4 (Ao (Cr rfl) (hd 5 rfl)) rfl <| zal 5 (Ao (Cr rfl) (hd 6 rfl)) rfl <| Bi (by kernel_rfl) <| Af <| Aw <| zsr <| zmv rfl (hd 12 rfl) <| zmv rfl (hd 13 rfl) <| Ac (Ch rfl rfl) (hd 14 rfl) <| zas rfl (hd 11 rfl) <| Ab ?_
  refine Bu rfl (fun h1 => ?_) (fun h1 => ?_)
  · refine zsr <| zas rfl (hd 4 rfl) <| Ab <| As ?_
    refine ⟨_, _, (.cons rfl .nil), .i, ?_⟩
    rw [hcs.1 (by omega)]
  · refine zsr <| zmv rfl (hd 16 rfl) <| zmv rfl (hd 17 rfl) <| Ac (C0 rfl rfl) (hd 18 rfl) <| zas rfl (hd 15 rfl) <| Ab ?_
    refine Bu rfl (fun h2 => ?_) (fun h2 => ?_)
    · refine zsr <| zas rfl (hd 4 rfl) <| Ab <| As ?_
      refine ⟨_, _, (.cons rfl .nil), .i, ?_⟩
      rw [hcs.2.1 (by omega)]
    · refine Am <| zsr <| zmv rfl (hd 19 rfl) <| Ac (Bd Bp rfl rfl rfl) (hd 20 rfl) <| Ac (A8 Ce rfl rfl rfl) (hd 21 rfl) <| Ac (Bd Bp rfl rfl rfl) (hd 22 rfl) <| Ac (A8 Ce rfl rfl rfl) (hd 23 rfl) ?_
      refine Aj Try.f71 (E6 a b (by omega) (by omega)) rfl Try.func71 rfl rfl (Aa rfl (Aa rfl Ad)) (.cons .n (.cons .n .nil)) (hd 24 rfl) ?_ (fun ch hp => by simp at hp)
      rintro _ ⟨⟩; refine Ac (Dv rfl rfl (r := Du (sv s a) (sv t b)) (by rw [hcs.2.2 (by omega)]; exact Ap (by omega) (by omega))) (hd 25 rfl) <| zas rfl (hd 4 rfl) <| Ab <| As ?_
      refine ⟨_, _, (.cons rfl .nil), .i, ?_⟩
      exact rfl

set_option maxRecDepth 100000 in
theorem openW {H : Type} {enc : TypeId × Value → H} {w : World} {sp : Nat → Bool} {held : Bool} {r : Reach} {b0 : Nat} {v : Value} {d : DataW H} {ps : List MemPlace} (hval : Value.okWide Try.prog w r b0 24 v) (hd : DataW.Trod enc Try.prog w 0 sp held 24 v d ps) :
    ∃ (s : Bool) (l : List Int), Rel w (fun _ => False) w.heap.size [] (.a [.b s, .n false .u64 l]) v ∧ l.length + 2 ≤ Rows.uptoBulk d ∧ A3 l := by
  obtain ⟨cs, rfl, hsz⟩ := Go.WideShapes.okWide_struct Try.underlying24 hval
  obtain ⟨fuel, hd⟩ := hd
  have hcl : (Value.agg cs).cells.toList = cs.toList := rfl
  rw [hcl] at hd
  obtain ⟨y0, y1, n, hx, hl, h0, h1⟩ := Go.ChangeShapes.trod_struct2 Try.underlying24 hd
  injection hx with hx _; subst hx
  have hl' : cs.toList.length = 2 := hl
  obtain ⟨c0, c1, hcs⟩ : ∃ c0 c1, cs.toList = [c0, c1] := by
    match hm : cs.toList, hl' with
    | [a, b], _ => exact ⟨a, b, rfl⟩
  rw [hcs] at h0 h1
  obtain ⟨s, e0, hy0⟩ := DataW.trod_bool Try.underlying4 h0
  have e0' : [c0] = [Value.bool s] := e0
  injection e0' with e0'; subst e0'; subst hy0
  have h1' : DataW.trod enc Try.prog w 0 sp held n 22 [c1] = some y1 := h1
  obtain ⟨l, k1, k2, k3⟩ := Qw Try.underlying22 Try.underlying79 (show Try.prog.cellsOf 79 = 1 by kernel_rfl) h1'
  refine ⟨s, l, ⟨cs.toList, by simp, ?_⟩, ?_, fun y hy => Aa4 (k3 y hy)⟩
  · rw [hcs]; exact ⟨_, _, rfl, rfl, _, _, rfl, k1, rfl⟩
  · simp only [Rows.uptoBulk, Rows.uptoBulkAll]; omega

theorem U8 (v : Int) (hl : (dg v).length < 1099511627776) : Spec Try.prog 9 [.n false .u64 (dg v)] (fun o => o = .ret (.i .i64 (Bm v : Int))) := by
  refine Az [(0, .n false .u64 (dg v))] rfl Try.func9 rfl (zlb rfl) fun Γ hN hds hL hR => ?_
  have hd := B5 25 hN
  have hB := Z4 v
  have hT := Uj v ((dg v).length - 1)
  have hE := Oj v
  have hN := Lh (v := v)
  refine zsr <| zas rfl (hd 2 rfl) <| Ab <| Af <| zsr <| zmv rfl (hd 5 rfl) <| Ac (Av Dc rfl) (hd 6 rfl) <| Ac (Dy rfl rfl) (hd 7 rfl) <| Ab ?_
  refine Bu rfl (fun h1 => ?_) (fun h1 => ?_)
  · have h0 : dg v = [] := List.eq_nil_of_length_eq_zero (by omega)
    refine zsr <| zas rfl (hd 2 rfl) <| Ab <| As ?_
    refine ⟨_, _, (.cons rfl .nil), .i, ?_⟩
    rw [hN.1 h0]
    rfl
  · have h0 : dg v ≠ [] := fun e => by rw [e] at h1; exact h1 rfl
    have hE := hE h0
    refine Am <| zsr <| zmv rfl (hd 8 rfl) <| Ac (Av Dc rfl) (hd 9 rfl) <| Ac (B1 rfl rfl (Ap (by first | omega | (dsimp only; omega)) (by first | omega | (dsimp only; omega)))) (hd 10 rfl) <| Ac (Dv rfl rfl (r := ((32 * ((dg v).length - 1) : Nat) : Int)) (by have := List.length_pos_iff.2 h0; rw [Ap (by omega) (by omega)]; omega)) (hd 11 rfl) <| zas rfl (hd 3 rfl) <| Ab <| Af <| zsr <| zmv rfl (hd 12 rfl) ?_; refine zmv rfl (hd 13 rfl) <| Ac (Av Dc rfl) (hd 14 rfl) <| Ac (B1 rfl rfl (Ap (by first | omega | (dsimp only; omega)) (by first | omega | (dsimp only; omega)))) (hd 15 rfl) <| Ac (B8 (i := (dg v).length - 1) Dc rfl rfl (by have := List.length_pos_iff.2 h0; omega) (by have := List.length_pos_iff.2 h0; omega)) (hd 16 rfl) <| Ac (B7 Bw rfl rfl) (hd 17 rfl) <| zas rfl (hd 4 rfl) <| Ab <| Aw ?_
    refine B4 (G := Nat × Nat) (fun g => g.2 + Cz g.1 = Bm v ∧ g.1 < 4294967296) (fun g => [(3, .i .i64 (g.2 : Int)), (4, .i .u64 (g.1 : Int)), (18, .u), (19, .u), (20, .u), (21, .u), (22, .u), (23, .u)]) (fun _ => _) (fun g => g.1) (((dg v).getD ((dg v).length - 1) 0).toNat, 32 * ((dg v).length - 1)) ?_ ?_ rfl ?_
    · exact ⟨hE, by dsimp only; omega⟩
    · exact (.cons rfl (.cons (by show some (V.i .u64 _) = some (V.i .u64 _); congr 2; dsimp only; omega) (.v5 (.u .nil))))
    · rintro ⟨m, c⟩ ⟨hc1, hc2⟩
      dsimp only at hc1 hc2 ⊢
      refine Af <| zsr <| zmv rfl (hd 18 rfl) <| Ac (C0 rfl rfl) (hd 19 rfl) <| Ab ?_
      refine Bu rfl (fun h2 => ?_) (fun h2 => ?_)
      · refine Am <| Af <| Aw <| Ag <| zmv rfl (hd 22 rfl) <| Ac (A9 rfl rfl (Ap (by first | omega | (dsimp only; omega)) (by first | omega | (dsimp only; omega)))) (hd 23 rfl) <| zas rfl (hd 3 rfl) <| Ab <| Ag <| zmv rfl (hd 20 rfl) <| Ac (Fx rfl rfl (by first | omega | (dsimp only; omega)) (r := ((m / 2 : Nat) : Int)) (by rw [show ((m : Int).tdiv 2) = ((m / 2 : Nat) : Int) from rfl, Bh (by omega) (by omega)])) (hd 21 rfl) <| zas rfl (hd 4 rfl) <| Ab ?_
        refine ⟨(m / 2, c + 1), ?_, ?_, rfl, Ba 16 rfl rfl ?_⟩
        · exact ⟨by have := Qy (m := m) (by omega); dsimp only; omega, by dsimp only; omega⟩
        · show m / 2 < m; omega
        · exact (.cons rfl (.cons rfl (.v5 (.u .nil))))
      · refine By <| zsr <| zmv rfl (hd 24 rfl) <| zas rfl (hd 2 rfl) <| Ab <| As ?_
        refine ⟨_, _, (.cons rfl .nil), .i, ?_⟩
        have hm : m = 0 := by omega
        subst hm
        rw [Of] at hc1
        rw [← hc1]
        rfl

theorem Adx (l : List Int) (hl : l.length < 1099511627776) : Spec Try.prog 25 [.n false .u64 l] (fun o => o = .ret (.t [.n true .u64 (F9 l), .n true .u64 l])) := by
  refine Az [(0, .n false .u64 l)] rfl Try.func25 rfl (zlb rfl) fun Γ hN hds hL hR => ?_
  have hd := B5 40 hN
  refine zsr <| zas rfl (hd 2 rfl) <| zas rfl (hd 3 rfl) <| Ab <| zsr <| zmv rfl (hd 8 rfl) <| Ac (Av Hv rfl) (hd 9 rfl) <| Ac (A9 rfl rfl (r := ((l.length + 4 : Nat) : Int)) (by rw [Ap (by omega) (by omega)]; omega)) (hd 10 rfl) <| Ay (Fp (m := l.length + 4) Aaf rfl rfl rfl (by show 8 * (l.length + 4) ≤ _; omega) (by unfold maxLen; omega) rfl) (hd 11 rfl) <| zas rfl (hd 4 rfl) <| Ab ?_; refine Af <| Af <| Cs (H' := [⟨79, 1, 0, true, A2 .u64 (Kx (l.length + 4) 0)⟩]) (by rw [← Z3]; rfl) <| Ag <| zmv rfl (hd 12 rfl) <| Ac (Eo Hv rfl rfl) (hd 13 rfl) <| zmv rfl (hd 14 rfl) <| Ab <| Aw ?_
  refine B4 (G := Nat) (fun i => i ≤ l.length + 4) (fun i => [(14, .i .i64 (i : Int)), (5, .u), (15, .u), (16, .u), (17, .u), (18, .u), (19, .u), (20, .u)]) (fun i => [⟨79, 1, 0, true, A2 .u64 (Kx (l.length + 4) i)⟩]) (fun i => l.length + 4 - i) 0 ?_ ?_ rfl ?_
  · exact Nat.zero_le _
  · exact (.cons rfl (.v5 (.u (.u .nil))))
  · rintro i hc1
    have hlA := Ti hc1
    refine zsr <| Ac (Ch rfl rfl) (hd 15 rfl) <| Ab <| Af ?_
    refine Bu rfl (fun h1 => ?_) (fun h1 => ?_)
    · refine Am <| Af <| Aw <| zsr <| zmv rfl (hd 16 rfl) <| zas rfl (hd 5 rfl) <| Ab <| Ag <| zmv rfl (hd 17 rfl) <| zmv rfl (hd 18 rfl) <| Ac (Ci (i := i) Hv rfl rfl rfl (by first | rfl | omega) (by first | omega | (dsimp only; omega)) rfl) (hd 19 rfl) <| A1 (Cc rfl rfl rfl Bw (by first | omega | (dsimp only; omega))) ?_; refine Ab <| Ag <| Ac (A9 rfl rfl (Ap (by first | omega | (dsimp only; omega)) (by first | omega | (dsimp only; omega)))) (hd 20 rfl) <| zmv rfl (hd 14 rfl) <| Ab ?_
      refine ⟨i + 1, ?_, ?_, (by show [(⟨79, 1, 0, true, A2 .u64 _⟩ : Ob)] = [⟨79, 1, 0, true, A2 .u64 _⟩]; rw [Th (by omega)]), Ba 16 rfl rfl ?_⟩
      · omega
      · omega
      · exact (.cons rfl (.v5 (.u (.u .nil))))
    · refine By <| Af <| Af <| Cs (H' := [⟨79, 1, 0, true, A2 .u64 (Ki l 0)⟩]) (by rw [← Z2, show l.length + 4 = i by omega]) <| Ag <| zmv rfl (hd 21 rfl) <| Ac (Av Hv rfl) (hd 22 rfl) <| zmv rfl (hd 23 rfl) <| Ab <| Aw ?_
      refine B4 (G := Nat) (fun k => k ≤ l.length) (fun k => [(23, .i .i64 (k : Int)), (6, .u), (7, .u), (24, .u), (25, .u), (26, .u), (27, .u), (28, .u), (29, .u), (30, .u), (31, .u), (32, .u), (33, .u)]) (fun k => [⟨79, 1, 0, true, A2 .u64 (Ki l k)⟩]) (fun k => l.length - k) 0 ?_ ?_ rfl ?_
      · exact Nat.zero_le _
      · exact (.cons rfl (.v9 (.u (.u .nil))))
      · rintro k hc2
        have hlB := Tf hc2
        refine zsr <| Ac (Ch rfl rfl) (hd 24 rfl) <| Ab <| Af ?_
        refine Bu rfl (fun h2 => ?_) (fun h2 => ?_)
        · refine Am <| Af <| Aw <| zsr <| zmv rfl (hd 25 rfl) <| Ac (B8 (i := k) Hv rfl rfl (by first | rfl | omega) (by first | omega | (dsimp only; omega))) (hd 26 rfl) <| Ac (B7 Bw rfl rfl) (hd 27 rfl) <| zas rfl (hd 6 rfl) <| zas rfl (hd 7 rfl) <| Ab <| Ag <| zmv rfl (hd 28 rfl) ?_; refine zmv rfl (hd 29 rfl) <| Ac (A9 rfl rfl (Ap (by first | omega | (dsimp only; omega)) (by first | omega | (dsimp only; omega)))) (hd 30 rfl) <| zmv rfl (hd 31 rfl) <| Ac (Ci (i := k + 2) Hv rfl rfl rfl (by first | rfl | omega) (by first | omega | (dsimp only; omega)) rfl) (hd 32 rfl) <| A1 (Cc rfl rfl rfl Bw (by first | omega | (dsimp only; omega))) <| Ab <| Ag <| Ac (A9 rfl rfl (Ap (by first | omega | (dsimp only; omega)) (by first | omega | (dsimp only; omega)))) (hd 33 rfl) <| zmv rfl (hd 23 rfl) <| Ab ?_
          refine ⟨k + 1, ?_, ?_, (by show [(⟨79, 1, 0, true, A2 .u64 _⟩ : Ob)] = [⟨79, 1, 0, true, A2 .u64 _⟩]; rw [Te (by omega)]), Ba 26 rfl rfl ?_⟩
          · omega
          · omega
          · exact (.cons rfl (.v9 (.u (.u .nil))))
        · refine By <| Af <| Cs (H' := [⟨79, 1, 0, true, A2 .u64 (F9 l)⟩]) (by rw [← Tg, show l.length = k by omega]) <| Be (n := 8) _ rfl B2 <| zal 0 (Ao (A0 rfl) (hd 34 rfl)) rfl <| zal 1 (Ao (A0 rfl) (hd 35 rfl)) rfl <| Ax 2 [3, 4, 5, 7] (Ao (A0 rfl) (hd 36 rfl)) rfl <| Ax 3 [4, 5, 7] (Ao (Av Hv rfl) (hd 37 rfl)) rfl <| zal 4 (Ao (A9 rfl rfl (Ap (by first | omega | (dsimp only; omega)) (by first | omega | (dsimp only; omega)))) (hd 38 rfl)) rfl <| zal 5 (Ao (S7 (l := 2) (h := l.length + 2) (r := 2) (n := l.length) Hv rfl rfl (C8 rfl rfl) (C8 rfl (by omega)) (by omega) (by omega) rfl (by omega)) (hd 39 rfl)) rfl <| zal 6 (Ao (Cr rfl) (hd 2 rfl)) rfl <| zal 7 (Ao (Cr rfl) (hd 3 rfl)) rfl <| Bi (by kernel_rfl) ?_; refine As ?_
          refine ⟨_, _, (.cons rfl (.cons rfl .nil)), (.t1 (.o (l := F9 l) rfl (by rw [Jn]; omega) rfl) (.t1 (.o (l := F9 l) rfl (by rw [Jn]; omega) rfl) .t0)), ?_⟩
          rw [show ((F9 l).drop 0).take (l.length + 4) = F9 l by rw [List.drop_zero, ← Jn, List.take_length], Vk]

theorem Xv (s : Bool) (l : List Int) (hl : l.length < 1099511627776) : Spec Try.prog 5 [.a [.b s, .n false .u64 l]] (fun o => o = .ret (.t [.n true .u64 (F9 l), .a [.b s, .n true .u64 l]])) := by
  refine Az [(0, .a [.b s, .n false .u64 l])] rfl Try.func5 rfl (zlb rfl) fun Γ hN hds hL hR => ?_
  have hd := B5 17 hN
  refine zsr <| Ay (Br (id := 0) (n := 2) rfl rfl rfl (by decide) rfl) (hd 1 rfl) <| zas rfl (hd 2 rfl) <| Ay (An (id := 1) At (by decide) rfl (by decide) rfl) (hd 3 rfl) <| Ab <| zsr <| Ac (Bd Mg rfl rfl rfl) (hd 7 rfl) <| Ac (A8 Od rfl rfl rfl) (hd 8 rfl) ?_
  refine Aj Try.f25 (Adx l hl) rfl Try.func25 rfl rfl (Aa rfl Ad) (.cons .n .nil) (hd 9 rfl) ?_ (fun ch hp => by simp at hp)
  rintro _ ⟨⟩; refine zmv rfl (hd 6 rfl) <| Ac (Ak rfl rfl) (hd 10 rfl) <| Ac (Ak rfl rfl) (hd 11 rfl) <| zas rfl (hd 4 rfl) <| zas rfl (hd 5 rfl) <| Ab <| Af <| Be (n := 7) _ rfl B2 <| zal 0 (Ao (A0 rfl) (hd 12 rfl)) rfl <| Ax 1 [2, 4, 6] (Ao (Bd T4 rfl rfl rfl) (hd 13 rfl)) rfl <| zal 2 (Ao (A8 C5 rfl rfl rfl) (hd 14 rfl)) rfl <| zal 3 (Ao (A0 rfl) (hd 15 rfl)) rfl <| zal 4 (Ao (B3 (is := [0, 1]) (xs := [.tmp 14, .tmp 15]) At Dx rfl (Aa rfl (Aa rfl Ad)) rfl (by first | (simp [Ck, cellsV]; done) | (simp [Ck, cellsV, old]; done)) (Cj rfl) rfl) (hd 16 rfl)) rfl ?_; refine zal 5 (Ao (Cr rfl) (hd 2 rfl)) rfl ?_
  refine Bb 6 ?_ rfl (by kernel_rfl)
  refine A7 (Ae rfl rfl rfl Au rfl rfl (zlb rfl)) rfl <| Bi (by kernel_rfl) <| As ?_
  refine ⟨_, _, (.cons rfl (.cons (ResV.cell Aq rfl rfl rfl rfl) .nil)), (.t1 .n (.t1 (.a1 .b (.a1 .n .a0)) .t0)), ?_⟩
  exact rfl

theorem Yi (l : List Int) (hl : l.length < 1099511627776) : Spec Try.prog 16 [.n false .u64 (F9 l), .n false .u64 l] (fun o => o = .ret (.b true)) := by
  refine Az [(0, .n false .u64 (F9 l)), (1, .n false .u64 l)] rfl Try.func16 rfl (zlb rfl) fun Γ hN hds hL hR => ?_
  have hd := B5 39 hN
  have hw := Jn (l := l)
  refine zsr <| zas rfl (hd 4 rfl) <| Ab <| Af <| zsr <| zmv rfl (hd 7 rfl) <| Ac (Av Hv rfl) (hd 8 rfl) <| zmv rfl (hd 9 rfl) <| Ac (Av Hv rfl) (hd 10 rfl) <| Ac (A9 rfl rfl (Ap (by first | omega | (dsimp only; omega)) (by first | omega | (dsimp only; omega)))) (hd 11 rfl) <| Ac (Cd (Cm rfl rfl) (by omega)) (hd 12 rfl) ?_; refine Ab <| Bl rfl <| Am <| Af <| zsr <| zmv rfl (hd 13 rfl) <| Ac (Av Hv rfl) (hd 14 rfl) <| zmv rfl (hd 15 rfl) <| Ab <| Aw ?_
  refine B4 (G := Nat) (fun i => i ≤ l.length + 4) (fun i => [(15, .i .i64 (i : Int)), (4, .u), (5, .u), (6, .u), (16, .u), (17, .u), (18, .u), (19, .u), (20, .u), (21, .u), (22, .u), (23, .u), (24, .u), (25, .u), (26, .u), (27, .u), (28, .u), (29, .u), (30, .u), (31, .u), (32, .u), (33, .u), (34, .u), (35, .u), (36, .u), (37, .u), (38, .u)]) (fun _ => _) (fun i => l.length + 4 - i) 0 ?_ ?_ rfl ?_
  · exact Nat.zero_le _
  · exact (.cons rfl (.v9 (.v9 (.v5 (.u .nil)))))
  · rintro i hc1; refine zsr <| Ac (Ch rfl rfl) (hd 16 rfl) <| Ab <| Af ?_
    refine Bu rfl (fun h2 => ?_) (fun h2 => ?_)
    · refine Am <| Af <| Aw <| zsr <| zmv rfl (hd 17 rfl) <| Ac (B8 (i := i) Hv rfl rfl (by first | rfl | omega) (by first | omega | (dsimp only; omega))) (hd 18 rfl) <| Ac (B7 Bw rfl rfl) (hd 19 rfl) <| zas rfl (hd 5 rfl) <| zas rfl (hd 6 rfl) <| Ab <| Af <| Ag ?_; refine zmv rfl (hd 20 rfl) <| Ac (Ch rfl rfl) (hd 21 rfl) <| zmv rfl (hd 22 rfl) ?_
      refine Fo 22 rfl (fun h3 => ?_) (fun h3 => ?_)
      · refine B6 22 rfl rfl rfl (hd 23 rfl) <| B6 22 rfl rfl rfl (hd 24 rfl) <| B6 22 rfl rfl rfl (hd 25 rfl) <| B6 22 rfl rfl rfl (hd 26 rfl) <| B6 22 rfl rfl rfl (hd 27 rfl) <| Ac (Cg rfl rfl) (hd 28 rfl) <| Ab <| Dm rfl <| zsr <| zmv rfl (hd 29 rfl) <| Ac (Cd (Cm rfl rfl) (fun hh => hh (O2 (by omega) (by omega)))) (hd 30 rfl) <| Ab ?_; refine Bl rfl <| Am <| Ag <| Ac (A9 rfl rfl (Ap (by first | omega | (dsimp only; omega)) (by first | omega | (dsimp only; omega)))) (hd 38 rfl) <| zmv rfl (hd 15 rfl) <| Ab ?_
        refine ⟨i + 1, ?_, ?_, rfl, Ba 47 rfl rfl ?_⟩
        · omega
        · omega
        · exact (.cons rfl (.v9 (.v9 (.v5 (.u .nil)))))
      · refine Bn 22 rfl rfl (A0 rfl) (hd 23 rfl) <| Bn 22 rfl rfl (A0 rfl) (hd 24 rfl) <| Bn 22 rfl rfl (Av Hv rfl) (hd 25 rfl) <| Bn 22 rfl rfl (A9 rfl rfl (Ap (by first | omega | (dsimp only; omega)) (by first | omega | (dsimp only; omega)))) (hd 26 rfl) <| Bn 22 rfl rfl (Eu rfl rfl) (hd 27 rfl) <| Ac (B9 rfl rfl) (hd 28 rfl) <| Ab ?_
        refine Bu rfl (fun h6 => ?_) (fun h6 => ?_)
        · refine zsr <| zmv rfl (hd 29 rfl) <| Ac (Cd (Cm rfl rfl) (fun hh => hh (O2 (by omega) (by omega)))) (hd 30 rfl) <| Ab <| Bl rfl <| Am <| Ag <| Ac (A9 rfl rfl (Ap (by first | omega | (dsimp only; omega)) (by first | omega | (dsimp only; omega)))) (hd 38 rfl) <| zmv rfl (hd 15 rfl) <| Ab ?_
          refine ⟨i + 1, ?_, ?_, rfl, Ba 47 rfl rfl ?_⟩
          · omega
          · omega
          · exact (.cons rfl (.v9 (.v9 (.v5 (.u .nil)))))
        · refine zsr <| zmv rfl (hd 31 rfl) <| zmv rfl (hd 32 rfl) <| zmv rfl (hd 33 rfl) <| Ac (B1 rfl rfl (Ap (by first | omega | (dsimp only; omega)) (by first | omega | (dsimp only; omega)))) (hd 34 rfl) <| Ac (B8 (i := i - 2) Hv rfl rfl (by first | rfl | omega) (by first | omega | (dsimp only; omega))) (hd 35 rfl) <| Ac (B7 Bw rfl rfl) (hd 36 rfl) <| Ac (Cd (Cm rfl rfl) (fun hh => hh (Yr (by omega) (by omega)))) (hd 37 rfl) <| Ab <| Bl rfl <| Am <| Ag ?_; refine Ac (A9 rfl rfl (Ap (by first | omega | (dsimp only; omega)) (by first | omega | (dsimp only; omega)))) (hd 38 rfl) <| zmv rfl (hd 15 rfl) <| Ab ?_
          refine ⟨i + 1, ?_, ?_, rfl, Ba 52 rfl rfl ?_⟩
          · omega
          · omega
          · exact (.cons rfl (.v9 (.v9 (.v5 (.u .nil)))))
    · refine By <| zsr <| zas rfl (hd 4 rfl) <| Ab <| As ?_
      refine ⟨_, _, (.cons rfl .nil), .b, ?_⟩
      exact rfl

theorem Zx (l : List Int) (hl : l.length < 1099511627776) (hu : A3 l) : Spec Try.prog 103 [.n false .u64 l] (fun o => ∃ (r : List Int) (e : Int), o = .ret (.t [.n true .u64 r, .i .i64 e]) ∧ W1 (vl l) r e) := by
  refine Az [(0, .n false .u64 l)] rfl Try.func103 rfl (zlb rfl) fun Γ hN hds hL hR => ?_
  have hd := B5 10 hN
  have hm := C7 l
  refine zsr <| zas rfl (hd 2 rfl) <| zas rfl (hd 3 rfl) <| Ab <| zsr <| zmv rfl (hd 4 rfl) ?_
  refine Aj Try.f48 (E9 l hl) rfl Try.func48 rfl rfl (Aa rfl Ad) (.cons .n .nil) (hd 5 rfl) ?_ (fun ch hp => by simp at hp)
  rintro _ ⟨⟩; refine zas rfl (hd 0 rfl) <| Ab <| Af <| zsr <| zmv rfl (hd 6 rfl) ?_
  refine Aj Try.f33 (Ed (trm l) (by omega) (Bk hu)) rfl Try.func33 rfl rfl (Aa rfl Ad) (.cons .n .nil) (hd 7 rfl) ?_ (fun ch hp => by simp at hp)
  rintro _ ⟨⟩; refine Ac (C0 rfl rfl) (hd 8 rfl) <| Ab ?_
  refine Bu rfl (fun h1 => ?_) (fun h1 => ?_)
  · refine zsr <| zas rfl (hd 2 rfl) <| zas rfl (hd 3 rfl) <| Ab <| As ?_
    refine ⟨_, _, (.cons rfl (.cons rfl .nil)), (.t1 (.nil (fr := true) (k := .u64)) (.t1 .i .t0)), ?_⟩
    exact ⟨[], 3, rfl, Mh hu rfl (by rw [Hd] at *; omega)⟩
  · refine Am <| zsr <| zmv rfl (hd 9 rfl) <| zas rfl (hd 2 rfl) <| zas rfl (hd 3 rfl) <| Ab <| As ?_
    refine ⟨_, _, (.cons rfl (.cons rfl .nil)), (.t1 .n (.t1 .i .t0)), ?_⟩
    exact ⟨_, 0, rfl, Om hu rfl (by rw [Hd] at *; omega)⟩

theorem Z9 (a b : List Int) (ha : a.length < 1099511627776) (hb : b.length < 1099511627776) (ua : A3 a) (ub : A3 b) : Spec Try.prog 102 [.n false .u64 a, .n false .u64 b] (fun o => ∃ x : Bool, o = .ret (.b x) ∧ (x = true → 0 < Dp a ∧ 0 < Dp b ∧ 67108864 < Dp a + Dp b - 1)) := by
  refine Az [(0, .n false .u64 a), (1, .n false .u64 b)] rfl Try.func102 rfl (zlb rfl) fun Γ hN hds hL hR => ?_
  have hd := B5 24 hN
  have h1 := Kj a
  have h2 := Kj b
  refine zsr <| zas rfl (hd 4 rfl) <| Ab <| zsr <| zmv rfl (hd 7 rfl) ?_
  refine Aj Try.f33 (Ed a ha ua) rfl Try.func33 rfl rfl (Aa rfl Ad) (.cons .n .nil) (hd 8 rfl) ?_ (fun ch hp => by simp at hp)
  rintro _ ⟨⟩; refine zmv rfl (hd 9 rfl) ?_
  refine Aj Try.f33 (Ed b hb ub) rfl Try.func33 rfl rfl (Aa rfl Ad) (.cons .n .nil) (hd 10 rfl) ?_ (fun ch hp => by simp at hp)
  rintro _ ⟨⟩; refine zas rfl (hd 5 rfl) <| zas rfl (hd 6 rfl) <| Ab <| zsr <| zmv rfl (hd 11 rfl) <| Ac (C0 rfl rfl) (hd 12 rfl) <| zmv rfl (hd 13 rfl) ?_
  refine Fo 13 rfl (fun h1 => ?_) (fun h1 => ?_)
  · refine Bn 13 rfl rfl (A0 rfl) (hd 14 rfl) <| Bn 13 rfl rfl (C0 rfl rfl) (hd 15 rfl) <| Ac (Cg rfl rfl) (hd 16 rfl) <| zmv rfl (hd 17 rfl) ?_
    refine Fo 17 rfl (fun h2 => ?_) (fun h2 => ?_)
    · refine Bn 17 rfl rfl (A0 rfl) (hd 18 rfl) <| Bn 17 rfl rfl (A0 rfl) (hd 19 rfl) <| Bn 17 rfl rfl (A9 rfl rfl (Ap (by omega) (by omega))) (hd 20 rfl) <| Bn 17 rfl rfl (B1 rfl rfl (Ap (by omega) (by omega))) (hd 21 rfl) <| Bn 17 rfl rfl (C0 rfl rfl) (hd 22 rfl) <| Ac (Cg rfl rfl) (hd 23 rfl) <| zas rfl (hd 4 rfl) <| Ab <| As ?_
      refine ⟨_, _, (.cons rfl .nil), .b, ?_⟩
      exact ⟨_, rfl, fun h => by first | (cases h; done) | (simp at h; done) | (have h := of_decide_eq_true h; exact ⟨by omega, by omega, by omega⟩)⟩
    · refine B6 17 rfl rfl rfl (hd 18 rfl) <| B6 17 rfl rfl rfl (hd 19 rfl) <| B6 17 rfl rfl rfl (hd 20 rfl) <| B6 17 rfl rfl rfl (hd 21 rfl) <| B6 17 rfl rfl rfl (hd 22 rfl) <| Ac (B9 rfl rfl) (hd 23 rfl) <| zas rfl (hd 4 rfl) <| Ab <| As ?_
      refine ⟨_, _, (.cons rfl .nil), .b, ?_⟩
      exact ⟨_, rfl, fun h => by first | (cases h; done) | (simp at h; done) | (have h := of_decide_eq_true h; exact ⟨by omega, by omega, by omega⟩)⟩
  · refine B6 13 rfl rfl rfl (hd 14 rfl) <| B6 13 rfl rfl rfl (hd 15 rfl) <| Ac (B9 rfl rfl) (hd 16 rfl) <| zmv rfl (hd 17 rfl) <| B6 17 rfl rfl rfl (hd 18 rfl) <| B6 17 rfl rfl rfl (hd 19 rfl) <| B6 17 rfl rfl rfl (hd 20 rfl) <| B6 17 rfl rfl rfl (hd 21 rfl) <| B6 17 rfl rfl rfl (hd 22 rfl) <| Ac (B9 rfl rfl) (hd 23 rfl) <| zas rfl (hd 4 rfl) <| Ab <| As ?_
    refine ⟨_, _, (.cons rfl .nil), .b, ?_⟩
    exact ⟨_, rfl, fun h => by first | (cases h; done) | (simp at h; done) | (have h := of_decide_eq_true h; exact ⟨by omega, by omega, by omega⟩)⟩

theorem Sw (a b : List Int) (hla : a.length < 4294967296) (hlb : b.length < 4294967296) (ua : A3 a) (ub : A3 b) : Spec Try.prog 87 [.n false .u64 a, .n false .u64 b, .f 88 []] (fun o => ∃ (r : List Int) (e : Int), o = .ret (.t [.n true .u64 r, .i .i64 e]) ∧ W1 (vl a * vl b) r e) := by
  refine Az [(0, .n false .u64 a), (1, .n false .u64 b), (2, .f 88 [])] rfl Try.func87 rfl (zlb rfl) fun Γ hN hds hL hR => ?_
  have hd := B5 22 hN
  have hma := C7 a
  have hmb := C7 b
  refine zsr <| zas rfl (hd 6 rfl) <| zas rfl (hd 7 rfl) <| Ab <| zsr <| zmv rfl (hd 8 rfl) ?_
  refine Aj Try.f48 (E9 a (by omega)) rfl Try.func48 rfl rfl (Aa rfl Ad) (.cons .n .nil) (hd 9 rfl) ?_ (fun ch hp => by simp at hp)
  rintro _ ⟨⟩; refine zmv rfl (hd 10 rfl) ?_
  refine Aj Try.f48 (E9 b (by omega)) rfl Try.func48 rfl rfl (Aa rfl Ad) (.cons .n .nil) (hd 11 rfl) ?_ (fun ch hp => by simp at hp)
  rintro _ ⟨⟩; refine zas rfl (hd 0 rfl) <| zas rfl (hd 1 rfl) <| Ab <| Af <| zsr <| zmv rfl (hd 12 rfl) <| zmv rfl (hd 13 rfl) ?_
  refine Aj Try.f102 (Z9 (trm a) (trm b) (by omega) (by omega) (Bk ua) (Bk ub)) rfl Try.func102 rfl rfl (Aa rfl (Aa rfl Ad)) (.cons .n (.cons .n .nil)) (hd 14 rfl) ?_ (fun ch hp => by simp at hp)
  rintro y ⟨x, hy, hx⟩; injection hy with hy; subst hy; refine Ab ?_
  refine E7 rfl (fun h1 => ?_) (fun h1 => ?_)
  · refine zsr <| zas rfl (hd 6 rfl) <| zas rfl (hd 7 rfl) <| Ab <| As ?_
    refine ⟨_, _, (.cons rfl (.cons rfl .nil)), (.t1 (.nil (fr := true) (k := .u64)) (.t1 .i .t0)), ?_⟩
    refine ⟨[], 3, rfl, ?_⟩
    obtain ⟨g1, g2, g3⟩ := hx (by assumption)
    have := Q3 (r := []) (Bk ua) (Bk ub) g1 g2 g3
    rwa [Ew, Ew] at this
  · refine Am <| zsr <| zmv rfl (hd 15 rfl) <| zmv rfl (hd 16 rfl) <| zmv rfl (hd 17 rfl) ?_
    refine Aj Try.f88 (Ad5 (trm a) (trm b) (by omega) (by omega) (Bk ua) (Bk ub)) rfl Try.func88 rfl rfl (Aa rfl (Aa rfl Ad)) (.cons .n (.cons .n .nil)) (hd 18 rfl) ?_ (fun ch hp => by simp at hp)
    rintro y ⟨rs, hy, us, ls, vs⟩; injection hy with hy; subst hy
    refine Aj Try.f103 (Zx rs (by omega) us) rfl Try.func103 rfl rfl (Aa rfl Ad) (.cons .n .nil) (hd 19 rfl) ?_ (fun ch hp => by simp at hp)
    rintro y ⟨rf, ef, hy, hf⟩; injection hy with hy; subst hy; refine Ac (Ak rfl rfl) (hd 20 rfl) <| Ac (Ak rfl rfl) (hd 21 rfl) <| zas rfl (hd 6 rfl) <| zas rfl (hd 7 rfl) <| Ab <| As ?_
    refine ⟨_, _, (.cons rfl (.cons rfl .nil)), (.t1 .n (.t1 .i .t0)), ?_⟩
    exact ⟨rf, ef, rfl, by rwa [vs, Ew, Ew] at hf⟩

theorem Yh (a b : List Int) (hla : a.length < 4294967296) (hlb : b.length < 4294967296) (ua : A3 a) (ub : A3 b) : Spec Try.prog 67 [.n false .u64 a, .n false .u64 b] (fun o => ∃ (r : List Int) (e : Int), o = .ret (.t [.n true .u64 r, .i .i64 e]) ∧ W1 (vl a * vl b) r e) := by
  refine Az [(0, .n false .u64 a), (1, .n false .u64 b)] rfl Try.func67 rfl (zlb rfl) fun Γ hN hds hL hR => ?_
  have hd := B5 11 hN
  refine zsr <| zas rfl (hd 4 rfl) <| zas rfl (hd 5 rfl) <| Ab <| zsr <| zmv rfl (hd 6 rfl) <| zmv rfl (hd 7 rfl) ?_
  refine Aj Try.f87 (Sw a b hla hlb ua ub) rfl Try.func87 rfl rfl (Aa rfl (Aa rfl (Aa rfl Ad))) (.cons .n (.cons .n (.cons .f .nil))) (hd 8 rfl) ?_ (fun ch hp => by simp at hp)
  rintro y ⟨rp, ep, hy, hp⟩; injection hy with hy; subst hy; refine Ac (Ak rfl rfl) (hd 9 rfl) <| Ac (Ak rfl rfl) (hd 10 rfl) <| zas rfl (hd 4 rfl) <| zas rfl (hd 5 rfl) <| Ab <| As ?_
  refine ⟨_, _, (.cons rfl (.cons rfl .nil)), (.t1 .n (.t1 .i .t0)), ?_⟩
  exact ⟨rp, ep, rfl, hp⟩

theorem Yl (a b : List Int) (hla : a.length < 4294967296) (hlb : b.length < 4294967296) (ua : A3 a) (ub : A3 b) : Spec Try.prog 85 [.n false .u64 a, .n false .u64 b] (fun o => ∃ (r : List Int) (e : Int), o = .ret (.t [.n false .u64 r, .i .i64 e]) ∧ W1 (vl a + vl b) r e) := by
  have hu : A3 (Lu a b) := by
    unfold Lu
    have hc := Q9 (a := (swL (trm a) (trm b)).1) (b := (swL (trm a) (trm b)).2) (by unfold swL; split <;> exact Bk (by assumption)) (by unfold swL; split <;> exact Bk (by assumption)) (swL (trm a) (trm b)).1.length
    exact Ei (Q8 _) hc.1 (by omega)
  by_cases h : Dp (trm (Lu a b)) ≤ 67108864
  · exact (Vg a b hla hlb ua ub h).mono fun o ho => ⟨_, 0, ho, Om hu (Nv a b) (by rwa [Hd] at h)⟩
  · exact (Aay a b hla hlb ua ub (by omega)).mono fun o ho => ⟨_, 3, ho, Mh hu (Nv a b) (by rw [Hd] at h; omega)⟩
theorem Qk (a b : List Int) (hla : a.length < 4294967296) (hlb : b.length < 4294967296) (ua : A3 a) (ub : A3 b) (hle : vl b ≤ vl a) : Spec Try.prog 86 [.n false .u64 a, .n false .u64 b] (fun o => ∃ (r : List Int) (e : Int), o = .ret (.t [.n false .u64 r, .i .i64 e]) ∧ W1 (vl a - vl b) r e) := by
  have hc : 0 ≤ Lk (trm a) (trm b) := by rcases Gh ua ub with ⟨c, v⟩ | ⟨c, v⟩ | ⟨c, v⟩ <;> omega
  have hu : A3 (Nu a b) := Mx (Bk ua) (Bk ub) _
  by_cases h : Dp (trm (Nu a b)) ≤ 67108864
  · exact (U5 a b hla hlb ua ub hc h).mono fun o ho => ⟨_, 0, ho, Om hu (Nw ua ub hle) (by rwa [Hd] at h)⟩
  · exact (Aau a b hla hlb ua ub hc (by omega)).mono fun o ho => ⟨_, 3, ho, Mh hu (Nw ua ub hle) (by rw [Hd] at h; omega)⟩
end Go.Proofs.Ythbbbopbglbagaa.Vc
