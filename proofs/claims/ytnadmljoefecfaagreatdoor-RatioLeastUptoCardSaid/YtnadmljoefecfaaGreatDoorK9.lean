/- The law RatioLeast of every input of bulk at most 1048576: it returns true, and the input reads as it did. Texts joined: Cg, Ri, Rj, Ca, Cc, Cd, Ce, Cga, Ch, Ci, Rk, Rl, Dk. -/
import Derived.Test.YtnadmljoefecfaaGreatDoorK8
set_option linter.unusedVariables false
set_option linter.unusedSimpArgs false
set_option maxHeartbeats 4000000
namespace Go.Proofs.YtnadmljoefecfaaGreatDoor.Vc
open Go Go.RowKit
theorem Ai5 (m : Nat) (F : FuncId) (fnF : Func) (hm : m < 3) (hcell : [V.f 26 [], V.f 27 [], V.f 28 []][m]? = some (V.f F [])) (hfn : Tryz.prog.funcs[F]? = some fnF) (hfb : fnF.body.isSome = true) (hfx : (fnF.name == "runtime.NumGoroutine") = false) (s : Bool) (l d : List Int) (n : Int) (y0 : Nat) (hy0 : Rw d y0) (h00 : y0 ≠ 0) (hn8 : -1099511627776 ≤ n) (hn9 : n ≤ 1099511627776) (sg : Bool) (p q : Nat) (lp : Al (p : Int) ≤ 67108864) (lq : Al (q : Int) ≤ 67108864) (hPa : Spec Tryz.prog 29 [(.a [.b s, .n false .u64 l, .n false .u64 d])] (fun o => o = .ret (.t [.b sg, .n false .u64 (lm ((p : Nat) : Int)), .n false .u64 (lm ((q : Nat) : Int))]))) (hp : p ≠ 0) (N D : List Int) (hup : 0 < n → ¬ (Al (p : Int) : Int) - (Al (q : Int) : Int) + n > 67108865 ∧ Spec Tryz.prog 33 [.n false .u64 (lm ((q : Nat) : Int)), .i .i64 (((min n.toNat (tz q)) : Nat) : Int)] (fun o => o = .ret (.t [.n false .u64 D, .i .i64 0])) ∧ Spec Tryz.prog 34 [.n false .u64 (lm ((p : Nat) : Int)), .i .i64 ((n.toNat - (min n.toNat (tz q)) : Nat) : Int)] (fun o => o = .ret (.t [.n false .u64 N, .i .i64 0]))) (hdn : n ≤ 0 → ¬ (Al (p : Int) : Int) + n < (Al (q : Int) : Int) - 2 ∧ Spec Tryz.prog 33 [.n false .u64 (lm ((p : Nat) : Int)), .i .i64 (((min (-n).toNat (tz p)) : Nat) : Int)] (fun o => o = .ret (.t [.n false .u64 N, .i .i64 0])) ∧ Spec Tryz.prog 34 [.n false .u64 (lm ((q : Nat) : Int)), .i .i64 (((-n).toNat - (min (-n).toNat (tz p)) : Nat) : Int)] (fun o => o = .ret (.t [.n false .u64 D, .i .i64 0]))) (wv : Int) (rb : Bool) (rr : List Int) (hWay : SpecM Tryz.prog F [.a [.b sg, .n false .u64 N], .a [.b false, .n false .u64 D]] [] (fun o G => o = .ret (.t [.a [.b (decide (wv < 0)), .o 0 0 0 (lm wv).length], .a [.b rb, .o 1 0 0 rr.length], .i .i64 0]) ∧ G = [⟨71, 1, 0, true, ints .u64 (lm wv)⟩, ⟨71, 1, 0, true, ints .u64 rr⟩])) : SpecTN Tryz.prog 6 0 tzCells [(.a [.b s, .n false .u64 l, .n false .u64 d]), .i .i64 n, .i .i64 (m : Int)] (fun o G => o = .ret (.t [.a [.b (decide (wv < 0)), .o 0 0 0 (lm wv).length], .i .i64 0]) ∧ G = [⟨71, 1, 0, true, ints .u64 (lm wv)⟩]) := by
  refine Lp [(0, (.a [.b s, .n false .u64 l, .n false .u64 d])), (1, .i .i64 n), (2, .i .i64 (m : Int))] rfl Tryz.func6 rfl (Zb rfl) fun Γ 𝓡 hTb hN hds hL hR hE => ?_
  have hd := B2 146 hN
  have hl0 := mt lm_len0.1 hp
  have hLP : Spec Tryz.prog 30 [.n false .u64 (lm ((p : Nat) : Int))] (fun o => o = .ret (.i .i64 (Al (p : Int) : Int))) := Dd (p : Int) (by have := Bv lp; omega)
  have hLQ : Spec Tryz.prog 30 [.n false .u64 (lm ((q : Nat) : Int))] (fun o => o = .ret (.i .i64 (Al (q : Int) : Int))) := Dd (q : Int) (by have := Bv lq; omega)
  have hTq : SpecT Tryz.prog 31 0 tzCells [.n false .u64 (lm ((q : Nat) : Int))] (fun o => o = .ret (.i .i64 ((tz q : Nat) : Int))) := by have h := P8 (lm ((q : Nat) : Int)) (by have := Bv lq; omega) (Cu _); rwa [Gb (Int.natCast_nonneg _), Int.toNat_natCast] at h
  have hTp : SpecT Tryz.prog 31 0 tzCells [.n false .u64 (lm ((p : Nat) : Int))] (fun o => o = .ret (.i .i64 ((tz p : Nat) : Int))) := by have h := P8 (lm ((p : Nat) : Int)) (by have := Bv lp; omega) (Cu _); rwa [Gb (Int.natCast_nonneg _), Int.toNat_natCast] at h
  refine Dr <| Af <| A1 (Bn (id := 0) (n := 3) rfl rfl rfl (by decide) rfl) (hd 3 rfl) <| A1 (Aq (id := 1) Az (by decide) rfl (by decide) rfl) (hd 6 rfl) <| A1 (Aq (id := 2) Ep (by decide) rfl (by decide) rfl) (hd 7 rfl) <| Ab <| Fn (g := 23) (caps := [.p 1 0 0, .p 2 0 0]) 3 [_] (ops := [_, _]) rfl Tryz.func23 rfl rfl rfl hds hR hL hE <| Ac (F5 (Aa rfl (Aa rfl Ad))) (hd 23 rfl) <| Ab ?_
  refine ⟨rfl, rfl, rfl, ?_⟩
  intro Γ1 hN1 hw1 hM1 hL hR1
  replace hTb : TabR 0 tzCells Γ1.w0 Γ1.M := by rw [hw1, hM1]; exact hTb
  replace hd : ∀ d, Nat.blt d 146 = true → d < Γ1.N := fun d h => by rw [hN1]; exact hd d h
  refine Ab <| Zs <| Ac (Au Ap rfl rfl rfl rfl) (hd 24 rfl) <| A1 (Do (id := 3) (xs := [.tmp 24]) E0 rfl (Aa rfl Ad) rfl (Cz rfl) (by decide) rfl) (hd 25 rfl) <| Dy 25 (sz := 3) [[V.b s, V.n false .u64 l, V.n false .u64 d]] rfl rfl rfl rfl (by simp) (by simp [Ef]) (by decide) hL ?_
  refine Ag Tryz.f25 (Io s l d y0 hy0 h00) rfl Tryz.func25 rfl rfl (Aa rfl Ad) (.cons .l .nil) (hd 26 rfl) ?_ (fun _ h => by simp at h)
  rintro _ ⟨⟩; refine Ab <| Ae <| Zs <| Zm rfl (hd 27 rfl) <| Ac (B0 (Ca rfl rfl) (by omega)) (hd 28 rfl) <| Zm rfl (hd 29 rfl) <| Bi 29 rfl rfl (Ay rfl) (hd 30 rfl) <| Bi 29 rfl rfl (B0 (Ce rfl rfl) (by omega)) (hd 31 rfl) <| Ac (Bg rfl rfl) (hd 32 rfl) <| Ab <| A6 rfl <| Aj ?_; refine Ae <| Zs <| Zm rfl (hd 34 rfl) <| Ac (B0 (Ca rfl rfl) (by omega)) (hd 35 rfl) <| Zm rfl (hd 36 rfl) <| Bi 36 rfl rfl (Ay rfl) (hd 37 rfl) <| Bi 36 rfl rfl (B0 (Ce rfl rfl) (by omega)) (hd 38 rfl) <| Ac (Bg rfl rfl) (hd 39 rfl) <| Ab <| A6 rfl <| Aj <| Ae ?_; refine Af <| Ac (Im (v := .agg #[.func (.func 26) #[] #[], .func (.func 27) #[] #[], .func (.func 28) #[] #[]]) (y := .a [.f 26 [], .f 27 [], .f 28 []]) (fun _ _ _ _ => ⟨[.func (.func 26) #[] #[], .func (.func 27) #[] #[], .func (.func 28) #[] #[]], rfl, _, _, rfl, ⟨[], rfl, rfl⟩, _, _, rfl, ⟨[], rfl, rfl⟩, _, _, rfl, ⟨[], rfl, rfl⟩, rfl⟩) (by intro a dst type pos after g w2; kernel_rfl)) (hd 41 rfl) <| A1 (Aq (id := 4) Jr (by decide) rfl (by decide) rfl) (hd 8 rfl) <| A3 (Ah rfl rfl rfl Mt rfl rfl (Zb rfl)) <| Ab <| Zs <| Ac (Au Ap rfl rfl rfl rfl) (hd 43 rfl) ?_
  refine Ag Tryz.f29 (hPa) rfl Tryz.func29 rfl rfl (Aa rfl Ad) (.cons (.a1 .b (.a1 .n (.a1 .n .a0))) .nil) (hd 44 rfl) ?_ (fun _ h => by simp at h)
  rintro _ ⟨⟩; refine Zm rfl (hd 42 rfl) <| Ac (Ai rfl rfl) (hd 45 rfl) <| Ac (Ai rfl rfl) (hd 46 rfl) <| Ac (Ai rfl rfl) (hd 47 rfl) <| Za rfl (hd 9 rfl) <| Za rfl (hd 10 rfl) <| Za rfl (hd 11 rfl) <| Ab <| Zs <| Zm rfl (hd 48 rfl) <| Zm rfl (hd 49 rfl) <| Ac (Bp (is := [0, 1]) (xs := [.tmp 48, .tmp 49]) Az C0 rfl (Aa rfl (Aa rfl Ad)) rfl (by first | (simp [Ci, cellsV]; done) | (simp [Ci, cellsV, old]; done)) (Cd rfl) rfl) (hd 50 rfl) ?_; refine A1 (Aq (id := 5) Az (by decide) rfl (by decide) rfl) (hd 12 rfl) <| A3 (Ah rfl rfl rfl B6 rfl rfl (Zb rfl)) <| Ab <| Ae <| Zs <| Zm rfl (hd 51 rfl) <| Ac (Ar A7 rfl) (hd 52 rfl) <| Ac (B0 (Cq rfl rfl) (by omega)) (hd 53 rfl) <| Ab <| A6 rfl <| Aj ?_
  refine Ja (G := Unit) (fun _ => True) (fun _ => [(11, .n false .u64 D), (13, .u), (14, .u), (15, .u), (16, .u), (17, .u), (18, .u), (19, .u), (55, .u), (56, .u), (57, .u), (58, .u), (59, .u), (60, .u), (61, .u), (62, .u), (63, .u), (64, .u), (65, .u), (66, .u), (67, .u), (68, .u), (69, .u), (70, .u), (71, .u), (72, .u), (73, .u), (74, .u), (75, .u), (76, .u), (77, .u), (78, .u), (79, .u), (80, .u), (81, .u), (82, .u), (83, .u), (84, .u), (85, .u), (86, .u), (87, .u), (88, .u), (89, .u), (90, .u), (91, .u), (92, .u), (93, .u), (94, .u), (95, .u), (96, .u), (97, .u), (98, .u), (99, .u), (100, .u), (101, .u), (102, .u), (103, .u), (104, .u), (105, .u), (106, .u), (107, .u), (108, .u), (109, .u), (110, .u), (111, .u), (112, .u), (113, .u), (114, .u), (115, .u), (116, .u), (117, .u), (118, .u), (119, .u), (120, .u), (121, .u), (122, .u), (123, .u), (124, .u), (125, .u), (126, .u), (127, .u), (128, .u), (129, .u)]) (fun _ => [⟨27, 3, 0, true, [.b s, .n false .u64 l, .n false .u64 d]⟩, ⟨25, 2, 0, true, [.b false, .c (.slice none 0 0)]⟩, ⟨28, 1, 0, true, [.i .i64 0]⟩, ⟨27, 3, 0, false, []⟩, ⟨63, 3, 0, true, [.f 26 [], .f 27 [], .f 28 []]⟩, (aA sg false N)]) ?_ ?_
  · refine Zs <| Zm rfl (hd 55 rfl) <| Ac (Ce rfl rfl) (hd 56 rfl) <| Ab ?_
    refine Bh rfl (fun h4 => ?_) (fun h4 => ?_)
    · obtain ⟨hov, hRi, hLf⟩ := hup h4
      refine Ae <| Zs <| Zm rfl (hd 57 rfl) ?_
      refine Ag Tryz.f30 (hLP) rfl Tryz.func30 rfl rfl (Aa rfl Ad) (.cons .n .nil) (hd 58 rfl) ?_ (fun _ h => by simp at h)
      rintro _ ⟨⟩; refine Zm rfl (hd 59 rfl) ?_
      refine Ag Tryz.f30 (hLQ) rfl Tryz.func30 rfl rfl (Aa rfl Ad) (.cons .n .nil) (hd 60 rfl) ?_ (fun _ h => by simp at h)
      rintro _ ⟨⟩; refine Ac (Bm rfl rfl (r := (Al (p : Int) : Int) - (Al (q : Int) : Int)) (by rw [Ak (by omega) (by omega)] <;> omega)) (hd 61 rfl) <| Zm rfl (hd 62 rfl) <| Ac (Bd rfl rfl (r := (Al (p : Int) : Int) - (Al (q : Int) : Int) + n) (by rw [Ak (by omega) (by omega)] <;> omega)) (hd 63 rfl) <| Ac (B0 (Ce rfl rfl) (fun h => hov h)) (hd 64 rfl) <| Ab <| A6 rfl <| Aj <| Zs <| Zm rfl (hd 66 rfl) <| Zm rfl (hd 67 rfl) ?_
      refine Is Tryz.f31 (hTq) hL hTb rfl Tryz.func31 rfl rfl (Aa rfl Ad) (.cons .n .nil) (hd 68 rfl) ?_ (fun _ h => by simp at h)
      rintro _ ⟨⟩; refine Ac (Bk (Ou rfl rfl) (show V.i .i64 _ = V.i .i64 (((min n.toNat (tz q)) : Nat) : Int) by clear hcell hfn hfb hfx; congr 1; omega)) (hd 69 rfl) <| Za rfl (hd 13 rfl) <| Ab <| Zs <| Zm rfl (hd 70 rfl) <| Zm rfl (hd 71 rfl) ?_
      refine Ag Tryz.f33 (hRi) rfl Tryz.func33 rfl rfl (Aa rfl (Aa rfl Ad)) (.cons .n (.cons .i .nil)) (hd 72 rfl) ?_ (fun _ h => by simp at h)
      rintro _ ⟨⟩; refine Ac (Ai rfl rfl) (hd 73 rfl) <| Ac (Ai rfl rfl) (hd 74 rfl) ?_
      refine Ag Tryz.f32 (Gr _) rfl Tryz.func32 rfl rfl (Aa rfl (Aa rfl Ad)) (.cons .n (.cons .i .nil)) (hd 75 rfl) ?_ (fun _ h => by simp at h)
      rintro _ ⟨⟩; refine Za rfl (hd 11 rfl) <| Ab <| Af <| Zm rfl (hd 76 rfl) <| Zm rfl (hd 77 rfl) <| Zm rfl (hd 78 rfl) <| Ac (Bm rfl rfl (r := ((n.toNat - (min n.toNat (tz q)) : Nat) : Int)) (by rw [Ak (by omega) (by omega)] <;> omega)) (hd 79 rfl) ?_
      refine Ag Tryz.f34 (hLf) rfl Tryz.func34 rfl rfl (Aa rfl (Aa rfl Ad)) (.cons .n (.cons .i .nil)) (hd 80 rfl) ?_ (fun _ h => by simp at h)
      rintro _ ⟨⟩; refine Ac (Ai rfl rfl) (hd 81 rfl) <| Ac (Ai rfl rfl) (hd 82 rfl) ?_
      refine Ag Tryz.f32 (Gr _) rfl Tryz.func32 rfl rfl (Aa rfl (Aa rfl Ad)) (.cons .n (.cons .i .nil)) (hd 83 rfl) ?_ (fun _ h => by simp at h)
      rintro _ ⟨⟩; refine Ac (A5 By rfl rfl rfl) (hd 84 rfl) <| A3 (Ah rfl rfl rfl Acz rfl rfl (Zb rfl)) <| Ab ?_
      refine ⟨(), ?_, rfl, Bj 31 rfl rfl ?_⟩
      · trivial
      · exact (.cons rfl (.v9 (.v9 (.v9 (.v9 (.v9 (.v9 (.v9 (.v9 (.u (.u .nil)))))))))))
    · obtain ⟨hsm, hRi, hLf⟩ := hdn (by omega)
      refine Ae <| Zs <| Zm rfl (hd 85 rfl) ?_
      refine Ag Tryz.f30 (hLP) rfl Tryz.func30 rfl rfl (Aa rfl Ad) (.cons .n .nil) (hd 86 rfl) ?_ (fun _ h => by simp at h)
      rintro _ ⟨⟩; refine Zm rfl (hd 87 rfl) <| Ac (Bd rfl rfl (r := (Al (p : Int) : Int) + n) (by rw [Ak (by omega) (by omega)] <;> omega)) (hd 88 rfl) <| Zm rfl (hd 89 rfl) ?_
      refine Ag Tryz.f30 (hLQ) rfl Tryz.func30 rfl rfl (Aa rfl Ad) (.cons .n .nil) (hd 90 rfl) ?_ (fun _ h => by simp at h)
      rintro _ ⟨⟩; refine Ac (Bm rfl rfl (r := (Al (q : Int) : Int) - 2) (by rw [Ak (by omega) (by omega)] <;> omega)) (hd 91 rfl) <| Ac (B0 (Ca rfl rfl) (fun h => hsm h)) (hd 92 rfl) <| Ab <| A6 rfl <| Aj <| Zs <| Zm rfl (hd 109 rfl) <| Ac (Jj rfl (r := -n) (by rw [Ak (by omega) (by omega)] <;> omega)) (hd 110 rfl) <| Zm rfl (hd 111 rfl) ?_
      refine Is Tryz.f31 (hTp) hL hTb rfl Tryz.func31 rfl rfl (Aa rfl Ad) (.cons .n .nil) (hd 112 rfl) ?_ (fun _ h => by simp at h)
      rintro _ ⟨⟩; refine Ac (Bk (Ou rfl rfl) (show V.i .i64 _ = V.i .i64 (((min (-n).toNat (tz p)) : Nat) : Int) by clear hcell hfn hfb hfx; congr 1; omega)) (hd 113 rfl) <| Za rfl (hd 19 rfl) <| Ab <| Zs <| Zm rfl (hd 114 rfl) <| Zm rfl (hd 115 rfl) ?_
      refine Ag Tryz.f33 (hRi) rfl Tryz.func33 rfl rfl (Aa rfl (Aa rfl Ad)) (.cons .n (.cons .i .nil)) (hd 116 rfl) ?_ (fun _ h => by simp at h)
      rintro _ ⟨⟩; refine Ac (Ai rfl rfl) (hd 117 rfl) <| Ac (Ai rfl rfl) (hd 118 rfl) ?_
      refine Ag Tryz.f32 (Gr _) rfl Tryz.func32 rfl rfl (Aa rfl (Aa rfl Ad)) (.cons .n (.cons .i .nil)) (hd 119 rfl) ?_ (fun _ h => by simp at h)
      rintro _ ⟨⟩; refine Ac (A5 By rfl rfl rfl) (hd 120 rfl) <| A3 (Ah rfl rfl rfl Acz rfl rfl (Zb rfl)) <| Ab <| Af <| Zm rfl (hd 121 rfl) <| Zm rfl (hd 122 rfl) <| Ac (Jj rfl (r := -n) (by rw [Ak (by omega) (by omega)] <;> omega)) (hd 123 rfl) <| Zm rfl (hd 124 rfl) <| Ac (Bm rfl rfl (r := (((-n).toNat - (min (-n).toNat (tz p)) : Nat) : Int)) (by rw [Ak (by omega) (by omega)] <;> omega)) (hd 125 rfl) ?_
      refine Ag Tryz.f34 (hLf) rfl Tryz.func34 rfl rfl (Aa rfl (Aa rfl Ad)) (.cons .n (.cons .i .nil)) (hd 126 rfl) ?_ (fun _ h => by simp at h)
      rintro _ ⟨⟩; refine Ac (Ai rfl rfl) (hd 127 rfl) <| Ac (Ai rfl rfl) (hd 128 rfl) ?_
      refine Ag Tryz.f32 (Gr _) rfl Tryz.func32 rfl rfl (Aa rfl (Aa rfl Ad)) (.cons .n (.cons .i .nil)) (hd 129 rfl) ?_ (fun _ h => by simp at h)
      rintro _ ⟨⟩; refine Za rfl (hd 11 rfl) <| Ab ?_
      refine ⟨(), ?_, rfl, Bj 33 rfl rfl ?_⟩
      · trivial
      · exact (.cons rfl (.v9 (.v9 (.v9 (.v9 (.v9 (.v9 (.v9 (.v9 (.u (.u .nil)))))))))))
  · rintro _ _; refine Ae <| C7 <| Jb 2 _ <| Bo (n := 16) _ rfl B9 ?_; refine L5 (fun _ _ _ _ h => h) fun ops1 Q1 F0 hpan ho hq hF => ?_
    have S25_0 : JA Tryz.prog ops1 0 (za 16 0xffff) Γ1 ([(20, .p 6 1 0), (21, .p 7 1 0), (22, .i .i64 0), (130, .u), (131, .u), (132, .u), (133, .u), (134, .u), (135, .u), (136, .u), (137, .u), (138, .u), (139, .u), (140, .u)] ++ F0) (aH s l d (aA sg false N) (aO1 8 wv) [(aO2 9 rb rr), (aRw (lm wv)), (aRw rr)]) Q1 := by
      subst ho; subst hq; subst hF; refine Bx (by kernel_rfl) <| Ae <| Zs <| Zm rfl (hd 141 rfl) <| Ac (B0 (Ec rfl rfl) (fun h => h rfl)) (hd 142 rfl) <| Ab <| A6 rfl <| Aj <| Zs <| Ac (Au Bw rfl rfl rfl rfl) (hd 145 rfl) <| A3 (Ah rfl rfl rfl B6 rfl rfl (Zb rfl)) ?_; refine A3 (Ah rfl rfl rfl E5 rfl rfl (Zb rfl)) <| Ab <| An <| Clo.fin Ka (m := 3) (i := 1) (j := 2) (Zb rfl) rfl rfl rfl rfl ?_
      refine ⟨[8], _, (.t [.a [.b (decide (wv < 0)), .o 0 0 0 (lm wv).length], .i .i64 0]), (.cons (ResV.cell Bw rfl rfl rfl rfl) (.cons (ResV.cell1 Cr rfl rfl rfl) .nil)), rfl, rfl, (by decide), (by first | exact Ao Bc A0 | exact Ao rfl A0), ?_⟩
      exact ⟨rfl, rfl⟩
    have S25_1 : JA Tryz.prog ops1 1 (za 16 0x7fff) Γ1 ([(20, .p 6 1 0), (21, .p 7 1 0), (130, .u), (131, .u), (132, .u), (133, .u), (134, .u), (135, .u), (136, .u), (137, .u), (138, .u), (139, .u), (140, .i .i64 0)] ++ F0) (aH s l d (aA sg false N) (aO1 8 wv) [(aO2 9 rb rr), (aRw (lm wv)), (aRw rr)]) Q1 := by
      subst ho; subst hF; refine Bl 15 [] (Aea rfl (hd 22 rfl)) hpan rfl ?_
      refine As S25_0 14 (.cons rfl (.cons rfl (.cons rfl (.v9 (.u .nil)))))
    have S25_2 : JA Tryz.prog ops1 2 (za 16 0x3fff) Γ1 ([(20, .p 6 1 0), (21, .p 7 1 0), (130, .u), (131, .u), (132, .u), (133, .u), (134, .u), (135, .u), (136, .u), (137, .u), (138, .u), (139, (aWr 9 rb rr)), (140, .i .i64 0)] ++ F0) (aH s l d (aA sg false N) (aO1 8 wv) [aE, (aRw (lm wv)), (aRw rr)]) Q1 := by
      subst ho; subst hF
      refine Be 14 ?_ rfl (by kernel_rfl)
      refine Cl (Ah rfl rfl rfl B6 rfl rfl (Zb rfl)) rfl ?_
      refine As S25_1 13 (.cons rfl (.cons rfl (.v9 (.cons rfl .nil))))
    have S25_3 : JA Tryz.prog ops1 3 (za 16 0x1fff) Γ1 ([(20, .p 6 1 0), (21, .p 7 1 0), (130, .u), (131, .u), (132, .u), (133, .u), (134, .u), (135, .u), (136, .u), (137, .u), (138, (aWv 8 wv)), (139, (aWr 9 rb rr)), (140, .i .i64 0)] ++ F0) (aH s l d (aA sg false N) aE [aE, (aRw (lm wv)), (aRw rr)]) Q1 := by
      subst ho; subst hF
      refine Be 13 ?_ rfl (by kernel_rfl)
      refine Cl (Ah rfl rfl rfl B6 rfl rfl (Zb rfl)) rfl ?_
      refine As S25_2 13 (.cons rfl (.cons rfl (.v5 (.u (.u (.u (.u (.cons rfl (.cons rfl .nil)))))))))
    have S25_4 : JA Tryz.prog ops1 4 (za 16 0xfff) Γ1 ([(20, .p 6 1 0), (130, .u), (131, .u), (132, .u), (133, .u), (134, .u), (135, .u), (136, .u), (137, .u), (138, (aWv 8 wv)), (139, (aWr 9 rb rr)), (140, .i .i64 0)] ++ F0) (aH s l d (aA sg false N) aE [aHo, (aRw (lm wv)), (aRw rr)]) Q1 := by
      subst ho; subst hF
      refine Be 12 ?_ rfl (by kernel_rfl)
      refine Df (Ba (id := 7) Az (by decide) rfl (by decide) rfl) (hd 21 rfl) ?_
      refine As S25_3 13 (.cons rfl (.cons rfl (.v5 (.u (.u (.u (.cons rfl (.cons rfl (.cons rfl .nil)))))))))
    have S25_5 : JA Tryz.prog ops1 4 (za 16 0x17ff) Γ1 ([(21, .p 7 1 0), (130, .u), (131, .u), (132, .u), (133, .u), (134, .u), (135, .u), (136, .u), (137, .u), (138, (aWv 8 wv)), (139, (aWr 9 rb rr)), (140, .i .i64 0)] ++ F0) (aH s l d (aA sg false N) aHo [aE, (aRw (lm wv)), (aRw rr)]) Q1 := by
      subst ho; subst hF
      refine Be 11 ?_ rfl (by kernel_rfl)
      refine Df (Ba (id := 6) Az (by decide) rfl (by decide) rfl) (hd 20 rfl) ?_
      refine As S25_3 13 (.cons rfl (.cons rfl (.v5 (.u (.u (.u (.cons rfl (.cons rfl (.cons rfl .nil)))))))))
    have S25_6 : JA Tryz.prog ops1 5 (za 16 0x7ff) Γ1 ([(130, .u), (131, .u), (132, .u), (133, .u), (134, .u), (135, .u), (136, .u), (137, .u), (138, (aWv 8 wv)), (139, (aWr 9 rb rr)), (140, .i .i64 0)] ++ F0) (aH s l d (aA sg false N) aHo [aHo, (aRw (lm wv)), (aRw rr)]) Q1 := by
      subst ho; subst hF
      refine J8 11 12 ?_ ?_ rfl rfl (by kernel_rfl)
      · refine Df (Ba (id := 6) Az (by decide) rfl (by decide) rfl) (hd 20 rfl) ?_
        refine As S25_4 12 (.cons rfl (.v5 (.u (.u (.u (.cons rfl (.cons rfl (.cons rfl .nil))))))))
      · refine Df (Ba (id := 7) Az (by decide) rfl (by decide) rfl) (hd 21 rfl) ?_
        refine As S25_5 12 (.cons rfl (.v5 (.u (.u (.u (.cons rfl (.cons rfl (.cons rfl .nil))))))))
    have S25_7 : JA Tryz.prog ops1 6 (za 16 0x3ff) Γ1 ([(130, (aT 8 9 wv rb rr)), (131, .u), (132, .u), (133, .u), (134, .u), (135, .u), (136, .u), (137, .u), (138, (aWv 8 wv)), (139, (aWr 9 rb rr))] ++ F0) (aH s l d (aA sg false N) aHo [aHo, (aRw (lm wv)), (aRw rr)]) Q1 := by
      subst ho; subst hF; refine Bl 10 [15] (B3 rfl rfl (hd 140 rfl)) hpan rfl ?_
      refine As S25_6 11 (.v5 (.u (.u (.u (.cons rfl (.cons rfl (.cons rfl .nil)))))))
    have S25_8 : JA Tryz.prog ops1 7 (za 16 0x1ff) Γ1 ([(130, (aT 8 9 wv rb rr)), (131, .u), (132, .u), (133, .u), (134, .u), (135, .u), (136, .u), (137, .u), (138, (aWv 8 wv))] ++ F0) (aH s l d (aA sg false N) aHo [aHo, (aRw (lm wv)), (aRw rr)]) Q1 := by
      subst ho; subst hF; refine Bl 9 [14, 15] (B3 rfl rfl (hd 139 rfl)) hpan rfl ?_
      refine As S25_7 10 (.cons rfl (.v5 (.u (.u (.cons rfl (.cons rfl .nil))))))
    have S25_9 : JA Tryz.prog ops1 8 (za 16 0xff) Γ1 ([(130, (aT 8 9 wv rb rr)), (131, .u), (132, .u), (133, .u), (134, .u), (135, .u), (136, .u), (137, .u)] ++ F0) (aH s l d (aA sg false N) aHo [aHo, (aRw (lm wv)), (aRw rr)]) Q1 := by
      subst ho; subst hF; refine Bl 8 [13, 14, 15] (B3 rfl rfl (hd 138 rfl)) hpan rfl ?_
      refine As S25_8 9 (.cons rfl (.v5 (.u (.u (.cons rfl .nil)))))
    have S25_10 : JA Tryz.prog ops1 9 (za 16 0x7f) Γ1 ([(131, .u), (132, .u), (133, .u), (134, .u), (135, .u), (136, .u), (137, (aT 8 9 wv rb rr))] ++ F0) (aH s l d (aA sg false N) aHo [aHo, (aRw (lm wv)), (aRw rr)]) Q1 := by
      subst ho; subst hF; refine Bl 7 [8, 9, 10, 13, 14, 15] (Gt rfl (hd 130 rfl)) hpan rfl ?_
      refine As S25_9 8 (.cons rfl (.v5 (.u (.u .nil))))
    have S25_11 : JA Tryz.prog ops1 5 (za 16 0xbff) Γ1 ([(20, .p 6 1 0), (130, (aT 8 9 wv rb rr)), (131, .u), (132, .u), (133, .u), (134, .u), (135, .u), (136, .u), (137, .u), (138, (aWv 8 wv)), (139, (aWr 9 rb rr))] ++ F0) (aH s l d (aA sg false N) aE [aHo, (aRw (lm wv)), (aRw rr)]) Q1 := by
      subst ho; subst hF; refine Bl 10 [15] (B3 rfl rfl (hd 140 rfl)) hpan rfl ?_
      refine As S25_4 12 (.cons rfl (.v5 (.u (.u (.u (.cons rfl (.cons rfl (.cons rfl .nil))))))))
    have S25_12 : JA Tryz.prog ops1 6 (za 16 0x9ff) Γ1 ([(20, .p 6 1 0), (130, (aT 8 9 wv rb rr)), (131, .u), (132, .u), (133, .u), (134, .u), (135, .u), (136, .u), (137, .u), (138, (aWv 8 wv))] ++ F0) (aH s l d (aA sg false N) aE [aHo, (aRw (lm wv)), (aRw rr)]) Q1 := by
      subst ho; subst hF; refine Bl 9 [14, 15] (B3 rfl rfl (hd 139 rfl)) hpan rfl ?_
      refine As S25_11 11 (.cons rfl (.cons rfl (.v5 (.u (.u (.cons rfl (.cons rfl .nil)))))))
    have S25_13 : JA Tryz.prog ops1 7 (za 16 0x8ff) Γ1 ([(20, .p 6 1 0), (130, (aT 8 9 wv rb rr)), (131, .u), (132, .u), (133, .u), (134, .u), (135, .u), (136, .u), (137, .u)] ++ F0) (aH s l d (aA sg false N) aE [aHo, (aRw (lm wv)), (aRw rr)]) Q1 := by
      subst ho; subst hF; refine Bl 8 [13, 14, 15] (B3 rfl rfl (hd 138 rfl)) hpan rfl ?_
      refine As S25_12 10 (.cons rfl (.cons rfl (.v5 (.u (.u (.cons rfl .nil))))))
    have S25_14 : JA Tryz.prog ops1 8 (za 16 0x87f) Γ1 ([(20, .p 6 1 0), (131, .u), (132, .u), (133, .u), (134, .u), (135, .u), (136, .u), (137, (aT 8 9 wv rb rr))] ++ F0) (aH s l d (aA sg false N) aE [aHo, (aRw (lm wv)), (aRw rr)]) Q1 := by
      subst ho; subst hF; refine Bl 7 [8, 9, 10, 13, 14, 15] (Gt rfl (hd 130 rfl)) hpan rfl ?_
      refine As S25_13 9 (.cons rfl (.cons rfl (.v5 (.u (.u .nil)))))
    have S25_15 : JA Tryz.prog ops1 4 (za 16 0x1bff) Γ1 ([(20, .p 6 1 0), (21, .p 7 1 0), (130, (aT 8 9 wv rb rr)), (131, .u), (132, .u), (133, .u), (134, .u), (135, .u), (136, .u), (137, .u), (138, (aWv 8 wv)), (139, (aWr 9 rb rr))] ++ F0) (aH s l d (aA sg false N) aE [aE, (aRw (lm wv)), (aRw rr)]) Q1 := by
      subst ho; subst hF; refine Bl 10 [15] (B3 rfl rfl (hd 140 rfl)) hpan rfl ?_
      refine As S25_3 13 (.cons rfl (.cons rfl (.v5 (.u (.u (.u (.cons rfl (.cons rfl (.cons rfl .nil)))))))))
    have S25_16 : JA Tryz.prog ops1 5 (za 16 0x19ff) Γ1 ([(20, .p 6 1 0), (21, .p 7 1 0), (130, (aT 8 9 wv rb rr)), (131, .u), (132, .u), (133, .u), (134, .u), (135, .u), (136, .u), (137, .u), (138, (aWv 8 wv))] ++ F0) (aH s l d (aA sg false N) aE [aE, (aRw (lm wv)), (aRw rr)]) Q1 := by
      subst ho; subst hF; refine Bl 9 [14, 15] (B3 rfl rfl (hd 139 rfl)) hpan rfl ?_
      refine As S25_15 12 (.cons rfl (.cons rfl (.cons rfl (.v5 (.u (.u (.cons rfl (.cons rfl .nil))))))))
    have S25_17 : JA Tryz.prog ops1 6 (za 16 0x18ff) Γ1 ([(20, .p 6 1 0), (21, .p 7 1 0), (130, (aT 8 9 wv rb rr)), (131, .u), (132, .u), (133, .u), (134, .u), (135, .u), (136, .u), (137, .u)] ++ F0) (aH s l d (aA sg false N) aE [aE, (aRw (lm wv)), (aRw rr)]) Q1 := by
      subst ho; subst hF; refine Bl 8 [13, 14, 15] (B3 rfl rfl (hd 138 rfl)) hpan rfl ?_
      refine As S25_16 11 (.cons rfl (.cons rfl (.cons rfl (.v5 (.u (.u (.cons rfl .nil)))))))
    have S25_18 : JA Tryz.prog ops1 7 (za 16 0x187f) Γ1 ([(20, .p 6 1 0), (21, .p 7 1 0), (131, .u), (132, .u), (133, .u), (134, .u), (135, .u), (136, .u), (137, (aT 8 9 wv rb rr))] ++ F0) (aH s l d (aA sg false N) aE [aE, (aRw (lm wv)), (aRw rr)]) Q1 := by
      subst ho; subst hF; refine Bl 7 [8, 9, 10, 13, 14, 15] (Gt rfl (hd 130 rfl)) hpan rfl ?_
      refine As S25_17 10 (.cons rfl (.cons rfl (.cons rfl (.v5 (.u (.u .nil))))))
    have S25_19 : JA Tryz.prog ops1 8 (za 16 0x183f) Γ1 ([(20, .p 6 1 0), (21, .p 7 1 0), (131, .u), (132, .u), (133, .f F []), (134, .a [.b sg, .n false .u64 N]), (135, .u), (136, .a [.b false, .n false .u64 D])] ++ F0) (aH s l d (aA sg false N) aE [aE]) Q1 := by
      subst ho; subst hF
      refine Be 6 ?_ rfl (by kernel_rfl)
      refine Eu fnF hWay (fun o G ⟨_, h⟩ => h ▸ Ao Bc (Ao Bc A0)) rfl hfn hfb hfx (Aa rfl (Aa rfl Ad)) (.cons (.a1 .b (.a1 .n .a0)) (.cons (.a1 .b (.a1 .n .a0)) .nil)) (hd 137 rfl) ?_ (fun _ _ h => by simp at h)
      rintro y G ⟨hy, rfl⟩; injection hy with hy; subst hy
      show JA _ _ _ _ _ ((137, (aT 8 9 wv rb rr)) :: _) _ _
      refine As S25_18 9 (.cons rfl (.cons rfl (.v5 (.u (.cons rfl .nil)))))
    have S25_20 : JA Tryz.prog ops1 9 (za 16 0x83f) Γ1 ([(20, .p 6 1 0), (131, .u), (132, .u), (133, .f F []), (134, .a [.b sg, .n false .u64 N]), (135, .u), (136, .a [.b false, .n false .u64 D])] ++ F0) (aH s l d (aA sg false N) aE [aHo]) Q1 := by
      subst ho; subst hF
      refine J8 6 12 ?_ ?_ rfl rfl (by kernel_rfl)
      · refine Eu fnF hWay (fun o G ⟨_, h⟩ => h ▸ Ao Bc (Ao Bc A0)) rfl hfn hfb hfx (Aa rfl (Aa rfl Ad)) (.cons (.a1 .b (.a1 .n .a0)) (.cons (.a1 .b (.a1 .n .a0)) .nil)) (hd 137 rfl) ?_ (fun _ _ h => by simp at h)
        rintro y G ⟨hy, rfl⟩; injection hy with hy; subst hy
        show JA _ _ _ _ _ ((137, (aT 8 9 wv rb rr)) :: _) _ _
        refine As S25_14 8 (.cons rfl (.v5 (.u (.cons rfl .nil))))
      · refine Df (Ba (id := 7) Az (by decide) rfl (by decide) rfl) (hd 21 rfl) ?_
        refine As S25_19 8 (.cons rfl (.cons rfl (.u (.u (.cons rfl (.cons rfl (.u (.cons rfl .nil))))))))
    have S25_21 : JA Tryz.prog ops1 5 (za 16 0x13ff) Γ1 ([(21, .p 7 1 0), (130, (aT 8 9 wv rb rr)), (131, .u), (132, .u), (133, .u), (134, .u), (135, .u), (136, .u), (137, .u), (138, (aWv 8 wv)), (139, (aWr 9 rb rr))] ++ F0) (aH s l d (aA sg false N) aHo [aE, (aRw (lm wv)), (aRw rr)]) Q1 := by
      subst ho; subst hF; refine Bl 10 [15] (B3 rfl rfl (hd 140 rfl)) hpan rfl ?_
      refine As S25_5 12 (.cons rfl (.v5 (.u (.u (.u (.cons rfl (.cons rfl (.cons rfl .nil))))))))
    have S25_22 : JA Tryz.prog ops1 6 (za 16 0x11ff) Γ1 ([(21, .p 7 1 0), (130, (aT 8 9 wv rb rr)), (131, .u), (132, .u), (133, .u), (134, .u), (135, .u), (136, .u), (137, .u), (138, (aWv 8 wv))] ++ F0) (aH s l d (aA sg false N) aHo [aE, (aRw (lm wv)), (aRw rr)]) Q1 := by
      subst ho; subst hF; refine Bl 9 [14, 15] (B3 rfl rfl (hd 139 rfl)) hpan rfl ?_
      refine As S25_21 11 (.cons rfl (.cons rfl (.v5 (.u (.u (.cons rfl (.cons rfl .nil)))))))
    have S25_23 : JA Tryz.prog ops1 7 (za 16 0x10ff) Γ1 ([(21, .p 7 1 0), (130, (aT 8 9 wv rb rr)), (131, .u), (132, .u), (133, .u), (134, .u), (135, .u), (136, .u), (137, .u)] ++ F0) (aH s l d (aA sg false N) aHo [aE, (aRw (lm wv)), (aRw rr)]) Q1 := by
      subst ho; subst hF; refine Bl 8 [13, 14, 15] (B3 rfl rfl (hd 138 rfl)) hpan rfl ?_
      refine As S25_22 10 (.cons rfl (.cons rfl (.v5 (.u (.u (.cons rfl .nil))))))
    have S25_24 : JA Tryz.prog ops1 8 (za 16 0x107f) Γ1 ([(21, .p 7 1 0), (131, .u), (132, .u), (133, .u), (134, .u), (135, .u), (136, .u), (137, (aT 8 9 wv rb rr))] ++ F0) (aH s l d (aA sg false N) aHo [aE, (aRw (lm wv)), (aRw rr)]) Q1 := by
      subst ho; subst hF; refine Bl 7 [8, 9, 10, 13, 14, 15] (Gt rfl (hd 130 rfl)) hpan rfl ?_
      refine As S25_23 9 (.cons rfl (.cons rfl (.v5 (.u (.u .nil)))))
    have S25_25 : JA Tryz.prog ops1 9 (za 16 0x103f) Γ1 ([(21, .p 7 1 0), (131, .u), (132, .u), (133, .f F []), (134, .a [.b sg, .n false .u64 N]), (135, .u), (136, .a [.b false, .n false .u64 D])] ++ F0) (aH s l d (aA sg false N) aHo [aE]) Q1 := by
      subst ho; subst hF
      refine J8 6 11 ?_ ?_ rfl rfl (by kernel_rfl)
      · refine Eu fnF hWay (fun o G ⟨_, h⟩ => h ▸ Ao Bc (Ao Bc A0)) rfl hfn hfb hfx (Aa rfl (Aa rfl Ad)) (.cons (.a1 .b (.a1 .n .a0)) (.cons (.a1 .b (.a1 .n .a0)) .nil)) (hd 137 rfl) ?_ (fun _ _ h => by simp at h)
        rintro y G ⟨hy, rfl⟩; injection hy with hy; subst hy
        show JA _ _ _ _ _ ((137, (aT 8 9 wv rb rr)) :: _) _ _
        refine As S25_24 8 (.cons rfl (.v5 (.u (.cons rfl .nil))))
      · refine Df (Ba (id := 6) Az (by decide) rfl (by decide) rfl) (hd 20 rfl) ?_
        refine As S25_19 8 (.cons rfl (.cons rfl (.u (.u (.cons rfl (.cons rfl (.u (.cons rfl .nil))))))))
    have S25_26 : JA Tryz.prog ops1 10 (za 16 0x3f) Γ1 ([(131, .u), (132, .u), (133, .f F []), (134, .a [.b sg, .n false .u64 N]), (135, .u), (136, .a [.b false, .n false .u64 D])] ++ F0) (aH s l d (aA sg false N) aHo [aHo]) Q1 := by
      subst ho; subst hF
      refine Aeh 6 11 12 ?_ ?_ ?_ rfl rfl rfl (by kernel_rfl)
      · refine Eu fnF hWay (fun o G ⟨_, h⟩ => h ▸ Ao Bc (Ao Bc A0)) rfl hfn hfb hfx (Aa rfl (Aa rfl Ad)) (.cons (.a1 .b (.a1 .n .a0)) (.cons (.a1 .b (.a1 .n .a0)) .nil)) (hd 137 rfl) ?_ (fun _ _ h => by simp at h)
        rintro y G ⟨hy, rfl⟩; injection hy with hy; subst hy
        show JA _ _ _ _ _ ((137, (aT 8 9 wv rb rr)) :: _) _ _
        refine As S25_10 7 (.v5 (.u (.cons rfl .nil)))
      · refine Df (Ba (id := 6) Az (by decide) rfl (by decide) rfl) (hd 20 rfl) ?_
        refine As S25_20 7 (.cons rfl (.u (.u (.cons rfl (.cons rfl (.u (.cons rfl .nil)))))))
      · refine Df (Ba (id := 7) Az (by decide) rfl (by decide) rfl) (hd 21 rfl) ?_
        refine As S25_25 7 (.cons rfl (.u (.u (.cons rfl (.cons rfl (.u (.cons rfl .nil)))))))
    have S25_27 : JA Tryz.prog ops1 11 (za 16 0x1f) Γ1 ([(131, .u), (132, .u), (133, .f F []), (134, .a [.b sg, .n false .u64 N]), (135, .n false .u64 D)] ++ F0) (aH s l d (aA sg false N) aHo [aHo]) Q1 := by
      subst ho; subst hF; refine Bl 5 [6, 7, 8, 9, 10, 13, 14, 15] (Am (Bp (is := [1]) (xs := [.tmp 135]) Az G8 rfl (Aa rfl Ad) rfl (by first | (simp [Ci, cellsV]; done) | (simp [Ci, cellsV, old]; done)) (Cd rfl) rfl) (hd 136 rfl)) hpan rfl ?_
      refine As S25_26 6 (.u (.u (.cons rfl (.cons rfl (.u (.cons rfl .nil))))))
    have S25_28 : JA Tryz.prog ops1 12 (za 16 0xf) Γ1 ([(131, .u), (132, .u), (133, .f F []), (134, .a [.b sg, .n false .u64 N])] ++ F0) (aH s l d (aA sg false N) aHo [aHo]) Q1 := by
      subst ho; subst hF; refine Bl 4 [5, 6, 7, 8, 9, 10, 13, 14, 15] (Gt rfl (hd 135 rfl)) hpan rfl ?_
      refine As S25_27 5 (.u (.u (.cons rfl (.cons rfl (.cons rfl .nil)))))
    have S25_29 : JA Tryz.prog ops1 13 (za 16 0x7) Γ1 ([(131, .u), (132, .u), (133, .f F [])] ++ F0) (aH s l d (aA sg false N) aHo [aHo]) Q1 := by
      subst ho; subst hF; refine Bl 3 [6, 7, 8, 9, 10, 13, 14, 15] (Am (Au Bw rfl rfl rfl rfl) (hd 134 rfl)) hpan rfl ?_
      refine As S25_28 4 (.u (.u (.cons rfl (.cons rfl .nil))))
    have S25_30 : JA Tryz.prog ops1 14 (za 16 0x3) Γ1 ([(131, .u), (132, .p 4 0 m)] ++ F0) (aH s l d (aA sg false N) aHo [aHo]) Q1 := by
      subst ho; subst hF; refine Bl 2 [6, 7, 8, 9, 10, 13, 14, 15] (Am (A9 Ads rfl rfl hcell) (hd 133 rfl)) hpan rfl ?_
      refine As S25_29 3 (.u (.u (.cons rfl .nil)))
    have S25_31 : JA Tryz.prog ops1 15 (za 16 0x1) Γ1 ([(131, .i .i64 (m : Int))] ++ F0) (aH s l d (aA sg false N) aHo [aHo]) Q1 := by
      subst ho; subst hF; refine Bl 1 [2, 6, 7, 8, 9, 10, 13, 14, 15] (Am (Vh (i := m) (r := m) W1 rfl rfl rfl rfl hm (by omega)) (hd 132 rfl)) hpan rfl ?_
      refine As S25_30 2 (.u (.cons rfl .nil))
    have S25_32 : JA Tryz.prog ops1 16 (za 16 0x0) Γ1 ([] ++ F0) (aH s l d (aA sg false N) aHo [aHo]) Q1 := by
      subst ho; subst hF; refine Bl 0 [1, 2, 6, 7, 8, 9, 10, 13, 14, 15] (Gt rfl (hd 131 rfl)) hpan rfl ?_
      refine As S25_31 1 (.cons rfl .nil)
    subst ho; subst hF
    exact As (m := []) S25_32 0 .nil

theorem Akt (m : Nat) (F : FuncId) (fnF : Func) (hm : m < 3) (hcell : [V.f 26 [], V.f 27 [], V.f 28 []][m]? = some (V.f F [])) (hfn : Tryz.prog.funcs[F]? = some fnF) (hfb : fnF.body.isSome = true) (hfx : (fnF.name == "runtime.NumGoroutine") = false) (s : Bool) (l d : List Int) (n : Int) (y0 : Nat) (hy0 : Rw d y0) (h00 : y0 ≠ 0) (hn8 : -1099511627776 ≤ n) (hn9 : n ≤ 1099511627776) (sg : Bool) (p q : Nat) (lp : Al (p : Int) ≤ 67108864) (lq : Al (q : Int) ≤ 67108864) (hPa : Spec Tryz.prog 29 [(.a [.b s, .n false .u64 l, .n false .u64 d])] (fun o => o = .ret (.t [.b sg, .n false .u64 (lm ((p : Nat) : Int)), .n false .u64 (lm ((q : Nat) : Int))]))) (hp : p ≠ 0) (hn : 0 < n) (hov : ¬ (Al (p : Int) : Int) - (Al (q : Int) : Int) + n > 67108865) (N D : List Int) (hRi : Spec Tryz.prog 33 [.n false .u64 (lm ((q : Nat) : Int)), .i .i64 (((min n.toNat (tz q)) : Nat) : Int)] (fun o => o = .ret (.t [.n false .u64 D, .i .i64 0]))) (hLf : Spec Tryz.prog 34 [.n false .u64 (lm ((p : Nat) : Int)), .i .i64 ((n.toNat - (min n.toNat (tz q)) : Nat) : Int)] (fun o => o = .ret (.t [.n false .u64 N, .i .i64 0]))) (hWay : Spec Tryz.prog F [.a [.b sg, .n false .u64 N], .a [.b false, .n false .u64 D]] (fun o => o = .ret (.t [(.a [.b false, .n false .u64 []]), (.a [.b false, .n false .u64 []]), .i .i64 3]))) : SpecT Tryz.prog 6 0 tzCells [(.a [.b s, .n false .u64 l, .n false .u64 d]), .i .i64 n, .i .i64 (m : Int)] (fun o => o = .ret (.t [(.a [.b false, .n false .u64 []]), .i .i64 3])) := by
  refine Ig [(0, (.a [.b s, .n false .u64 l, .n false .u64 d])), (1, .i .i64 n), (2, .i .i64 (m : Int))] rfl Tryz.func6 rfl (Zb rfl) fun Γ 𝓡 hTb hN hds hL hR hE => ?_
  have hd := B2 146 hN
  have hl0 := mt lm_len0.1 hp
  have hLP : Spec Tryz.prog 30 [.n false .u64 (lm ((p : Nat) : Int))] (fun o => o = .ret (.i .i64 (Al (p : Int) : Int))) := Dd (p : Int) (by have := Bv lp; omega)
  have hLQ : Spec Tryz.prog 30 [.n false .u64 (lm ((q : Nat) : Int))] (fun o => o = .ret (.i .i64 (Al (q : Int) : Int))) := Dd (q : Int) (by have := Bv lq; omega)
  have hTq : SpecT Tryz.prog 31 0 tzCells [.n false .u64 (lm ((q : Nat) : Int))] (fun o => o = .ret (.i .i64 ((tz q : Nat) : Int))) := by have h := P8 (lm ((q : Nat) : Int)) (by have := Bv lq; omega) (Cu _); rwa [Gb (Int.natCast_nonneg _), Int.toNat_natCast] at h
  refine Dr <| Af <| A1 (Bn (id := 0) (n := 3) rfl rfl rfl (by decide) rfl) (hd 3 rfl) <| A1 (Aq (id := 1) Az (by decide) rfl (by decide) rfl) (hd 6 rfl) <| A1 (Aq (id := 2) Ep (by decide) rfl (by decide) rfl) (hd 7 rfl) <| Ab <| Fn (g := 23) (caps := [.p 1 0 0, .p 2 0 0]) 3 [_] (ops := [_, _]) rfl Tryz.func23 rfl rfl rfl hds hR hL hE <| Ac (F5 (Aa rfl (Aa rfl Ad))) (hd 23 rfl) <| Ab ?_
  refine ⟨rfl, rfl, rfl, ?_⟩
  intro Γ1 hN1 hw1 hM1 hL hR1
  replace hTb : TabR 0 tzCells Γ1.w0 Γ1.M := by rw [hw1, hM1]; exact hTb
  replace hd : ∀ d, Nat.blt d 146 = true → d < Γ1.N := fun d h => by rw [hN1]; exact hd d h
  refine Ab <| Zs <| Ac (Au Ap rfl rfl rfl rfl) (hd 24 rfl) <| A1 (Do (id := 3) (xs := [.tmp 24]) E0 rfl (Aa rfl Ad) rfl (Cz rfl) (by decide) rfl) (hd 25 rfl) <| Dy 25 (sz := 3) [[V.b s, V.n false .u64 l, V.n false .u64 d]] rfl rfl rfl rfl (by simp) (by simp [Ef]) (by decide) hL ?_
  refine Ag Tryz.f25 (Io s l d y0 hy0 h00) rfl Tryz.func25 rfl rfl (Aa rfl Ad) (.cons .l .nil) (hd 26 rfl) ?_ (fun _ h => by simp at h)
  rintro _ ⟨⟩; refine Ab <| Ae <| Zs <| Zm rfl (hd 27 rfl) <| Ac (B0 (Ca rfl rfl) (by omega)) (hd 28 rfl) <| Zm rfl (hd 29 rfl) <| Bi 29 rfl rfl (Ay rfl) (hd 30 rfl) <| Bi 29 rfl rfl (B0 (Ce rfl rfl) (by omega)) (hd 31 rfl) <| Ac (Bg rfl rfl) (hd 32 rfl) <| Ab <| A6 rfl <| Aj ?_; refine Ae <| Zs <| Zm rfl (hd 34 rfl) <| Ac (B0 (Ca rfl rfl) (by omega)) (hd 35 rfl) <| Zm rfl (hd 36 rfl) <| Bi 36 rfl rfl (Ay rfl) (hd 37 rfl) <| Bi 36 rfl rfl (B0 (Ce rfl rfl) (by omega)) (hd 38 rfl) <| Ac (Bg rfl rfl) (hd 39 rfl) <| Ab <| A6 rfl <| Aj <| Ae ?_; refine Af <| Ac (Im (v := .agg #[.func (.func 26) #[] #[], .func (.func 27) #[] #[], .func (.func 28) #[] #[]]) (y := .a [.f 26 [], .f 27 [], .f 28 []]) (fun _ _ _ _ => ⟨[.func (.func 26) #[] #[], .func (.func 27) #[] #[], .func (.func 28) #[] #[]], rfl, _, _, rfl, ⟨[], rfl, rfl⟩, _, _, rfl, ⟨[], rfl, rfl⟩, _, _, rfl, ⟨[], rfl, rfl⟩, rfl⟩) (by intro a dst type pos after g w2; kernel_rfl)) (hd 41 rfl) <| A1 (Aq (id := 4) Jr (by decide) rfl (by decide) rfl) (hd 8 rfl) <| A3 (Ah rfl rfl rfl Mt rfl rfl (Zb rfl)) <| Ab <| Zs <| Ac (Au Ap rfl rfl rfl rfl) (hd 43 rfl) ?_
  refine Ag Tryz.f29 (hPa) rfl Tryz.func29 rfl rfl (Aa rfl Ad) (.cons (.a1 .b (.a1 .n (.a1 .n .a0))) .nil) (hd 44 rfl) ?_ (fun _ h => by simp at h)
  rintro _ ⟨⟩; refine Zm rfl (hd 42 rfl) <| Ac (Ai rfl rfl) (hd 45 rfl) <| Ac (Ai rfl rfl) (hd 46 rfl) <| Ac (Ai rfl rfl) (hd 47 rfl) <| Za rfl (hd 9 rfl) <| Za rfl (hd 10 rfl) <| Za rfl (hd 11 rfl) <| Ab <| Zs <| Zm rfl (hd 48 rfl) <| Zm rfl (hd 49 rfl) <| Ac (Bp (is := [0, 1]) (xs := [.tmp 48, .tmp 49]) Az C0 rfl (Aa rfl (Aa rfl Ad)) rfl (by first | (simp [Ci, cellsV]; done) | (simp [Ci, cellsV, old]; done)) (Cd rfl) rfl) (hd 50 rfl) ?_; refine A1 (Aq (id := 5) Az (by decide) rfl (by decide) rfl) (hd 12 rfl) <| A3 (Ah rfl rfl rfl B6 rfl rfl (Zb rfl)) <| Ab <| Ae <| Zs <| Zm rfl (hd 51 rfl) <| Ac (Ar A7 rfl) (hd 52 rfl) <| Ac (B0 (Cq rfl rfl) (by omega)) (hd 53 rfl) <| Ab <| A6 rfl <| Aj <| Ae ?_; refine Zs <| Zm rfl (hd 55 rfl) <| Ac (E6 (Ce rfl rfl) (by omega)) (hd 56 rfl) <| Ab <| Cw rfl <| Ae <| Zs <| Zm rfl (hd 57 rfl) ?_
  refine Ag Tryz.f30 (hLP) rfl Tryz.func30 rfl rfl (Aa rfl Ad) (.cons .n .nil) (hd 58 rfl) ?_ (fun _ h => by simp at h)
  rintro _ ⟨⟩; refine Zm rfl (hd 59 rfl) ?_
  refine Ag Tryz.f30 (hLQ) rfl Tryz.func30 rfl rfl (Aa rfl Ad) (.cons .n .nil) (hd 60 rfl) ?_ (fun _ h => by simp at h)
  rintro _ ⟨⟩; refine Ac (Bm rfl rfl (r := (Al (p : Int) : Int) - (Al (q : Int) : Int)) (by rw [Ak (by omega) (by omega)] <;> omega)) (hd 61 rfl) <| Zm rfl (hd 62 rfl) <| Ac (Bd rfl rfl (r := (Al (p : Int) : Int) - (Al (q : Int) : Int) + n) (by rw [Ak (by omega) (by omega)] <;> omega)) (hd 63 rfl) <| Ac (B0 (Ce rfl rfl) (fun h => hov h)) (hd 64 rfl) <| Ab <| A6 rfl <| Aj <| Zs <| Zm rfl (hd 66 rfl) <| Zm rfl (hd 67 rfl) ?_
  refine Is Tryz.f31 (hTq) hL hTb rfl Tryz.func31 rfl rfl (Aa rfl Ad) (.cons .n .nil) (hd 68 rfl) ?_ (fun _ h => by simp at h)
  rintro _ ⟨⟩; refine Ac (Bk (Ou rfl rfl) (show V.i .i64 _ = V.i .i64 (((min n.toNat (tz q)) : Nat) : Int) by clear hcell hfn hfb hfx; congr 1; omega)) (hd 69 rfl) <| Za rfl (hd 13 rfl) <| Ab <| Zs <| Zm rfl (hd 70 rfl) <| Zm rfl (hd 71 rfl) ?_
  refine Ag Tryz.f33 (hRi) rfl Tryz.func33 rfl rfl (Aa rfl (Aa rfl Ad)) (.cons .n (.cons .i .nil)) (hd 72 rfl) ?_ (fun _ h => by simp at h)
  rintro _ ⟨⟩; refine Ac (Ai rfl rfl) (hd 73 rfl) <| Ac (Ai rfl rfl) (hd 74 rfl) ?_
  refine Ag Tryz.f32 (Gr _) rfl Tryz.func32 rfl rfl (Aa rfl (Aa rfl Ad)) (.cons .n (.cons .i .nil)) (hd 75 rfl) ?_ (fun _ h => by simp at h)
  rintro _ ⟨⟩; refine Za rfl (hd 11 rfl) <| Ab <| Af <| Zm rfl (hd 76 rfl) <| Zm rfl (hd 77 rfl) <| Zm rfl (hd 78 rfl) <| Ac (Bm rfl rfl (r := ((n.toNat - (min n.toNat (tz q)) : Nat) : Int)) (by rw [Ak (by omega) (by omega)] <;> omega)) (hd 79 rfl) ?_
  refine Ag Tryz.f34 (hLf) rfl Tryz.func34 rfl rfl (Aa rfl (Aa rfl Ad)) (.cons .n (.cons .i .nil)) (hd 80 rfl) ?_ (fun _ h => by simp at h)
  rintro _ ⟨⟩; refine Ac (Ai rfl rfl) (hd 81 rfl) <| Ac (Ai rfl rfl) (hd 82 rfl) ?_
  refine Ag Tryz.f32 (Gr _) rfl Tryz.func32 rfl rfl (Aa rfl (Aa rfl Ad)) (.cons .n (.cons .i .nil)) (hd 83 rfl) ?_ (fun _ h => by simp at h)
  rintro _ ⟨⟩; refine Ac (A5 By rfl rfl rfl) (hd 84 rfl) <| A3 (Ah rfl rfl rfl Acz rfl rfl (Zb rfl)) <| Ab <| Ae <| C7 <| Jb 2 _ <| Bo (n := 16) _ rfl B9 ?_; refine L5 (fun _ _ _ _ h => h) fun ops1 Q1 F0 hpan ho hq hF => ?_
  have S25_0 : JA Tryz.prog ops1 0 (za 16 0xffff) Γ1 ([(20, .p 6 1 0), (21, .p 7 1 0), (22, .i .i64 3), (130, .u), (131, .u), (132, .u), (133, .u), (134, .u), (135, .u), (136, .u), (137, .u), (138, .u), (139, .u), (140, .u)] ++ F0) (aH s l d (aA sg false N) aOZ [aOZ]) Q1 := by
    subst ho; subst hq; subst hF; refine Bx (by kernel_rfl) <| Ae <| Zs <| Zm rfl (hd 141 rfl) <| Ac (E6 (Ec rfl rfl) (by decide)) (hd 142 rfl) <| Ab <| Cw rfl <| Zs <| Ac (Bp (is := []) (xs := []) (pls := []) Az Hr rfl Ad rfl trivial (Cd rfl) rfl) (hd 143 rfl) <| Zm rfl (hd 144 rfl) <| A3 (Ah rfl rfl rfl B6 rfl rfl (Zb rfl)) ?_; refine A3 (Ah rfl rfl rfl E5 rfl rfl (Zb rfl)) <| Ab <| An <| Clo.fin Ka (m := 3) (i := 1) (j := 2) (Zb rfl) rfl rfl rfl rfl ?_
    refine ⟨_, _, (.cons (ResV.cell Bw rfl rfl rfl rfl) (.cons (ResV.cell1 Cr rfl rfl rfl) .nil)), (.t1 (.a1 .b (.a1 (.nil (fr := false) (k := .u64)) .a0)) (.t1 .i .t0)), ?_⟩
    exact rfl
  have S25_1 : JA Tryz.prog ops1 1 (za 16 0x7fff) Γ1 ([(20, .p 6 1 0), (21, .p 7 1 0), (130, .u), (131, .u), (132, .u), (133, .u), (134, .u), (135, .u), (136, .u), (137, .u), (138, .u), (139, .u), (140, .i .i64 3)] ++ F0) (aH s l d (aA sg false N) aOZ [aOZ]) Q1 := by
    subst ho; subst hF; refine Bl 15 [] (Aea rfl (hd 22 rfl)) hpan rfl ?_
    refine As S25_0 14 (.cons rfl (.cons rfl (.cons rfl (.v9 (.u .nil)))))
  have S25_2 : JA Tryz.prog ops1 2 (za 16 0x3fff) Γ1 ([(20, .p 6 1 0), (21, .p 7 1 0), (130, .u), (131, .u), (132, .u), (133, .u), (134, .u), (135, .u), (136, .u), (137, .u), (138, .u), (139, aZ), (140, .i .i64 3)] ++ F0) (aH s l d (aA sg false N) aOZ [aE]) Q1 := by
    subst ho; subst hF
    refine Be 14 ?_ rfl (by kernel_rfl)
    refine Cl (Ah rfl rfl rfl B6 rfl rfl (Zb rfl)) rfl ?_
    refine As S25_1 13 (.cons rfl (.cons rfl (.v9 (.cons rfl .nil))))
  have S25_3 : JA Tryz.prog ops1 3 (za 16 0x1fff) Γ1 ([(20, .p 6 1 0), (21, .p 7 1 0), (130, .u), (131, .u), (132, .u), (133, .u), (134, .u), (135, .u), (136, .u), (137, .u), (138, aZ), (139, aZ), (140, .i .i64 3)] ++ F0) (aH s l d (aA sg false N) aE [aE]) Q1 := by
    subst ho; subst hF
    refine Be 13 ?_ rfl (by kernel_rfl)
    refine Cl (Ah rfl rfl rfl B6 rfl rfl (Zb rfl)) rfl ?_
    refine As S25_2 13 (.cons rfl (.cons rfl (.v5 (.u (.u (.u (.u (.cons rfl (.cons rfl .nil)))))))))
  have S25_4 : JA Tryz.prog ops1 4 (za 16 0xfff) Γ1 ([(20, .p 6 1 0), (130, .u), (131, .u), (132, .u), (133, .u), (134, .u), (135, .u), (136, .u), (137, .u), (138, aZ), (139, aZ), (140, .i .i64 3)] ++ F0) (aH s l d (aA sg false N) aE [aHo]) Q1 := by
    subst ho; subst hF
    refine Be 12 ?_ rfl (by kernel_rfl)
    refine Df (Ba (id := 7) Az (by decide) rfl (by decide) rfl) (hd 21 rfl) ?_
    refine As S25_3 13 (.cons rfl (.cons rfl (.v5 (.u (.u (.u (.cons rfl (.cons rfl (.cons rfl .nil)))))))))
  have S25_5 : JA Tryz.prog ops1 4 (za 16 0x17ff) Γ1 ([(21, .p 7 1 0), (130, .u), (131, .u), (132, .u), (133, .u), (134, .u), (135, .u), (136, .u), (137, .u), (138, aZ), (139, aZ), (140, .i .i64 3)] ++ F0) (aH s l d (aA sg false N) aHo [aE]) Q1 := by
    subst ho; subst hF
    refine Be 11 ?_ rfl (by kernel_rfl)
    refine Df (Ba (id := 6) Az (by decide) rfl (by decide) rfl) (hd 20 rfl) ?_
    refine As S25_3 13 (.cons rfl (.cons rfl (.v5 (.u (.u (.u (.cons rfl (.cons rfl (.cons rfl .nil)))))))))
  have S25_6 : JA Tryz.prog ops1 5 (za 16 0x7ff) Γ1 ([(130, .u), (131, .u), (132, .u), (133, .u), (134, .u), (135, .u), (136, .u), (137, .u), (138, aZ), (139, aZ), (140, .i .i64 3)] ++ F0) (aH s l d (aA sg false N) aHo [aHo]) Q1 := by
    subst ho; subst hF
    refine J8 11 12 ?_ ?_ rfl rfl (by kernel_rfl)
    · refine Df (Ba (id := 6) Az (by decide) rfl (by decide) rfl) (hd 20 rfl) ?_
      refine As S25_4 12 (.cons rfl (.v5 (.u (.u (.u (.cons rfl (.cons rfl (.cons rfl .nil))))))))
    · refine Df (Ba (id := 7) Az (by decide) rfl (by decide) rfl) (hd 21 rfl) ?_
      refine As S25_5 12 (.cons rfl (.v5 (.u (.u (.u (.cons rfl (.cons rfl (.cons rfl .nil))))))))
  have S25_7 : JA Tryz.prog ops1 6 (za 16 0x3ff) Γ1 ([(130, aTz), (131, .u), (132, .u), (133, .u), (134, .u), (135, .u), (136, .u), (137, .u), (138, aZ), (139, aZ)] ++ F0) (aH s l d (aA sg false N) aHo [aHo]) Q1 := by
    subst ho; subst hF; refine Bl 10 [15] (B3 rfl rfl (hd 140 rfl)) hpan rfl ?_
    refine As S25_6 11 (.v5 (.u (.u (.u (.cons rfl (.cons rfl (.cons rfl .nil)))))))
  have S25_8 : JA Tryz.prog ops1 7 (za 16 0x1ff) Γ1 ([(130, aTz), (131, .u), (132, .u), (133, .u), (134, .u), (135, .u), (136, .u), (137, .u), (138, aZ)] ++ F0) (aH s l d (aA sg false N) aHo [aHo]) Q1 := by
    subst ho; subst hF; refine Bl 9 [14, 15] (B3 rfl rfl (hd 139 rfl)) hpan rfl ?_
    refine As S25_7 10 (.cons rfl (.v5 (.u (.u (.cons rfl (.cons rfl .nil))))))
  have S25_9 : JA Tryz.prog ops1 8 (za 16 0xff) Γ1 ([(130, aTz), (131, .u), (132, .u), (133, .u), (134, .u), (135, .u), (136, .u), (137, .u)] ++ F0) (aH s l d (aA sg false N) aHo [aHo]) Q1 := by
    subst ho; subst hF; refine Bl 8 [13, 14, 15] (B3 rfl rfl (hd 138 rfl)) hpan rfl ?_
    refine As S25_8 9 (.cons rfl (.v5 (.u (.u (.cons rfl .nil)))))
  have S25_10 : JA Tryz.prog ops1 9 (za 16 0x7f) Γ1 ([(131, .u), (132, .u), (133, .u), (134, .u), (135, .u), (136, .u), (137, aTz)] ++ F0) (aH s l d (aA sg false N) aHo [aHo]) Q1 := by
    subst ho; subst hF; refine Bl 7 [8, 9, 10, 13, 14, 15] (Gt rfl (hd 130 rfl)) hpan rfl ?_
    refine As S25_9 8 (.cons rfl (.v5 (.u (.u .nil))))
  have S25_11 : JA Tryz.prog ops1 5 (za 16 0xbff) Γ1 ([(20, .p 6 1 0), (130, aTz), (131, .u), (132, .u), (133, .u), (134, .u), (135, .u), (136, .u), (137, .u), (138, aZ), (139, aZ)] ++ F0) (aH s l d (aA sg false N) aE [aHo]) Q1 := by
    subst ho; subst hF; refine Bl 10 [15] (B3 rfl rfl (hd 140 rfl)) hpan rfl ?_
    refine As S25_4 12 (.cons rfl (.v5 (.u (.u (.u (.cons rfl (.cons rfl (.cons rfl .nil))))))))
  have S25_12 : JA Tryz.prog ops1 6 (za 16 0x9ff) Γ1 ([(20, .p 6 1 0), (130, aTz), (131, .u), (132, .u), (133, .u), (134, .u), (135, .u), (136, .u), (137, .u), (138, aZ)] ++ F0) (aH s l d (aA sg false N) aE [aHo]) Q1 := by
    subst ho; subst hF; refine Bl 9 [14, 15] (B3 rfl rfl (hd 139 rfl)) hpan rfl ?_
    refine As S25_11 11 (.cons rfl (.cons rfl (.v5 (.u (.u (.cons rfl (.cons rfl .nil)))))))
  have S25_13 : JA Tryz.prog ops1 7 (za 16 0x8ff) Γ1 ([(20, .p 6 1 0), (130, aTz), (131, .u), (132, .u), (133, .u), (134, .u), (135, .u), (136, .u), (137, .u)] ++ F0) (aH s l d (aA sg false N) aE [aHo]) Q1 := by
    subst ho; subst hF; refine Bl 8 [13, 14, 15] (B3 rfl rfl (hd 138 rfl)) hpan rfl ?_
    refine As S25_12 10 (.cons rfl (.cons rfl (.v5 (.u (.u (.cons rfl .nil))))))
  have S25_14 : JA Tryz.prog ops1 8 (za 16 0x87f) Γ1 ([(20, .p 6 1 0), (131, .u), (132, .u), (133, .u), (134, .u), (135, .u), (136, .u), (137, aTz)] ++ F0) (aH s l d (aA sg false N) aE [aHo]) Q1 := by
    subst ho; subst hF; refine Bl 7 [8, 9, 10, 13, 14, 15] (Gt rfl (hd 130 rfl)) hpan rfl ?_
    refine As S25_13 9 (.cons rfl (.cons rfl (.v5 (.u (.u .nil)))))
  have S25_15 : JA Tryz.prog ops1 4 (za 16 0x1bff) Γ1 ([(20, .p 6 1 0), (21, .p 7 1 0), (130, aTz), (131, .u), (132, .u), (133, .u), (134, .u), (135, .u), (136, .u), (137, .u), (138, aZ), (139, aZ)] ++ F0) (aH s l d (aA sg false N) aE [aE]) Q1 := by
    subst ho; subst hF; refine Bl 10 [15] (B3 rfl rfl (hd 140 rfl)) hpan rfl ?_
    refine As S25_3 13 (.cons rfl (.cons rfl (.v5 (.u (.u (.u (.cons rfl (.cons rfl (.cons rfl .nil)))))))))
  have S25_16 : JA Tryz.prog ops1 5 (za 16 0x19ff) Γ1 ([(20, .p 6 1 0), (21, .p 7 1 0), (130, aTz), (131, .u), (132, .u), (133, .u), (134, .u), (135, .u), (136, .u), (137, .u), (138, aZ)] ++ F0) (aH s l d (aA sg false N) aE [aE]) Q1 := by
    subst ho; subst hF; refine Bl 9 [14, 15] (B3 rfl rfl (hd 139 rfl)) hpan rfl ?_
    refine As S25_15 12 (.cons rfl (.cons rfl (.cons rfl (.v5 (.u (.u (.cons rfl (.cons rfl .nil))))))))
  have S25_17 : JA Tryz.prog ops1 6 (za 16 0x18ff) Γ1 ([(20, .p 6 1 0), (21, .p 7 1 0), (130, aTz), (131, .u), (132, .u), (133, .u), (134, .u), (135, .u), (136, .u), (137, .u)] ++ F0) (aH s l d (aA sg false N) aE [aE]) Q1 := by
    subst ho; subst hF; refine Bl 8 [13, 14, 15] (B3 rfl rfl (hd 138 rfl)) hpan rfl ?_
    refine As S25_16 11 (.cons rfl (.cons rfl (.cons rfl (.v5 (.u (.u (.cons rfl .nil)))))))
  have S25_18 : JA Tryz.prog ops1 7 (za 16 0x187f) Γ1 ([(20, .p 6 1 0), (21, .p 7 1 0), (131, .u), (132, .u), (133, .u), (134, .u), (135, .u), (136, .u), (137, aTz)] ++ F0) (aH s l d (aA sg false N) aE [aE]) Q1 := by
    subst ho; subst hF; refine Bl 7 [8, 9, 10, 13, 14, 15] (Gt rfl (hd 130 rfl)) hpan rfl ?_
    refine As S25_17 10 (.cons rfl (.cons rfl (.cons rfl (.v5 (.u (.u .nil))))))
  have S25_19 : JA Tryz.prog ops1 8 (za 16 0x183f) Γ1 ([(20, .p 6 1 0), (21, .p 7 1 0), (131, .u), (132, .u), (133, .f F []), (134, .a [.b sg, .n false .u64 N]), (135, .u), (136, .a [.b false, .n false .u64 D])] ++ F0) (aH s l d (aA sg false N) aE [aE]) Q1 := by
    subst ho; subst hF
    refine Be 6 ?_ rfl (by kernel_rfl)
    refine Ax fnF hWay rfl hfn hfb hfx (Aa rfl (Aa rfl Ad)) (.cons (.a1 .b (.a1 .n .a0)) (.cons (.a1 .b (.a1 .n .a0)) .nil)) (hd 137 rfl) ?_ (fun _ h => by simp at h)
    rintro y hy; injection hy with hy; subst hy
    refine As S25_18 9 (.cons rfl (.cons rfl (.v5 (.u (.cons rfl .nil)))))
  have S25_20 : JA Tryz.prog ops1 9 (za 16 0x83f) Γ1 ([(20, .p 6 1 0), (131, .u), (132, .u), (133, .f F []), (134, .a [.b sg, .n false .u64 N]), (135, .u), (136, .a [.b false, .n false .u64 D])] ++ F0) (aH s l d (aA sg false N) aE [aHo]) Q1 := by
    subst ho; subst hF
    refine J8 6 12 ?_ ?_ rfl rfl (by kernel_rfl)
    · refine Ax fnF hWay rfl hfn hfb hfx (Aa rfl (Aa rfl Ad)) (.cons (.a1 .b (.a1 .n .a0)) (.cons (.a1 .b (.a1 .n .a0)) .nil)) (hd 137 rfl) ?_ (fun _ h => by simp at h)
      rintro y hy; injection hy with hy; subst hy
      refine As S25_14 8 (.cons rfl (.v5 (.u (.cons rfl .nil))))
    · refine Df (Ba (id := 7) Az (by decide) rfl (by decide) rfl) (hd 21 rfl) ?_
      refine As S25_19 8 (.cons rfl (.cons rfl (.u (.u (.cons rfl (.cons rfl (.u (.cons rfl .nil))))))))
  have S25_21 : JA Tryz.prog ops1 5 (za 16 0x13ff) Γ1 ([(21, .p 7 1 0), (130, aTz), (131, .u), (132, .u), (133, .u), (134, .u), (135, .u), (136, .u), (137, .u), (138, aZ), (139, aZ)] ++ F0) (aH s l d (aA sg false N) aHo [aE]) Q1 := by
    subst ho; subst hF; refine Bl 10 [15] (B3 rfl rfl (hd 140 rfl)) hpan rfl ?_
    refine As S25_5 12 (.cons rfl (.v5 (.u (.u (.u (.cons rfl (.cons rfl (.cons rfl .nil))))))))
  have S25_22 : JA Tryz.prog ops1 6 (za 16 0x11ff) Γ1 ([(21, .p 7 1 0), (130, aTz), (131, .u), (132, .u), (133, .u), (134, .u), (135, .u), (136, .u), (137, .u), (138, aZ)] ++ F0) (aH s l d (aA sg false N) aHo [aE]) Q1 := by
    subst ho; subst hF; refine Bl 9 [14, 15] (B3 rfl rfl (hd 139 rfl)) hpan rfl ?_
    refine As S25_21 11 (.cons rfl (.cons rfl (.v5 (.u (.u (.cons rfl (.cons rfl .nil)))))))
  have S25_23 : JA Tryz.prog ops1 7 (za 16 0x10ff) Γ1 ([(21, .p 7 1 0), (130, aTz), (131, .u), (132, .u), (133, .u), (134, .u), (135, .u), (136, .u), (137, .u)] ++ F0) (aH s l d (aA sg false N) aHo [aE]) Q1 := by
    subst ho; subst hF; refine Bl 8 [13, 14, 15] (B3 rfl rfl (hd 138 rfl)) hpan rfl ?_
    refine As S25_22 10 (.cons rfl (.cons rfl (.v5 (.u (.u (.cons rfl .nil))))))
  have S25_24 : JA Tryz.prog ops1 8 (za 16 0x107f) Γ1 ([(21, .p 7 1 0), (131, .u), (132, .u), (133, .u), (134, .u), (135, .u), (136, .u), (137, aTz)] ++ F0) (aH s l d (aA sg false N) aHo [aE]) Q1 := by
    subst ho; subst hF; refine Bl 7 [8, 9, 10, 13, 14, 15] (Gt rfl (hd 130 rfl)) hpan rfl ?_
    refine As S25_23 9 (.cons rfl (.cons rfl (.v5 (.u (.u .nil)))))
  have S25_25 : JA Tryz.prog ops1 9 (za 16 0x103f) Γ1 ([(21, .p 7 1 0), (131, .u), (132, .u), (133, .f F []), (134, .a [.b sg, .n false .u64 N]), (135, .u), (136, .a [.b false, .n false .u64 D])] ++ F0) (aH s l d (aA sg false N) aHo [aE]) Q1 := by
    subst ho; subst hF
    refine J8 6 11 ?_ ?_ rfl rfl (by kernel_rfl)
    · refine Ax fnF hWay rfl hfn hfb hfx (Aa rfl (Aa rfl Ad)) (.cons (.a1 .b (.a1 .n .a0)) (.cons (.a1 .b (.a1 .n .a0)) .nil)) (hd 137 rfl) ?_ (fun _ h => by simp at h)
      rintro y hy; injection hy with hy; subst hy
      refine As S25_24 8 (.cons rfl (.v5 (.u (.cons rfl .nil))))
    · refine Df (Ba (id := 6) Az (by decide) rfl (by decide) rfl) (hd 20 rfl) ?_
      refine As S25_19 8 (.cons rfl (.cons rfl (.u (.u (.cons rfl (.cons rfl (.u (.cons rfl .nil))))))))
  have S25_26 : JA Tryz.prog ops1 10 (za 16 0x3f) Γ1 ([(131, .u), (132, .u), (133, .f F []), (134, .a [.b sg, .n false .u64 N]), (135, .u), (136, .a [.b false, .n false .u64 D])] ++ F0) (aH s l d (aA sg false N) aHo [aHo]) Q1 := by
    subst ho; subst hF
    refine Aeh 6 11 12 ?_ ?_ ?_ rfl rfl rfl (by kernel_rfl)
    · refine Ax fnF hWay rfl hfn hfb hfx (Aa rfl (Aa rfl Ad)) (.cons (.a1 .b (.a1 .n .a0)) (.cons (.a1 .b (.a1 .n .a0)) .nil)) (hd 137 rfl) ?_ (fun _ h => by simp at h)
      rintro y hy; injection hy with hy; subst hy
      refine As S25_10 7 (.v5 (.u (.cons rfl .nil)))
    · refine Df (Ba (id := 6) Az (by decide) rfl (by decide) rfl) (hd 20 rfl) ?_
      refine As S25_20 7 (.cons rfl (.u (.u (.cons rfl (.cons rfl (.u (.cons rfl .nil)))))))
    · refine Df (Ba (id := 7) Az (by decide) rfl (by decide) rfl) (hd 21 rfl) ?_
      refine As S25_25 7 (.cons rfl (.u (.u (.cons rfl (.cons rfl (.u (.cons rfl .nil)))))))
  have S25_27 : JA Tryz.prog ops1 11 (za 16 0x1f) Γ1 ([(131, .u), (132, .u), (133, .f F []), (134, .a [.b sg, .n false .u64 N]), (135, .n false .u64 D)] ++ F0) (aH s l d (aA sg false N) aHo [aHo]) Q1 := by
    subst ho; subst hF; refine Bl 5 [6, 7, 8, 9, 10, 13, 14, 15] (Am (Bp (is := [1]) (xs := [.tmp 135]) Az G8 rfl (Aa rfl Ad) rfl (by first | (simp [Ci, cellsV]; done) | (simp [Ci, cellsV, old]; done)) (Cd rfl) rfl) (hd 136 rfl)) hpan rfl ?_
    refine As S25_26 6 (.u (.u (.cons rfl (.cons rfl (.u (.cons rfl .nil))))))
  have S25_28 : JA Tryz.prog ops1 12 (za 16 0xf) Γ1 ([(131, .u), (132, .u), (133, .f F []), (134, .a [.b sg, .n false .u64 N])] ++ F0) (aH s l d (aA sg false N) aHo [aHo]) Q1 := by
    subst ho; subst hF; refine Bl 4 [5, 6, 7, 8, 9, 10, 13, 14, 15] (Gt rfl (hd 135 rfl)) hpan rfl ?_
    refine As S25_27 5 (.u (.u (.cons rfl (.cons rfl (.cons rfl .nil)))))
  have S25_29 : JA Tryz.prog ops1 13 (za 16 0x7) Γ1 ([(131, .u), (132, .u), (133, .f F [])] ++ F0) (aH s l d (aA sg false N) aHo [aHo]) Q1 := by
    subst ho; subst hF; refine Bl 3 [6, 7, 8, 9, 10, 13, 14, 15] (Am (Au Bw rfl rfl rfl rfl) (hd 134 rfl)) hpan rfl ?_
    refine As S25_28 4 (.u (.u (.cons rfl (.cons rfl .nil))))
  have S25_30 : JA Tryz.prog ops1 14 (za 16 0x3) Γ1 ([(131, .u), (132, .p 4 0 m)] ++ F0) (aH s l d (aA sg false N) aHo [aHo]) Q1 := by
    subst ho; subst hF; refine Bl 2 [6, 7, 8, 9, 10, 13, 14, 15] (Am (A9 Ads rfl rfl hcell) (hd 133 rfl)) hpan rfl ?_
    refine As S25_29 3 (.u (.u (.cons rfl .nil)))
  have S25_31 : JA Tryz.prog ops1 15 (za 16 0x1) Γ1 ([(131, .i .i64 (m : Int))] ++ F0) (aH s l d (aA sg false N) aHo [aHo]) Q1 := by
    subst ho; subst hF; refine Bl 1 [2, 6, 7, 8, 9, 10, 13, 14, 15] (Am (Vh (i := m) (r := m) W1 rfl rfl rfl rfl hm (by omega)) (hd 132 rfl)) hpan rfl ?_
    refine As S25_30 2 (.u (.cons rfl .nil))
  have S25_32 : JA Tryz.prog ops1 16 (za 16 0x0) Γ1 ([] ++ F0) (aH s l d (aA sg false N) aHo [aHo]) Q1 := by
    subst ho; subst hF; refine Bl 0 [1, 2, 6, 7, 8, 9, 10, 13, 14, 15] (Gt rfl (hd 131 rfl)) hpan rfl ?_
    refine As S25_31 1 (.cons rfl .nil)
  subst ho; subst hF
  exact As (m := []) S25_32 0 .nil

theorem Aku (m : Nat) (F : FuncId) (fnF : Func) (hm : m < 3) (hcell : [V.f 26 [], V.f 27 [], V.f 28 []][m]? = some (V.f F [])) (hfn : Tryz.prog.funcs[F]? = some fnF) (hfb : fnF.body.isSome = true) (hfx : (fnF.name == "runtime.NumGoroutine") = false) (s : Bool) (l d : List Int) (n : Int) (y0 : Nat) (hy0 : Rw d y0) (h00 : y0 ≠ 0) (hn8 : -1099511627776 ≤ n) (hn9 : n ≤ 1099511627776) (sg : Bool) (p q : Nat) (lp : Al (p : Int) ≤ 67108864) (lq : Al (q : Int) ≤ 67108864) (hPa : Spec Tryz.prog 29 [(.a [.b s, .n false .u64 l, .n false .u64 d])] (fun o => o = .ret (.t [.b sg, .n false .u64 (lm ((p : Nat) : Int)), .n false .u64 (lm ((q : Nat) : Int))]))) (hp : p ≠ 0) (hn : n ≤ 0) (hsm : (Al (p : Int) : Int) + n < (Al (q : Int) : Int) - 2) (wv : Int) (rb : Bool) (rr : List Int) (hWay : SpecM Tryz.prog F [.a [.b sg, .n false .u64 [1]], .a [.b false, .n false .u64 [4]]] [] (fun o G => o = .ret (.t [.a [.b (decide (wv < 0)), .o 0 0 0 (lm wv).length], .a [.b rb, .o 1 0 0 rr.length], .i .i64 0]) ∧ G = [⟨71, 1, 0, true, ints .u64 (lm wv)⟩, ⟨71, 1, 0, true, ints .u64 rr⟩])) : SpecTN Tryz.prog 6 0 tzCells [(.a [.b s, .n false .u64 l, .n false .u64 d]), .i .i64 n, .i .i64 (m : Int)] (fun o G => o = .ret (.t [.a [.b (decide (wv < 0)), .o 0 0 0 (lm wv).length], .i .i64 0]) ∧ G = [⟨71, 1, 0, true, ints .u64 (lm wv)⟩]) := by
  refine Lp [(0, (.a [.b s, .n false .u64 l, .n false .u64 d])), (1, .i .i64 n), (2, .i .i64 (m : Int))] rfl Tryz.func6 rfl (Zb rfl) fun Γ 𝓡 hTb hN hds hL hR hE => ?_
  have hd := B2 146 hN
  have hl0 := mt lm_len0.1 hp
  have hLP : Spec Tryz.prog 30 [.n false .u64 (lm ((p : Nat) : Int))] (fun o => o = .ret (.i .i64 (Al (p : Int) : Int))) := Dd (p : Int) (by have := Bv lp; omega)
  have hLQ : Spec Tryz.prog 30 [.n false .u64 (lm ((q : Nat) : Int))] (fun o => o = .ret (.i .i64 (Al (q : Int) : Int))) := Dd (q : Int) (by have := Bv lq; omega)
  have hF4 : Spec Tryz.prog 35 [.i .u64 4] (fun o => o = .ret (.n true .u64 [4])) := by have h := Gn 4; rwa [if_neg (by decide)] at h
  have hF1 : Spec Tryz.prog 35 [.i .u64 1] (fun o => o = .ret (.n true .u64 [1])) := by have h := Gn 1; rwa [if_neg (by decide)] at h
  refine Dr <| Af <| A1 (Bn (id := 0) (n := 3) rfl rfl rfl (by decide) rfl) (hd 3 rfl) <| A1 (Aq (id := 1) Az (by decide) rfl (by decide) rfl) (hd 6 rfl) <| A1 (Aq (id := 2) Ep (by decide) rfl (by decide) rfl) (hd 7 rfl) <| Ab <| Fn (g := 23) (caps := [.p 1 0 0, .p 2 0 0]) 3 [_] (ops := [_, _]) rfl Tryz.func23 rfl rfl rfl hds hR hL hE <| Ac (F5 (Aa rfl (Aa rfl Ad))) (hd 23 rfl) <| Ab ?_
  refine ⟨rfl, rfl, rfl, ?_⟩
  intro Γ1 hN1 hw1 hM1 hL hR1
  replace hTb : TabR 0 tzCells Γ1.w0 Γ1.M := by rw [hw1, hM1]; exact hTb
  replace hd : ∀ d, Nat.blt d 146 = true → d < Γ1.N := fun d h => by rw [hN1]; exact hd d h
  refine Ab <| Zs <| Ac (Au Ap rfl rfl rfl rfl) (hd 24 rfl) <| A1 (Do (id := 3) (xs := [.tmp 24]) E0 rfl (Aa rfl Ad) rfl (Cz rfl) (by decide) rfl) (hd 25 rfl) <| Dy 25 (sz := 3) [[V.b s, V.n false .u64 l, V.n false .u64 d]] rfl rfl rfl rfl (by simp) (by simp [Ef]) (by decide) hL ?_
  refine Ag Tryz.f25 (Io s l d y0 hy0 h00) rfl Tryz.func25 rfl rfl (Aa rfl Ad) (.cons .l .nil) (hd 26 rfl) ?_ (fun _ h => by simp at h)
  rintro _ ⟨⟩; refine Ab <| Ae <| Zs <| Zm rfl (hd 27 rfl) <| Ac (B0 (Ca rfl rfl) (by omega)) (hd 28 rfl) <| Zm rfl (hd 29 rfl) <| Bi 29 rfl rfl (Ay rfl) (hd 30 rfl) <| Bi 29 rfl rfl (B0 (Ce rfl rfl) (by omega)) (hd 31 rfl) <| Ac (Bg rfl rfl) (hd 32 rfl) <| Ab <| A6 rfl <| Aj ?_; refine Ae <| Zs <| Zm rfl (hd 34 rfl) <| Ac (B0 (Ca rfl rfl) (by omega)) (hd 35 rfl) <| Zm rfl (hd 36 rfl) <| Bi 36 rfl rfl (Ay rfl) (hd 37 rfl) <| Bi 36 rfl rfl (B0 (Ce rfl rfl) (by omega)) (hd 38 rfl) <| Ac (Bg rfl rfl) (hd 39 rfl) <| Ab <| A6 rfl <| Aj <| Ae ?_; refine Af <| Ac (Im (v := .agg #[.func (.func 26) #[] #[], .func (.func 27) #[] #[], .func (.func 28) #[] #[]]) (y := .a [.f 26 [], .f 27 [], .f 28 []]) (fun _ _ _ _ => ⟨[.func (.func 26) #[] #[], .func (.func 27) #[] #[], .func (.func 28) #[] #[]], rfl, _, _, rfl, ⟨[], rfl, rfl⟩, _, _, rfl, ⟨[], rfl, rfl⟩, _, _, rfl, ⟨[], rfl, rfl⟩, rfl⟩) (by intro a dst type pos after g w2; kernel_rfl)) (hd 41 rfl) <| A1 (Aq (id := 4) Jr (by decide) rfl (by decide) rfl) (hd 8 rfl) <| A3 (Ah rfl rfl rfl Mt rfl rfl (Zb rfl)) <| Ab <| Zs <| Ac (Au Ap rfl rfl rfl rfl) (hd 43 rfl) ?_
  refine Ag Tryz.f29 (hPa) rfl Tryz.func29 rfl rfl (Aa rfl Ad) (.cons (.a1 .b (.a1 .n (.a1 .n .a0))) .nil) (hd 44 rfl) ?_ (fun _ h => by simp at h)
  rintro _ ⟨⟩; refine Zm rfl (hd 42 rfl) <| Ac (Ai rfl rfl) (hd 45 rfl) <| Ac (Ai rfl rfl) (hd 46 rfl) <| Ac (Ai rfl rfl) (hd 47 rfl) <| Za rfl (hd 9 rfl) <| Za rfl (hd 10 rfl) <| Za rfl (hd 11 rfl) <| Ab <| Zs <| Zm rfl (hd 48 rfl) <| Zm rfl (hd 49 rfl) <| Ac (Bp (is := [0, 1]) (xs := [.tmp 48, .tmp 49]) Az C0 rfl (Aa rfl (Aa rfl Ad)) rfl (by first | (simp [Ci, cellsV]; done) | (simp [Ci, cellsV, old]; done)) (Cd rfl) rfl) (hd 50 rfl) ?_; refine A1 (Aq (id := 5) Az (by decide) rfl (by decide) rfl) (hd 12 rfl) <| A3 (Ah rfl rfl rfl B6 rfl rfl (Zb rfl)) <| Ab <| Ae <| Zs <| Zm rfl (hd 51 rfl) <| Ac (Ar A7 rfl) (hd 52 rfl) <| Ac (B0 (Cq rfl rfl) (by omega)) (hd 53 rfl) <| Ab <| A6 rfl <| Aj <| Ae ?_; refine Zs <| Zm rfl (hd 55 rfl) <| Ac (B0 (Ce rfl rfl) (by omega)) (hd 56 rfl) <| Ab <| A6 rfl <| Ae <| Zs <| Zm rfl (hd 85 rfl) ?_
  refine Ag Tryz.f30 (hLP) rfl Tryz.func30 rfl rfl (Aa rfl Ad) (.cons .n .nil) (hd 86 rfl) ?_ (fun _ h => by simp at h)
  rintro _ ⟨⟩; refine Zm rfl (hd 87 rfl) <| Ac (Bd rfl rfl (r := (Al (p : Int) : Int) + n) (by rw [Ak (by omega) (by omega)] <;> omega)) (hd 88 rfl) <| Zm rfl (hd 89 rfl) ?_
  refine Ag Tryz.f30 (hLQ) rfl Tryz.func30 rfl rfl (Aa rfl Ad) (.cons .n .nil) (hd 90 rfl) ?_ (fun _ h => by simp at h)
  rintro _ ⟨⟩; refine Ac (Bm rfl rfl (r := (Al (q : Int) : Int) - 2) (by rw [Ak (by omega) (by omega)] <;> omega)) (hd 91 rfl) <| Ac (E6 (Ca rfl rfl) hsm) (hd 92 rfl) <| Ab <| Cw rfl <| Ae <| Af ?_
  refine Ag Tryz.f35 (hF4) rfl Tryz.func35 rfl rfl (Aa rfl Ad) (.cons .i .nil) (hd 93 rfl) ?_ (fun _ h => by simp at h)
  rintro _ ⟨⟩; refine Zm rfl (hd 94 rfl) ?_
  refine Ag Tryz.f35 (hF1) rfl Tryz.func35 rfl rfl (Aa rfl Ad) (.cons .i .nil) (hd 95 rfl) ?_ (fun _ h => by simp at h)
  rintro _ ⟨⟩; refine Ac (Bp (is := [0, 1]) (xs := [.tmp 94, .tmp 95]) Az C0 rfl (Aa rfl (Aa rfl Ad)) rfl (by first | (simp [Ci, cellsV]; done) | (simp [Ci, cellsV, old]; done)) (Cd rfl) rfl) (hd 96 rfl) <| A1 (Aq (id := 6) Az (by decide) rfl (by decide) rfl) (hd 15 rfl) <| Za rfl (hd 14 rfl) <| A3 (Ah rfl rfl rfl B6 rfl rfl (Zb rfl)) <| Ab <| Ae <| C7 <| Jb 2 _ <| Bo (n := 16) _ rfl B9 ?_; refine L5 (fun _ _ _ _ h => h) fun ops1 Q1 F0 hpan ho hq hF => ?_
  have S20_0 : JA Tryz.prog ops1 0 (za 16 0xffff) Γ1 ([(16, .p 7 1 0), (17, .p 8 1 0), (18, .i .i64 0), (97, .u), (98, .u), (99, .u), (100, .u), (101, .u), (102, .u), (103, .u), (104, .u), (105, .u), (106, .u), (107, .u)] ++ F0) (aH s l d (aA sg false (lm ((p : Nat) : Int))) (aA sg true [1]) [(aO1 9 wv), (aO2 10 rb rr), (aRw (lm wv)), (aRw rr)]) Q1 := by
    subst ho; subst hq; subst hF; refine Bx (by kernel_rfl) <| Zs <| Ac (Au Bw rfl rfl rfl rfl) (hd 108 rfl) <| A3 (Ah rfl rfl rfl B6 rfl rfl (Zb rfl)) <| A3 (Ah rfl rfl rfl E5 rfl rfl (Zb rfl)) <| Ab <| An <| Clo.fin Ka (m := 3) (i := 1) (j := 2) (Zb rfl) rfl rfl rfl rfl ?_
    refine ⟨[9], _, (.t [.a [.b (decide (wv < 0)), .o 0 0 0 (lm wv).length], .i .i64 0]), (.cons (ResV.cell Bw rfl rfl rfl rfl) (.cons (ResV.cell1 Cr rfl rfl rfl) .nil)), rfl, rfl, (by decide), (by first | exact Ao Bc A0 | exact Ao rfl A0), ?_⟩
    exact ⟨rfl, rfl⟩
  have S20_1 : JA Tryz.prog ops1 1 (za 16 0x7fff) Γ1 ([(16, .p 7 1 0), (17, .p 8 1 0), (97, .u), (98, .u), (99, .u), (100, .u), (101, .u), (102, .u), (103, .u), (104, .u), (105, .u), (106, .u), (107, .i .i64 0)] ++ F0) (aH s l d (aA sg false (lm ((p : Nat) : Int))) (aA sg true [1]) [(aO1 9 wv), (aO2 10 rb rr), (aRw (lm wv)), (aRw rr)]) Q1 := by
    subst ho; subst hF; refine Bl 15 [] (Aea rfl (hd 18 rfl)) hpan rfl ?_
    refine As S20_0 14 (.cons rfl (.cons rfl (.cons rfl (.v9 (.u .nil)))))
  have S20_2 : JA Tryz.prog ops1 2 (za 16 0x3fff) Γ1 ([(16, .p 7 1 0), (17, .p 8 1 0), (97, .u), (98, .u), (99, .u), (100, .u), (101, .u), (102, .u), (103, .u), (104, .u), (105, .u), (106, (aWr 10 rb rr)), (107, .i .i64 0)] ++ F0) (aH s l d (aA sg false (lm ((p : Nat) : Int))) (aA sg true [1]) [(aO1 9 wv), aE, (aRw (lm wv)), (aRw rr)]) Q1 := by
    subst ho; subst hF
    refine Be 14 ?_ rfl (by kernel_rfl)
    refine Cl (Ah rfl rfl rfl B6 rfl rfl (Zb rfl)) rfl ?_
    refine As S20_1 13 (.cons rfl (.cons rfl (.v9 (.cons rfl .nil))))
  have S20_3 : JA Tryz.prog ops1 3 (za 16 0x1fff) Γ1 ([(16, .p 7 1 0), (17, .p 8 1 0), (97, .u), (98, .u), (99, .u), (100, .u), (101, .u), (102, .u), (103, .u), (104, .u), (105, (aWv 9 wv)), (106, (aWr 10 rb rr)), (107, .i .i64 0)] ++ F0) (aH s l d (aA sg false (lm ((p : Nat) : Int))) (aA sg true [1]) [aE, aE, (aRw (lm wv)), (aRw rr)]) Q1 := by
    subst ho; subst hF
    refine Be 13 ?_ rfl (by kernel_rfl)
    refine Cl (Ah rfl rfl rfl B6 rfl rfl (Zb rfl)) rfl ?_
    refine As S20_2 13 (.cons rfl (.cons rfl (.v5 (.u (.u (.u (.u (.cons rfl (.cons rfl .nil)))))))))
  have S20_4 : JA Tryz.prog ops1 4 (za 16 0xfff) Γ1 ([(16, .p 7 1 0), (97, .u), (98, .u), (99, .u), (100, .u), (101, .u), (102, .u), (103, .u), (104, .u), (105, (aWv 9 wv)), (106, (aWr 10 rb rr)), (107, .i .i64 0)] ++ F0) (aH s l d (aA sg false (lm ((p : Nat) : Int))) (aA sg true [1]) [aE, aHo, (aRw (lm wv)), (aRw rr)]) Q1 := by
    subst ho; subst hF
    refine Be 12 ?_ rfl (by kernel_rfl)
    refine Df (Ba (id := 8) Az (by decide) rfl (by decide) rfl) (hd 17 rfl) ?_
    refine As S20_3 13 (.cons rfl (.cons rfl (.v5 (.u (.u (.u (.cons rfl (.cons rfl (.cons rfl .nil)))))))))
  have S20_5 : JA Tryz.prog ops1 4 (za 16 0x17ff) Γ1 ([(17, .p 8 1 0), (97, .u), (98, .u), (99, .u), (100, .u), (101, .u), (102, .u), (103, .u), (104, .u), (105, (aWv 9 wv)), (106, (aWr 10 rb rr)), (107, .i .i64 0)] ++ F0) (aH s l d (aA sg false (lm ((p : Nat) : Int))) (aA sg true [1]) [aHo, aE, (aRw (lm wv)), (aRw rr)]) Q1 := by
    subst ho; subst hF
    refine Be 11 ?_ rfl (by kernel_rfl)
    refine Df (Ba (id := 7) Az (by decide) rfl (by decide) rfl) (hd 16 rfl) ?_
    refine As S20_3 13 (.cons rfl (.cons rfl (.v5 (.u (.u (.u (.cons rfl (.cons rfl (.cons rfl .nil)))))))))
  have S20_6 : JA Tryz.prog ops1 5 (za 16 0x7ff) Γ1 ([(97, .u), (98, .u), (99, .u), (100, .u), (101, .u), (102, .u), (103, .u), (104, .u), (105, (aWv 9 wv)), (106, (aWr 10 rb rr)), (107, .i .i64 0)] ++ F0) (aH s l d (aA sg false (lm ((p : Nat) : Int))) (aA sg true [1]) [aHo, aHo, (aRw (lm wv)), (aRw rr)]) Q1 := by
    subst ho; subst hF
    refine J8 11 12 ?_ ?_ rfl rfl (by kernel_rfl)
    · refine Df (Ba (id := 7) Az (by decide) rfl (by decide) rfl) (hd 16 rfl) ?_
      refine As S20_4 12 (.cons rfl (.v5 (.u (.u (.u (.cons rfl (.cons rfl (.cons rfl .nil))))))))
    · refine Df (Ba (id := 8) Az (by decide) rfl (by decide) rfl) (hd 17 rfl) ?_
      refine As S20_5 12 (.cons rfl (.v5 (.u (.u (.u (.cons rfl (.cons rfl (.cons rfl .nil))))))))
  have S20_7 : JA Tryz.prog ops1 6 (za 16 0x3ff) Γ1 ([(97, (aT 9 10 wv rb rr)), (98, .u), (99, .u), (100, .u), (101, .u), (102, .u), (103, .u), (104, .u), (105, (aWv 9 wv)), (106, (aWr 10 rb rr))] ++ F0) (aH s l d (aA sg false (lm ((p : Nat) : Int))) (aA sg true [1]) [aHo, aHo, (aRw (lm wv)), (aRw rr)]) Q1 := by
    subst ho; subst hF; refine Bl 10 [15] (B3 rfl rfl (hd 107 rfl)) hpan rfl ?_
    refine As S20_6 11 (.v5 (.u (.u (.u (.cons rfl (.cons rfl (.cons rfl .nil)))))))
  have S20_8 : JA Tryz.prog ops1 7 (za 16 0x1ff) Γ1 ([(97, (aT 9 10 wv rb rr)), (98, .u), (99, .u), (100, .u), (101, .u), (102, .u), (103, .u), (104, .u), (105, (aWv 9 wv))] ++ F0) (aH s l d (aA sg false (lm ((p : Nat) : Int))) (aA sg true [1]) [aHo, aHo, (aRw (lm wv)), (aRw rr)]) Q1 := by
    subst ho; subst hF; refine Bl 9 [14, 15] (B3 rfl rfl (hd 106 rfl)) hpan rfl ?_
    refine As S20_7 10 (.cons rfl (.v5 (.u (.u (.cons rfl (.cons rfl .nil))))))
  have S20_9 : JA Tryz.prog ops1 8 (za 16 0xff) Γ1 ([(97, (aT 9 10 wv rb rr)), (98, .u), (99, .u), (100, .u), (101, .u), (102, .u), (103, .u), (104, .u)] ++ F0) (aH s l d (aA sg false (lm ((p : Nat) : Int))) (aA sg true [1]) [aHo, aHo, (aRw (lm wv)), (aRw rr)]) Q1 := by
    subst ho; subst hF; refine Bl 8 [13, 14, 15] (B3 rfl rfl (hd 105 rfl)) hpan rfl ?_
    refine As S20_8 9 (.cons rfl (.v5 (.u (.u (.cons rfl .nil)))))
  have S20_10 : JA Tryz.prog ops1 9 (za 16 0x7f) Γ1 ([(98, .u), (99, .u), (100, .u), (101, .u), (102, .u), (103, .u), (104, (aT 9 10 wv rb rr))] ++ F0) (aH s l d (aA sg false (lm ((p : Nat) : Int))) (aA sg true [1]) [aHo, aHo, (aRw (lm wv)), (aRw rr)]) Q1 := by
    subst ho; subst hF; refine Bl 7 [8, 9, 10, 13, 14, 15] (Gt rfl (hd 97 rfl)) hpan rfl ?_
    refine As S20_9 8 (.cons rfl (.v5 (.u (.u .nil))))
  have S20_11 : JA Tryz.prog ops1 5 (za 16 0xbff) Γ1 ([(16, .p 7 1 0), (97, (aT 9 10 wv rb rr)), (98, .u), (99, .u), (100, .u), (101, .u), (102, .u), (103, .u), (104, .u), (105, (aWv 9 wv)), (106, (aWr 10 rb rr))] ++ F0) (aH s l d (aA sg false (lm ((p : Nat) : Int))) (aA sg true [1]) [aE, aHo, (aRw (lm wv)), (aRw rr)]) Q1 := by
    subst ho; subst hF; refine Bl 10 [15] (B3 rfl rfl (hd 107 rfl)) hpan rfl ?_
    refine As S20_4 12 (.cons rfl (.v5 (.u (.u (.u (.cons rfl (.cons rfl (.cons rfl .nil))))))))
  have S20_12 : JA Tryz.prog ops1 6 (za 16 0x9ff) Γ1 ([(16, .p 7 1 0), (97, (aT 9 10 wv rb rr)), (98, .u), (99, .u), (100, .u), (101, .u), (102, .u), (103, .u), (104, .u), (105, (aWv 9 wv))] ++ F0) (aH s l d (aA sg false (lm ((p : Nat) : Int))) (aA sg true [1]) [aE, aHo, (aRw (lm wv)), (aRw rr)]) Q1 := by
    subst ho; subst hF; refine Bl 9 [14, 15] (B3 rfl rfl (hd 106 rfl)) hpan rfl ?_
    refine As S20_11 11 (.cons rfl (.cons rfl (.v5 (.u (.u (.cons rfl (.cons rfl .nil)))))))
  have S20_13 : JA Tryz.prog ops1 7 (za 16 0x8ff) Γ1 ([(16, .p 7 1 0), (97, (aT 9 10 wv rb rr)), (98, .u), (99, .u), (100, .u), (101, .u), (102, .u), (103, .u), (104, .u)] ++ F0) (aH s l d (aA sg false (lm ((p : Nat) : Int))) (aA sg true [1]) [aE, aHo, (aRw (lm wv)), (aRw rr)]) Q1 := by
    subst ho; subst hF; refine Bl 8 [13, 14, 15] (B3 rfl rfl (hd 105 rfl)) hpan rfl ?_
    refine As S20_12 10 (.cons rfl (.cons rfl (.v5 (.u (.u (.cons rfl .nil))))))
  have S20_14 : JA Tryz.prog ops1 8 (za 16 0x87f) Γ1 ([(16, .p 7 1 0), (98, .u), (99, .u), (100, .u), (101, .u), (102, .u), (103, .u), (104, (aT 9 10 wv rb rr))] ++ F0) (aH s l d (aA sg false (lm ((p : Nat) : Int))) (aA sg true [1]) [aE, aHo, (aRw (lm wv)), (aRw rr)]) Q1 := by
    subst ho; subst hF; refine Bl 7 [8, 9, 10, 13, 14, 15] (Gt rfl (hd 97 rfl)) hpan rfl ?_
    refine As S20_13 9 (.cons rfl (.cons rfl (.v5 (.u (.u .nil)))))
  have S20_15 : JA Tryz.prog ops1 4 (za 16 0x1bff) Γ1 ([(16, .p 7 1 0), (17, .p 8 1 0), (97, (aT 9 10 wv rb rr)), (98, .u), (99, .u), (100, .u), (101, .u), (102, .u), (103, .u), (104, .u), (105, (aWv 9 wv)), (106, (aWr 10 rb rr))] ++ F0) (aH s l d (aA sg false (lm ((p : Nat) : Int))) (aA sg true [1]) [aE, aE, (aRw (lm wv)), (aRw rr)]) Q1 := by
    subst ho; subst hF; refine Bl 10 [15] (B3 rfl rfl (hd 107 rfl)) hpan rfl ?_
    refine As S20_3 13 (.cons rfl (.cons rfl (.v5 (.u (.u (.u (.cons rfl (.cons rfl (.cons rfl .nil)))))))))
  have S20_16 : JA Tryz.prog ops1 5 (za 16 0x19ff) Γ1 ([(16, .p 7 1 0), (17, .p 8 1 0), (97, (aT 9 10 wv rb rr)), (98, .u), (99, .u), (100, .u), (101, .u), (102, .u), (103, .u), (104, .u), (105, (aWv 9 wv))] ++ F0) (aH s l d (aA sg false (lm ((p : Nat) : Int))) (aA sg true [1]) [aE, aE, (aRw (lm wv)), (aRw rr)]) Q1 := by
    subst ho; subst hF; refine Bl 9 [14, 15] (B3 rfl rfl (hd 106 rfl)) hpan rfl ?_
    refine As S20_15 12 (.cons rfl (.cons rfl (.cons rfl (.v5 (.u (.u (.cons rfl (.cons rfl .nil))))))))
  have S20_17 : JA Tryz.prog ops1 6 (za 16 0x18ff) Γ1 ([(16, .p 7 1 0), (17, .p 8 1 0), (97, (aT 9 10 wv rb rr)), (98, .u), (99, .u), (100, .u), (101, .u), (102, .u), (103, .u), (104, .u)] ++ F0) (aH s l d (aA sg false (lm ((p : Nat) : Int))) (aA sg true [1]) [aE, aE, (aRw (lm wv)), (aRw rr)]) Q1 := by
    subst ho; subst hF; refine Bl 8 [13, 14, 15] (B3 rfl rfl (hd 105 rfl)) hpan rfl ?_
    refine As S20_16 11 (.cons rfl (.cons rfl (.cons rfl (.v5 (.u (.u (.cons rfl .nil)))))))
  have S20_18 : JA Tryz.prog ops1 7 (za 16 0x187f) Γ1 ([(16, .p 7 1 0), (17, .p 8 1 0), (98, .u), (99, .u), (100, .u), (101, .u), (102, .u), (103, .u), (104, (aT 9 10 wv rb rr))] ++ F0) (aH s l d (aA sg false (lm ((p : Nat) : Int))) (aA sg true [1]) [aE, aE, (aRw (lm wv)), (aRw rr)]) Q1 := by
    subst ho; subst hF; refine Bl 7 [8, 9, 10, 13, 14, 15] (Gt rfl (hd 97 rfl)) hpan rfl ?_
    refine As S20_17 10 (.cons rfl (.cons rfl (.cons rfl (.v5 (.u (.u .nil))))))
  have S20_19 : JA Tryz.prog ops1 8 (za 16 0x183f) Γ1 ([(16, .p 7 1 0), (17, .p 8 1 0), (98, .u), (99, .u), (100, .f F []), (101, .a [.b sg, .n true .u64 [1]]), (102, .u), (103, .a [.b false, .n true .u64 [4]])] ++ F0) (aH s l d (aA sg false (lm ((p : Nat) : Int))) (aA sg true [1]) [aE, aE]) Q1 := by
    subst ho; subst hF
    refine Be 6 ?_ rfl (by kernel_rfl)
    refine Eu fnF hWay (fun o G ⟨_, h⟩ => h ▸ Ao Bc (Ao Bc A0)) rfl hfn hfb hfx (Aa rfl (Aa rfl Ad)) (.cons (.a1 .b (.a1 .n .a0)) (.cons (.a1 .b (.a1 .n .a0)) .nil)) (hd 104 rfl) ?_ (fun _ _ h => by simp at h)
    rintro y G ⟨hy, rfl⟩; injection hy with hy; subst hy
    show JA _ _ _ _ _ ((104, (aT 9 10 wv rb rr)) :: _) _ _
    refine As S20_18 9 (.cons rfl (.cons rfl (.v5 (.u (.cons rfl .nil)))))
  have S20_20 : JA Tryz.prog ops1 9 (za 16 0x83f) Γ1 ([(16, .p 7 1 0), (98, .u), (99, .u), (100, .f F []), (101, .a [.b sg, .n true .u64 [1]]), (102, .u), (103, .a [.b false, .n true .u64 [4]])] ++ F0) (aH s l d (aA sg false (lm ((p : Nat) : Int))) (aA sg true [1]) [aE, aHo]) Q1 := by
    subst ho; subst hF
    refine J8 6 12 ?_ ?_ rfl rfl (by kernel_rfl)
    · refine Eu fnF hWay (fun o G ⟨_, h⟩ => h ▸ Ao Bc (Ao Bc A0)) rfl hfn hfb hfx (Aa rfl (Aa rfl Ad)) (.cons (.a1 .b (.a1 .n .a0)) (.cons (.a1 .b (.a1 .n .a0)) .nil)) (hd 104 rfl) ?_ (fun _ _ h => by simp at h)
      rintro y G ⟨hy, rfl⟩; injection hy with hy; subst hy
      show JA _ _ _ _ _ ((104, (aT 9 10 wv rb rr)) :: _) _ _
      refine As S20_14 8 (.cons rfl (.v5 (.u (.cons rfl .nil))))
    · refine Df (Ba (id := 8) Az (by decide) rfl (by decide) rfl) (hd 17 rfl) ?_
      refine As S20_19 8 (.cons rfl (.cons rfl (.u (.u (.cons rfl (.cons rfl (.u (.cons rfl .nil))))))))
  have S20_21 : JA Tryz.prog ops1 5 (za 16 0x13ff) Γ1 ([(17, .p 8 1 0), (97, (aT 9 10 wv rb rr)), (98, .u), (99, .u), (100, .u), (101, .u), (102, .u), (103, .u), (104, .u), (105, (aWv 9 wv)), (106, (aWr 10 rb rr))] ++ F0) (aH s l d (aA sg false (lm ((p : Nat) : Int))) (aA sg true [1]) [aHo, aE, (aRw (lm wv)), (aRw rr)]) Q1 := by
    subst ho; subst hF; refine Bl 10 [15] (B3 rfl rfl (hd 107 rfl)) hpan rfl ?_
    refine As S20_5 12 (.cons rfl (.v5 (.u (.u (.u (.cons rfl (.cons rfl (.cons rfl .nil))))))))
  have S20_22 : JA Tryz.prog ops1 6 (za 16 0x11ff) Γ1 ([(17, .p 8 1 0), (97, (aT 9 10 wv rb rr)), (98, .u), (99, .u), (100, .u), (101, .u), (102, .u), (103, .u), (104, .u), (105, (aWv 9 wv))] ++ F0) (aH s l d (aA sg false (lm ((p : Nat) : Int))) (aA sg true [1]) [aHo, aE, (aRw (lm wv)), (aRw rr)]) Q1 := by
    subst ho; subst hF; refine Bl 9 [14, 15] (B3 rfl rfl (hd 106 rfl)) hpan rfl ?_
    refine As S20_21 11 (.cons rfl (.cons rfl (.v5 (.u (.u (.cons rfl (.cons rfl .nil)))))))
  have S20_23 : JA Tryz.prog ops1 7 (za 16 0x10ff) Γ1 ([(17, .p 8 1 0), (97, (aT 9 10 wv rb rr)), (98, .u), (99, .u), (100, .u), (101, .u), (102, .u), (103, .u), (104, .u)] ++ F0) (aH s l d (aA sg false (lm ((p : Nat) : Int))) (aA sg true [1]) [aHo, aE, (aRw (lm wv)), (aRw rr)]) Q1 := by
    subst ho; subst hF; refine Bl 8 [13, 14, 15] (B3 rfl rfl (hd 105 rfl)) hpan rfl ?_
    refine As S20_22 10 (.cons rfl (.cons rfl (.v5 (.u (.u (.cons rfl .nil))))))
  have S20_24 : JA Tryz.prog ops1 8 (za 16 0x107f) Γ1 ([(17, .p 8 1 0), (98, .u), (99, .u), (100, .u), (101, .u), (102, .u), (103, .u), (104, (aT 9 10 wv rb rr))] ++ F0) (aH s l d (aA sg false (lm ((p : Nat) : Int))) (aA sg true [1]) [aHo, aE, (aRw (lm wv)), (aRw rr)]) Q1 := by
    subst ho; subst hF; refine Bl 7 [8, 9, 10, 13, 14, 15] (Gt rfl (hd 97 rfl)) hpan rfl ?_
    refine As S20_23 9 (.cons rfl (.cons rfl (.v5 (.u (.u .nil)))))
  have S20_25 : JA Tryz.prog ops1 9 (za 16 0x103f) Γ1 ([(17, .p 8 1 0), (98, .u), (99, .u), (100, .f F []), (101, .a [.b sg, .n true .u64 [1]]), (102, .u), (103, .a [.b false, .n true .u64 [4]])] ++ F0) (aH s l d (aA sg false (lm ((p : Nat) : Int))) (aA sg true [1]) [aHo, aE]) Q1 := by
    subst ho; subst hF
    refine J8 6 11 ?_ ?_ rfl rfl (by kernel_rfl)
    · refine Eu fnF hWay (fun o G ⟨_, h⟩ => h ▸ Ao Bc (Ao Bc A0)) rfl hfn hfb hfx (Aa rfl (Aa rfl Ad)) (.cons (.a1 .b (.a1 .n .a0)) (.cons (.a1 .b (.a1 .n .a0)) .nil)) (hd 104 rfl) ?_ (fun _ _ h => by simp at h)
      rintro y G ⟨hy, rfl⟩; injection hy with hy; subst hy
      show JA _ _ _ _ _ ((104, (aT 9 10 wv rb rr)) :: _) _ _
      refine As S20_24 8 (.cons rfl (.v5 (.u (.cons rfl .nil))))
    · refine Df (Ba (id := 7) Az (by decide) rfl (by decide) rfl) (hd 16 rfl) ?_
      refine As S20_19 8 (.cons rfl (.cons rfl (.u (.u (.cons rfl (.cons rfl (.u (.cons rfl .nil))))))))
  have S20_26 : JA Tryz.prog ops1 10 (za 16 0x3f) Γ1 ([(98, .u), (99, .u), (100, .f F []), (101, .a [.b sg, .n true .u64 [1]]), (102, .u), (103, .a [.b false, .n true .u64 [4]])] ++ F0) (aH s l d (aA sg false (lm ((p : Nat) : Int))) (aA sg true [1]) [aHo, aHo]) Q1 := by
    subst ho; subst hF
    refine Aeh 6 11 12 ?_ ?_ ?_ rfl rfl rfl (by kernel_rfl)
    · refine Eu fnF hWay (fun o G ⟨_, h⟩ => h ▸ Ao Bc (Ao Bc A0)) rfl hfn hfb hfx (Aa rfl (Aa rfl Ad)) (.cons (.a1 .b (.a1 .n .a0)) (.cons (.a1 .b (.a1 .n .a0)) .nil)) (hd 104 rfl) ?_ (fun _ _ h => by simp at h)
      rintro y G ⟨hy, rfl⟩; injection hy with hy; subst hy
      show JA _ _ _ _ _ ((104, (aT 9 10 wv rb rr)) :: _) _ _
      refine As S20_10 7 (.v5 (.u (.cons rfl .nil)))
    · refine Df (Ba (id := 7) Az (by decide) rfl (by decide) rfl) (hd 16 rfl) ?_
      refine As S20_20 7 (.cons rfl (.u (.u (.cons rfl (.cons rfl (.u (.cons rfl .nil)))))))
    · refine Df (Ba (id := 8) Az (by decide) rfl (by decide) rfl) (hd 17 rfl) ?_
      refine As S20_25 7 (.cons rfl (.u (.u (.cons rfl (.cons rfl (.u (.cons rfl .nil)))))))
  have S20_27 : JA Tryz.prog ops1 11 (za 16 0x1f) Γ1 ([(98, .u), (99, .u), (100, .f F []), (101, .a [.b sg, .n true .u64 [1]]), (102, .n true .u64 [4])] ++ F0) (aH s l d (aA sg false (lm ((p : Nat) : Int))) (aA sg true [1]) [aHo, aHo]) Q1 := by
    subst ho; subst hF; refine Bl 5 [6, 7, 8, 9, 10, 13, 14, 15] (Am (Bp (is := [1]) (xs := [.tmp 102]) Az G8 rfl (Aa rfl Ad) rfl (by first | (simp [Ci, cellsV]; done) | (simp [Ci, cellsV, old]; done)) (Cd rfl) rfl) (hd 103 rfl)) hpan rfl ?_
    refine As S20_26 6 (.u (.u (.cons rfl (.cons rfl (.u (.cons rfl .nil))))))
  have S20_28 : JA Tryz.prog ops1 12 (za 16 0xf) Γ1 ([(98, .u), (99, .u), (100, .f F []), (101, .a [.b sg, .n true .u64 [1]])] ++ F0) (aH s l d (aA sg false (lm ((p : Nat) : Int))) (aA sg true [1]) [aHo, aHo]) Q1 := by
    subst ho; subst hF; refine Bl 4 [5, 6, 7, 8, 9, 10, 13, 14, 15] (Gt rfl (hd 102 rfl)) hpan rfl ?_
    refine As S20_27 5 (.u (.u (.cons rfl (.cons rfl (.cons rfl .nil)))))
  have S20_29 : JA Tryz.prog ops1 13 (za 16 0x7) Γ1 ([(98, .u), (99, .u), (100, .f F [])] ++ F0) (aH s l d (aA sg false (lm ((p : Nat) : Int))) (aA sg true [1]) [aHo, aHo]) Q1 := by
    subst ho; subst hF; refine Bl 3 [6, 7, 8, 9, 10, 13, 14, 15] (Am (Au Bw rfl rfl rfl rfl) (hd 101 rfl)) hpan rfl ?_
    refine As S20_28 4 (.u (.u (.cons rfl (.cons rfl .nil))))
  have S20_30 : JA Tryz.prog ops1 14 (za 16 0x3) Γ1 ([(98, .u), (99, .p 4 0 m)] ++ F0) (aH s l d (aA sg false (lm ((p : Nat) : Int))) (aA sg true [1]) [aHo, aHo]) Q1 := by
    subst ho; subst hF; refine Bl 2 [6, 7, 8, 9, 10, 13, 14, 15] (Am (A9 Ads rfl rfl hcell) (hd 100 rfl)) hpan rfl ?_
    refine As S20_29 3 (.u (.u (.cons rfl .nil)))
  have S20_31 : JA Tryz.prog ops1 15 (za 16 0x1) Γ1 ([(98, .i .i64 (m : Int))] ++ F0) (aH s l d (aA sg false (lm ((p : Nat) : Int))) (aA sg true [1]) [aHo, aHo]) Q1 := by
    subst ho; subst hF; refine Bl 1 [2, 6, 7, 8, 9, 10, 13, 14, 15] (Am (Vh (i := m) (r := m) W1 rfl rfl rfl rfl hm (by omega)) (hd 99 rfl)) hpan rfl ?_
    refine As S20_30 2 (.u (.cons rfl .nil))
  have S20_32 : JA Tryz.prog ops1 16 (za 16 0x0) Γ1 ([] ++ F0) (aH s l d (aA sg false (lm ((p : Nat) : Int))) (aA sg true [1]) [aHo, aHo]) Q1 := by
    subst ho; subst hF; refine Bl 0 [1, 2, 6, 7, 8, 9, 10, 13, 14, 15] (Gt rfl (hd 98 rfl)) hpan rfl ?_
    refine As S20_31 1 (.cons rfl .nil)
  subst ho; subst hF
  exact As (m := []) S20_32 0 .nil


def SN (x y : Nat) (n : Int) : Nat := if 0 ≤ n then x * 2 ^ (n.toNat - min n.toNat (tz y)) else x / 2 ^ (min (-n).toNat (tz x))
def SD (x y : Nat) (n : Int) : Nat := if 0 ≤ n then y / 2 ^ (min n.toNat (tz y)) else y * 2 ^ ((-n).toNat - min (-n).toNat (tz x))
theorem Tv {x t : Nat} (h0 : x ≠ 0) (h : t ≤ tz x) : x / 2 ^ t * 2 ^ t = x := Nat.div_mul_cancel ((Ajp (by omega)).1 h)
theorem Tu {x t : Nat} (h0 : x ≠ 0) (h : t ≤ tz x) : x / 2 ^ t ≠ 0 := fun e => by
  have h1 := Tv h0 h
  rw [e, Nat.zero_mul] at h1
  exact h0 h1.symm
theorem Aik {x y : Nat} {n : Int} (hx : x ≠ 0) : SN x y n ≠ 0 := by
  unfold SN
  split
  · have := Nat.pow_pos (n := n.toNat - min n.toNat (tz y)) (show 0 < 2 by decide)
    exact Nat.mul_ne_zero hx (by omega)
  · exact Tu hx (Nat.min_le_right _ _)
theorem Aah {x y : Nat} {n : Int} (hy : y ≠ 0) : SD x y n ≠ 0 := by
  unfold SD
  split
  · exact Tu hy (Nat.min_le_right _ _)
  · have := Nat.pow_pos (n := (-n).toNat - min (-n).toNat (tz x)) (show 0 < 2 by decide)
    exact Nat.mul_ne_zero hy (by omega)
theorem Sg {x y : Nat} {n : Int} (hy : y ≠ 0) (h : 0 ≤ n) : SN x y n * y = x * 2 ^ n.toNat * SD x y n := by
  unfold SN SD
  rw [if_pos h, if_pos h]
  have h1 := Tv hy (Nat.min_le_right n.toNat (tz y))
  generalize ht : min n.toNat (tz y) = t at h1
  have h2 : n.toNat = (n.toNat - t) + t := by omega
  calc x * 2 ^ (n.toNat - t) * y = x * 2 ^ (n.toNat - t) * (y / 2 ^ t * 2 ^ t) := by rw [h1]
    _ = x * (2 ^ (n.toNat - t) * 2 ^ t) * (y / 2 ^ t) := by ac_rfl
    _ = x * 2 ^ n.toNat * (y / 2 ^ t) := by rw [← Nat.pow_add, ← h2]
theorem Z0 {x y : Nat} {n : Int} (hx : x ≠ 0) (h : n < 0) : SN x y n * (y * 2 ^ (-n).toNat) = x * SD x y n := by
  unfold SN SD
  rw [if_neg (by omega), if_neg (by omega)]
  have h1 := Tv hx (Nat.min_le_right (-n).toNat (tz x))
  generalize ht : min (-n).toNat (tz x) = t at h1
  have h2 : (-n).toNat = (-n).toNat - t + t := by omega
  calc x / 2 ^ t * (y * 2 ^ (-n).toNat) = x / 2 ^ t * (y * (2 ^ ((-n).toNat - t) * 2 ^ t)) := by rw [← Nat.pow_add, ← h2]
    _ = x / 2 ^ t * 2 ^ t * (y * 2 ^ ((-n).toNat - t)) := by ac_rfl
    _ = x * (y * 2 ^ ((-n).toNat - t)) := by rw [h1]
theorem Vl (x : Nat) : x < 2 ^ Al (x : Int) := by
  have h := Ct.1 (Nat.le_refl (Al (x : Int)))
  rwa [Int.natAbs_natCast] at h
theorem Abr {x : Nat} (h : x ≠ 0) : 2 ^ (Al (x : Int) - 1) ≤ x := by
  rcases Nat.lt_or_ge x (2 ^ (Al (x : Int) - 1)) with h1 | h1
  · have h2 : Al (x : Int) ≤ Al (x : Int) - 1 := Ct.2 (by rw [Int.natAbs_natCast]; exact h1)
    have h3 : 0 < Al (x : Int) := Eb (by rw [Int.natAbs_natCast]; exact h)
    omega
  · exact h1
theorem Alt {x y : Nat} {n : Int} (hx : x ≠ 0) (hy : y ≠ 0) (h : (Al (x : Int) : Int) + n ≤ (Al (y : Int) : Int) - 3) : 4 * SN x y n < SD x y n := by
  have a1 := Vl x
  have a2 := Abr hy
  have hly : 0 < Al (y : Int) := Eb (by rw [Int.natAbs_natCast]; exact hy)
  have hd := Aah (x := x) (n := n) hy
  rcases Int.lt_or_le n 0 with hn | hn
  · have hc := Z0 (y := y) hx hn
    have b1 : 4 * x < y * 2 ^ (-n).toNat := by
      have e1 : 4 * x < 2 ^ (Al (x : Int) + 2) := by rw [Nat.pow_add]; omega
      have e2 : 2 ^ (Al (x : Int) + 2) ≤ 2 ^ (Al (y : Int) - 1 + (-n).toNat) := Nat.pow_le_pow_right (by decide) (by omega)
      rw [Nat.pow_add 2 (Al (y : Int) - 1)] at e2
      have e3 := Nat.mul_le_mul_right (2 ^ (-n).toNat) a2
      omega
    refine Nat.lt_of_mul_lt_mul_right (a := y * 2 ^ (-n).toNat) ?_
    have e4 : SD x y n * (4 * x) < SD x y n * (y * 2 ^ (-n).toNat) := Nat.mul_lt_mul_of_pos_left b1 (by omega)
    have e5 : 4 * SN x y n * (y * 2 ^ (-n).toNat) = SD x y n * (4 * x) := by rw [Nat.mul_assoc, hc]; ac_rfl
    omega
  · have hc := Sg (x := x) hy hn
    have b1 : 4 * (x * 2 ^ n.toNat) < y := by
      have hp : 0 < 2 ^ n.toNat := Nat.pow_pos (by decide)
      have e0 : x * 2 ^ n.toNat < 2 ^ (Al (x : Int) + n.toNat) := by rw [Nat.pow_add]; exact Nat.mul_lt_mul_of_pos_right a1 hp
      have e1 : 2 ^ (Al (x : Int) + n.toNat + 2) ≤ 2 ^ (Al (y : Int) - 1) := Nat.pow_le_pow_right (by decide) (by omega)
      rw [Nat.pow_add 2 (Al (x : Int) + n.toNat) 2] at e1
      omega
    refine Nat.lt_of_mul_lt_mul_right (a := y) ?_
    have e4 : SD x y n * (4 * (x * 2 ^ n.toNat)) < SD x y n * y := Nat.mul_lt_mul_of_pos_left b1 (by omega)
    have e5 : 4 * SN x y n * y = SD x y n * (4 * (x * 2 ^ n.toNat)) := by rw [Nat.mul_assoc, hc]; ac_rfl
    omega
theorem Al5 {x y : Nat} {n : Int} {M : Nat} (hx : x ≠ 0) (hy : y ≠ 0) (hn : 0 ≤ n) (h : (M : Int) + 1 ≤ (Al (x : Int) : Int) - (Al (y : Int) : Int) + n) : 2 ^ M ≤ SN x y n / SD x y n := by
  have a1 := Abr hx
  have a2 := Vl y
  have hlx : 0 < Al (x : Int) := Eb (by rw [Int.natAbs_natCast]; exact hx)
  have hd := Aah (x := x) (n := n) hy
  rw [Nat.le_div_iff_mul_le (by omega)]
  have hc := Sg (x := x) hy hn
  refine Nat.le_of_mul_le_mul_right (c := y) ?_ (by omega)
  rw [hc]
  have e1 : 2 ^ (Al (x : Int) - 1) * 2 ^ n.toNat ≤ x * 2 ^ n.toNat := Nat.mul_le_mul_right _ a1
  have e2 : 2 ^ M * 2 ^ Al (y : Int) ≤ 2 ^ (Al (x : Int) - 1) * 2 ^ n.toNat := by
    rw [← Nat.pow_add, ← Nat.pow_add]
    exact Nat.pow_le_pow_right (by decide) (by omega)
  have e3 : 2 ^ M * y ≤ x * 2 ^ n.toNat := Nat.le_trans (Nat.mul_le_mul_left _ (Nat.le_of_lt a2)) (Nat.le_trans e2 e1)
  calc 2 ^ M * SD x y n * y = 2 ^ M * y * SD x y n := by ac_rfl
    _ ≤ x * 2 ^ n.toNat * SD x y n := Nat.mul_le_mul_right _ e3
def grB (k : Nat) (s : Bool) (N D : Nat) : Bool := match k with | 1 => s | 2 => !s | _ => decide (D < 2 * (N % D) ∨ (2 * (N % D) = D ∧ N / D % 2 = 1))
def upB (k : Nat) (s : Bool) (N D : Nat) : Bool := decide (N % D ≠ 0) && grB k s N D
theorem Aji {s : Bool} {N : Nat} (h : N ≠ 0) : decide (zs s N < 0) = s := by unfold zs; cases s <;> simp <;> omega
theorem H9 {k : Nat} {s : Bool} {N D : Nat} (hk : k = 1 ∨ k = 2 ∨ k = 3) (hN : N ≠ 0) (hD : D ≠ 0) : wq k (zs s N) (D : Int) = zs s (if upB k s N D = true then N / D + 1 else N / D) := by
  have hD' : (D : Int) ≠ 0 := by omega
  have hng : ng (zs s N) (D : Int) = s := by unfold ng; rw [Aji hN, decide_eq_false (show ¬ ((D : Int) < 0) by omega)]; cases s <;> rfl
  have hq : qn (zs s N) (D : Int) = ((N / D : Nat) : Int) := by unfold qn; rw [H7, Int.natAbs_natCast]; rfl
  have hr : rn (zs s N) (D : Int) = ((N % D : Nat) : Int) := by unfold rn; rw [H7, Int.natAbs_natCast]; rfl
  have hsg : ∀ m : Nat, sgd s (m : Int) = zs s m := fun m => rfl
  have hg : gro k (zs s N) (D : Int) = grB k s N D := by
    rcases hk with rfl | rfl | rfl
    · exact hng
    · show (!ng _ _) = _; rw [hng]; rfl
    · show decide _ = decide _
      rw [hr, hq, Int.natAbs_natCast, decide_eq_decide]
      omega
  by_cases hu : upB k s N D = true
  · rw [if_pos hu]
    unfold upB at hu
    rw [← hg, Bool.and_eq_true] at hu
    have h1 := (I1 (k := k) hD' (by rw [hr]; have := of_decide_eq_true hu.1; omega) hu.2).1
    rw [hng, hq] at h1
    rw [← h1, ← hsg]; rfl
  · rw [if_neg hu]
    have h1 := (Ll (k := k) hD' (v := zs s N) (by
      rw [hr, ← Bool.not_eq_true]
      by_cases h2 : N % D = 0
      · left; omega
      · right
        intro h3
        apply hu
        unfold upB
        rw [← hg, h3, decide_eq_true h2]; rfl)).1
    rw [hng, hq] at h1
    rw [← h1, ← hsg]
theorem Acf {k : Nat} {s : Bool} {N D : Nat} (hk : k = 1 ∨ k = 2 ∨ k = 3) (hN : N ≠ 0) (h : 2 * N < D) : wq k (zs s N) (D : Int) = wq k (zs s 1) (4 : Int) := by
  rw [H9 hk hN (by omega), show (4 : Int) = ((4 : Nat) : Int) from rfl, H9 hk (by decide) (by decide)]
  have e1 : N / D = 0 := Nat.div_eq_of_lt (by omega)
  have e2 : N % D = N := Nat.mod_eq_of_lt (by omega)
  have e3 : upB k s N D = upB k s 1 4 := by
    unfold upB grB
    rw [e1, e2, decide_eq_true hN]
    rcases hk with rfl | rfl | rfl
    · rfl
    · rfl
    · show (true && decide _) = _
      rw [decide_eq_false (by omega)]; rfl
  rw [e1, e3]
def atV (k : Nat) (s : Bool) (x y : Nat) (n : Int) : Int := wq k (zs s (SN x y n)) (SD x y n : Int)
theorem Aab {k : Nat} {s : Bool} {x y : Nat} {n : Int} (hk : k = 1 ∨ k = 2 ∨ k = 3) (hx : x ≠ 0) (hy : y ≠ 0) (h : (Al (x : Int) : Int) + n ≤ (Al (y : Int) : Int) - 3) : atV k s x y n = wq k (zs s 1) 4 :=
  Acf hk (Aik hx) (by have := Alt hx hy h; omega)
theorem Aac {k : Nat} {s : Bool} {x y : Nat} {n : Int} {M : Nat} (hk : k = 1 ∨ k = 2 ∨ k = 3) (hx : x ≠ 0) (hy : y ≠ 0) (hn : 0 ≤ n) (h : (M : Int) + 1 ≤ (Al (x : Int) : Int) - (Al (y : Int) : Int) + n) : M < Al (atV k s x y n) := by
  have h1 := Al5 hx hy hn h
  unfold atV
  rw [H9 hk (Aik hx) (Aah hy), E8]
  refine Aee ?_
  rw [Int.natAbs_natCast]
  split <;> omega
theorem Ox {x n : Nat} : Al ((x * 2 ^ n : Nat) : Int) ≤ Al (x : Int) + n := Vm (by rw [Nat.pow_add]; exact Nat.mul_lt_mul_of_pos_right (Vl x) (Nat.pow_pos (by decide)))
theorem Oy {x n : Nat} : Al ((x / n : Nat) : Int) ≤ Al (x : Int) := B7 (by rw [Int.natAbs_natCast, Int.natAbs_natCast]; exact Nat.div_le_self _ _)
theorem Ail {x y : Nat} {n : Int} : Al ((SN x y n : Nat) : Int) ≤ Al (x : Int) + n.toNat := by
  unfold SN
  split
  · exact Nat.le_trans Ox (by omega)
  · exact Nat.le_trans Oy (by omega)
theorem Aim {x y : Nat} {n : Int} : Al ((SD x y n : Nat) : Int) ≤ Al (y : Int) + (-n).toNat := by
  unfold SD
  split
  · exact Nat.le_trans Oy (by omega)
  · exact Nat.le_trans Ox (by omega)

theorem Ab9 (v w : Int) (hv : (lm v).length ≤ 8388608) (hqn : Al (qn v w) ≤ 67108864) (hw : Al w ≤ 67108864) (h0 : w ≠ 0) : Spec Tryz.prog 102 [.n false .u64 (lm v), .n false .u64 (lm w)] (fun o => o = .ret (.t [.n false .u64 (lm (qn v w)), .n false .u64 (lm (rn v w)), .i .i64 0])) := by
  refine Aw [(0, .n false .u64 (lm v)), (1, .n false .u64 (lm w))] rfl Tryz.func102 rfl (Zb rfl) fun Γ hN hds hL hR => ?_
  have hd := B2 32 hN
  have hlw := Bv hw
  have hlr := B7 (v := rn v w) (w := w) (Oe h0).1
  have hlq := Bv hqn
  have hlR := Bv (v := rn v w) (by omega)
  have hne := Ow h0
  refine Zs <| Za rfl (hd 4 rfl) <| Za rfl (hd 5 rfl) <| Za rfl (hd 6 rfl) <| Ab <| Zs <| Zm rfl (hd 9 rfl) ?_
  refine Ag Tryz.f66 (Iy v (by omega)) rfl Tryz.func66 rfl rfl (Aa rfl Ad) (.cons .n .nil) (hd 10 rfl) ?_ (fun _ h => by simp at h)
  rintro _ ⟨⟩; refine Zm rfl (hd 11 rfl) ?_
  refine Ag Tryz.f66 (Iy w (by omega)) rfl Tryz.func66 rfl rfl (Aa rfl Ad) (.cons .n .nil) (hd 12 rfl) ?_ (fun _ h => by simp at h)
  rintro _ ⟨⟩; refine Za rfl (hd 0 rfl) <| Za rfl (hd 1 rfl) <| Ab <| Ae <| Zs <| Zm rfl (hd 13 rfl) <| Ac (Ar A7 rfl) (hd 14 rfl) <| Ac (B0 (Cq rfl rfl) (fun h => hne (List.eq_nil_of_length_eq_zero (by omega)))) (hd 15 rfl) <| Ab <| A6 rfl <| Aj <| Ae ?_; refine Af <| Zm rfl (hd 17 rfl) <| Zm rfl (hd 18 rfl) ?_
  refine Ag Tryz.f107 (Hl v w (by omega) (by omega) h0) rfl Tryz.func107 rfl rfl (Aa rfl (Aa rfl Ad)) (.cons .n (.cons .n .nil)) (hd 19 rfl) ?_ (fun _ h => by simp at h)
  rintro _ ⟨⟩; refine Zm rfl (hd 16 rfl) <| Ac (Ai rfl rfl) (hd 20 rfl) <| Ac (Ai rfl rfl) (hd 21 rfl) <| Za rfl (hd 7 rfl) <| Za rfl (hd 8 rfl) <| Ab <| Ae <| Zs <| Zm rfl (hd 22 rfl) ?_
  refine Ag Tryz.f30 (Dd (qn v w) (by omega)) rfl Tryz.func30 rfl rfl (Aa rfl Ad) (.cons .n .nil) (hd 23 rfl) ?_ (fun _ h => by simp at h)
  rintro _ ⟨⟩; refine Ac (B0 (Ce rfl rfl) (by omega)) (hd 24 rfl) <| Zm rfl (hd 25 rfl) <| Bi 25 rfl rfl (Ay rfl) (hd 26 rfl) ?_
  refine Ek Tryz.f30 25 rfl rfl (Dd (rn v w) (by omega)) rfl Tryz.func30 rfl rfl (Aa rfl Ad) (.cons .n .nil) (hd 27 rfl) ?_ (fun _ h => by simp at h)
  rintro _ ⟨⟩; refine Bi 25 rfl rfl (B0 (Ce rfl rfl) (by omega)) (hd 28 rfl) <| Ac (Bg rfl rfl) (hd 29 rfl) <| Ab <| A6 rfl <| Aj <| Zs <| Zm rfl (hd 30 rfl) <| Zm rfl (hd 31 rfl) <| Za rfl (hd 4 rfl) <| Za rfl (hd 5 rfl) <| Za rfl (hd 6 rfl) <| Ab ?_; refine An ?_
  refine ⟨_, _, (.cons rfl (.cons rfl (.cons rfl .nil))), (.t1 .n (.t1 .n (.t1 .i .t0))), ?_⟩
  exact rfl

theorem Ai4 (v w : Int) (hv : (lm v).length ≤ 8388608) (hqn : 67108864 < Al (qn v w)) (hql : (lm (qn v w)).length ≤ 8388608) (hw : Al w ≤ 67108864) (h0 : w ≠ 0) : Spec Tryz.prog 102 [.n false .u64 (lm v), .n false .u64 (lm w)] (fun o => o = .ret (.t [.n false .u64 [], .n false .u64 [], .i .i64 3])) := by
  refine Aw [(0, .n false .u64 (lm v)), (1, .n false .u64 (lm w))] rfl Tryz.func102 rfl (Zb rfl) fun Γ hN hds hL hR => ?_
  have hd := B2 32 hN
  have hlw := Bv hw
  have hne := Ow h0
  refine Zs <| Za rfl (hd 4 rfl) <| Za rfl (hd 5 rfl) <| Za rfl (hd 6 rfl) <| Ab <| Zs <| Zm rfl (hd 9 rfl) ?_
  refine Ag Tryz.f66 (Iy v (by omega)) rfl Tryz.func66 rfl rfl (Aa rfl Ad) (.cons .n .nil) (hd 10 rfl) ?_ (fun _ h => by simp at h)
  rintro _ ⟨⟩; refine Zm rfl (hd 11 rfl) ?_
  refine Ag Tryz.f66 (Iy w (by omega)) rfl Tryz.func66 rfl rfl (Aa rfl Ad) (.cons .n .nil) (hd 12 rfl) ?_ (fun _ h => by simp at h)
  rintro _ ⟨⟩; refine Za rfl (hd 0 rfl) <| Za rfl (hd 1 rfl) <| Ab <| Ae <| Zs <| Zm rfl (hd 13 rfl) <| Ac (Ar A7 rfl) (hd 14 rfl) <| Ac (B0 (Cq rfl rfl) (fun h => hne (List.eq_nil_of_length_eq_zero (by omega)))) (hd 15 rfl) <| Ab <| A6 rfl <| Aj <| Ae ?_; refine Af <| Zm rfl (hd 17 rfl) <| Zm rfl (hd 18 rfl) ?_
  refine Ag Tryz.f107 (Hl v w (by omega) (by omega) h0) rfl Tryz.func107 rfl rfl (Aa rfl (Aa rfl Ad)) (.cons .n (.cons .n .nil)) (hd 19 rfl) ?_ (fun _ h => by simp at h)
  rintro _ ⟨⟩; refine Zm rfl (hd 16 rfl) <| Ac (Ai rfl rfl) (hd 20 rfl) <| Ac (Ai rfl rfl) (hd 21 rfl) <| Za rfl (hd 7 rfl) <| Za rfl (hd 8 rfl) <| Ab <| Ae <| Zs <| Zm rfl (hd 22 rfl) ?_
  refine Ag Tryz.f30 (Dd (qn v w) (by omega)) rfl Tryz.func30 rfl rfl (Aa rfl Ad) (.cons .n .nil) (hd 23 rfl) ?_ (fun _ h => by simp at h)
  rintro _ ⟨⟩; refine Ac (E6 (Ce rfl rfl) (by omega)) (hd 24 rfl) <| Zm rfl (hd 25 rfl) <| Bz 25 rfl rfl rfl (hd 26 rfl) <| Bz 25 rfl rfl rfl (hd 27 rfl) <| Bz 25 rfl rfl rfl (hd 28 rfl) <| Ac (Bt rfl rfl) (hd 29 rfl) <| Ab <| Cw rfl <| Zs <| Za rfl (hd 4 rfl) <| Za rfl (hd 5 rfl) <| Za rfl (hd 6 rfl) ?_; refine Ab <| An ?_
  refine ⟨_, _, (.cons rfl (.cons rfl (.cons rfl .nil))), (.t1 (.nil (fr := false) (k := .u64)) (.t1 (.nil (fr := false) (k := .u64)) (.t1 .i .t0))), ?_⟩
  exact rfl

theorem Ai8 (v : Int) (h0 : 0 ≤ v) (hv : Al v ≤ 67108864) (ho : 67108864 < Al (v + 1)) : Spec Tryz.prog 104 [.n false .u64 (lm v), .n false .u64 [1]] (fun o => o = .ret (.t [.n false .u64 [], .i .i64 3])) := by
  have hlv := Bv hv
  have ev : vl (lm v) = v := by rw [Qa]; omega
  have u1 : Av [1] := Xu (by decide) (by decide)
  have hd : vl (Lo (lm v) [1]) = v + 1 := by rw [Mj, ev]; rfl
  have hc := Qv (a := (swL (trm (lm v)) (trm [1])).1) (b := (swL (trm (lm v)) (trm [1])).2) (by unfold swL; split; exact A8 u1; exact A8 (Cu v)) (by unfold swL; split; exact A8 (Cu v); exact A8 u1) (swL (trm (lm v)) (trm [1])).1.length
  have hu : Av (Lo (lm v) [1]) := D9 (Qu _) hc.1 (by omega)
  have e := Fo hu hd
  exact Xh (lm v) [1] (by omega) (by decide) (Cu v) u1 (by rw [e, K7]; exact ho)
theorem Acg {k : Nat} {v w : Int} (hw : w ≠ 0) : Al (qn v w) ≤ Al (wq k v w) := by
  obtain ⟨hx, h0, h1, h2⟩ := Fi (v := v) hw
  by_cases hr : rn v w ≠ 0 ∧ gro k v w = true
  · have h := (I1 hw hr.1 hr.2).1
    rw [← h]
    exact B7 (by rw [Fp]; omega)
  · have h := (Ll (k := k) hw (v := v) (by
      by_cases h1 : rn v w = 0
      · exact .inl h1
      · right; cases h2 : gro k v w
        · rfl
        · exact absurd ⟨h1, h2⟩ hr)).1
    rw [← h]
    exact B7 (by rw [Fp]; exact Nat.le_refl _)

theorem Sc (k : Nat) (F : FuncId) (fnF : Func) (hk : k < 5) (hcell : [V.f 117 [], V.f 118 [], V.f 119 [], V.f 120 [], V.f 122 []][k]? = some (V.f F [])) (hfn : Tryz.prog.funcs[F]? = some fnF) (hfb : fnF.body.isSome = true) (hfx : (fnF.name == "runtime.NumGoroutine") = false) (s t : Bool) (a b : List Int) (v w : Int) (la : a.length < 1099511627776) (lb : b.length < 1099511627776) (ua : Av a) (ub : Av b) (ev : sv s a = v) (ew : sv t b = w) (hv : (lm v).length ≤ 8388608)  (hqw : Al (wq k v w) ≤ 67108864) (hw : Al w ≤ 67108864) (h0 : w ≠ 0) (hway : Spec Tryz.prog F [.n false .u64 (lm (qn v w)), .n false .u64 (lm (rn v w)), .n false .u64 (lm w), .b (ng v w), .b (decide (w < 0)), .b (decide (v < 0))] (fun o => o = .ret (.b (gro k v w))))  : SpecM Tryz.prog 69 [.a [.b s, .n false .u64 a], .a [.b t, .n false .u64 b], .i .i64 (k : Int)] [] (fun o G => o = .ret (.t [.a [.b (decide ((wq k v w) < 0)), .o 0 0 0 (lm (wq k v w)).length], .a [.b (decide ((v - wq k v w * w) < 0)), .o 1 0 0 (lm (v - wq k v w * w)).length], .i .i64 0]) ∧ G = [⟨71, 1, 0, true, ints .u64 (lm (wq k v w))⟩, ⟨71, 1, 0, true, ints .u64 (lm (v - wq k v w * w))⟩]) := by
  refine Ei [(0, .a [.b s, .n false .u64 a]), (1, .a [.b t, .n false .u64 b]), (2, .i .i64 (k : Int))] rfl Tryz.func69 rfl (Zb rfl) fun Γ hN hds hL hR => ?_
  have hd := B2 103 hN
  have hlw := Bv hw
  obtain ⟨hx, hr0, hr1, hq0⟩ := Fi (v := v) h0
  have hqn : Al (qn v w) ≤ 67108864 := Nat.le_trans (Acg (k := k) h0) hqw
  have hlq := Bv hqn
  have hlr := B7 (v := rn v w) (w := w) (Oe h0).1
  have hlR := Bv (v := rn v w) (by omega)
  have habs : lm (w.natAbs : Int) = lm w := by unfold lm; rw [Int.natAbs_natCast]
  have hlenw : Al (w.natAbs : Int) = Al w := by unfold Al; rw [Int.natAbs_natCast]
  have hS := Akr (w.natAbs : Int) (rn v w) hr0 (by omega) (by omega)
  rw [habs] at hS
  have hwl := (Ny (k := k) (v := v) h0).2
  refine Zs <| A1 (Bn (id := 0) (n := 2) rfl rfl rfl (by decide) rfl) (hd 3 rfl) <| A1 (Bn (id := 1) (n := 2) rfl rfl rfl (by decide) rfl) (hd 4 rfl) <| A1 (Aq (id := 2) Az (by decide) rfl (by decide) rfl) (hd 6 rfl) <| A1 (Aq (id := 3) Az (by decide) rfl (by decide) rfl) (hd 7 rfl) <| Za rfl (hd 8 rfl) <| Ab <| Ae <| Bo (n := 6) _ rfl B9 <| Z2 0 [1, 3, 4, 5] (Am (Au Bw rfl rfl rfl rfl) (hd 16 rfl)) rfl <| Z2 2 [3, 4, 5] (Am (Au Bw rfl rfl rfl rfl) (hd 18 rfl)) rfl ?_
  refine Be 1 ?_ rfl (by kernel_rfl)
  refine Ax Tryz.f101 (Lz s a v la ua ev) rfl Tryz.func101 rfl rfl (Aa rfl Ad) (.cons (.a1 .b (.a1 .n .a0)) .nil) (hd 17 rfl) ?_ (fun _ h => by simp at h)
  rintro y hy; injection hy with hy; subst hy
  refine Be 3 ?_ rfl (by kernel_rfl)
  refine Ax Tryz.f101 (Lz t b w lb ub ew) rfl Tryz.func101 rfl rfl (Aa rfl Ad) (.cons (.a1 .b (.a1 .n .a0)) .nil) (hd 19 rfl) ?_ (fun _ h => by simp at h)
  rintro y hy; injection hy with hy; subst hy
  refine Be 4 ?_ rfl (by kernel_rfl)
  refine Cl (Ah rfl rfl rfl B6 rfl rfl (Zb rfl)) rfl ?_
  refine Be 5 ?_ rfl (by kernel_rfl)
  refine Cl (Ah rfl rfl rfl B6 rfl rfl (Zb rfl)) rfl <| Bx (by kernel_rfl) <| Zs <| Ac (A5 By rfl rfl rfl) (hd 21 rfl) <| Ac (A9 B5 rfl rfl rfl) (hd 22 rfl) <| Ac (A5 By rfl rfl rfl) (hd 23 rfl) <| Ac (A9 B5 rfl rfl rfl) (hd 24 rfl) ?_
  refine Ag Tryz.f102 (Ab9 v w hv hqn hw h0) rfl Tryz.func102 rfl rfl (Aa rfl (Aa rfl Ad)) (.cons .n (.cons .n .nil)) (hd 25 rfl) ?_ (fun _ h => by simp at h)
  rintro _ ⟨⟩; refine Zm rfl (hd 20 rfl) <| Ac (Ai rfl rfl) (hd 26 rfl) <| Ac (Ai rfl rfl) (hd 27 rfl) <| Ac (Ai rfl rfl) (hd 28 rfl) <| Za rfl (hd 9 rfl) <| Za rfl (hd 10 rfl) <| Za rfl (hd 11 rfl) <| Ab <| Ae <| Zs <| Zm rfl (hd 29 rfl) <| Ac (B0 (Ec rfl rfl) (by simp)) (hd 30 rfl) ?_; refine Ab <| A6 rfl <| Aj <| Ae <| Bo (n := 9) _ rfl B9 <| Z2 0 [1, 4, 7, 8] (Am (A5 Cx rfl rfl rfl) (hd 34 rfl)) rfl <| Z1 1 (Am (A9 Il rfl rfl rfl) (hd 35 rfl)) rfl <| Z2 2 [3, 4, 7, 8] (Am (A5 Cx rfl rfl rfl) (hd 36 rfl)) rfl <| Z1 3 (Am (A9 Il rfl rfl rfl) (hd 37 rfl)) rfl <| Z1 4 (Am (Bk (Ot Afk rfl rfl) (show V.b _ = V.b (ng v w) from rfl)) (hd 38 rfl)) rfl <| Z1 5 (Am (A5 Cx rfl rfl rfl) (hd 39 rfl)) rfl <| Z1 6 (Am (A9 Il rfl rfl rfl) (hd 40 rfl)) rfl <| Z1 7 (Am (Cm rfl) (hd 12 rfl)) rfl ?_; refine Z1 8 (Am (Cm rfl) (hd 13 rfl)) rfl <| Bx (by kernel_rfl) ?_
  refine C9 (G := Int × Int × Bool) (fun g => sgd (ng v w) g.1 = (wq k v w) ∧ sgd g.2.2 g.2.1 = (v - wq k v w * w) ∧ 0 ≤ g.1 ∧ 0 ≤ g.2.1) (fun g => [(9, .n false .u64 (lm g.1)), (10, .n false .u64 (lm g.2.1)), (13, .b g.2.2), (8, .u), (11, .u), (41, .u), (42, .u), (43, .u), (44, .u), (45, .u), (46, .u), (47, .u), (48, .u), (49, .u), (50, .u), (51, .u), (52, .u), (53, .u), (54, .u), (55, .u), (56, .u), (57, .u), (58, .u), (59, .u), (60, .u), (61, .u), (62, .u), (63, .u), (64, .u), (65, .u), (66, .u), (67, .u), (68, .u), (69, .u), (70, .u), (71, .u), (72, .u), (73, .u), (74, .u), (75, .u), (76, .u), (77, .u), (78, .u)]) ?_ ?_
  · refine Ae <| Bo (n := 18) _ rfl B9 <| Z2 0 [1, 2, 3, 4, 5, 6, 7, 8, 9, 10, 11, 12, 13, 14, 15, 16, 17] (Am (Ay rfl) (hd 41 rfl)) rfl ?_
    refine Be 1 ?_ rfl (by kernel_rfl)
    refine Ax Tryz.f30 (Dd (rn v w) (by omega)) rfl Tryz.func30 rfl rfl (Aa rfl Ad) (.cons .n .nil) (hd 42 rfl) ?_ (fun _ h => by simp at h)
    rintro _ ⟨⟩; refine Z2 2 [3, 4, 5, 6, 7, 8, 9, 10, 11, 12, 13, 14, 15, 16, 17] (Am (Ce rfl rfl) (hd 43 rfl)) rfl <| Z1 3 (Am (Ay rfl) (hd 44 rfl)) rfl ?_
    refine R2 44 rfl (fun h2 => ?_) (fun h2 => ?_)
    · have hrn : rn v w ≠ 0 := fun e => by have := Vn.2 e; omega
      refine Z2 5 [6, 16, 17] (Ip 44 rfl rfl (Ay rfl) (hd 46 rfl)) rfl <| Z2 7 [16, 17] (Ip 44 rfl rfl (Ay rfl) (hd 48 rfl)) rfl <| Z2 8 [16, 17] (Ip 44 rfl rfl (Ay rfl) (hd 49 rfl)) rfl <| Z2 9 [10, 16, 17] (Ip 44 rfl rfl (A5 By rfl rfl rfl) (hd 50 rfl)) rfl <| Z2 10 [16, 17] (Ip 44 rfl rfl (A9 B5 rfl rfl rfl) (hd 51 rfl)) rfl <| Z2 11 [16, 17] (Ip 44 rfl rfl (Ay rfl) (hd 52 rfl)) rfl <| Z2 12 [13, 16, 17] (Ip 44 rfl rfl (A5 Cx rfl rfl rfl) (hd 53 rfl)) rfl <| Z2 13 [16, 17] (Ip 44 rfl rfl (A9 Il rfl rfl rfl) (hd 54 rfl)) rfl <| Z2 14 [15, 16, 17] (Ip 44 rfl rfl (A5 Cx rfl rfl rfl) (hd 55 rfl)) rfl <| Z2 15 [16, 17] (Ip 44 rfl rfl (A9 Il rfl rfl rfl) (hd 56 rfl)) rfl ?_
      refine Be 4 ?_ rfl (by kernel_rfl)
      refine E9 Tryz.f103 44 rfl rfl (Aap) rfl Tryz.func103 rfl rfl Ad .nil (hd 45 rfl) ?_ (fun _ h => by simp at h)
      rintro _ ⟨⟩; refine Z2 6 [16, 17] (Ip 44 rfl rfl (Abl (i := k) Tr Abg rfl rfl rfl hk hcell) (hd 47 rfl)) rfl ?_
      refine Be 16 ?_ rfl (by kernel_rfl)
      refine E9 fnF 44 rfl rfl hway rfl hfn hfb hfx (Aa rfl (Aa rfl (Aa rfl (Aa rfl (Aa rfl (Aa rfl Ad)))))) (.cons .n (.cons .n (.cons .n (.cons .b (.cons .b (.cons .b .nil)))))) (hd 57 rfl) ?_ (fun _ h => by simp at h)
      rintro _ ⟨⟩; refine Z1 17 (Am (Bt rfl rfl) (hd 58 rfl)) rfl <| Bx (by kernel_rfl) ?_
      refine F7 rfl (fun h3 => ?_) (fun h3 => ?_)
      · have hg : gro k v w = true := h3
        refine Ae <| Zs <| Zm rfl (hd 60 rfl) ?_
        refine Ag Tryz.f35 (Xg) rfl Tryz.func35 rfl rfl (Aa rfl Ad) (.cons .i .nil) (hd 61 rfl) ?_ (fun _ h => by simp at h)
        rintro y hy; injection hy with hy; subst hy
        refine Ag Tryz.f104 (Ai7 (qn v w) hq0 (by have h9 := (I1 (k := k) h0 hrn hg).1; have h8 : Al (qn v w + 1) ≤ Al (wq k v w) := B7 (by rw [← h9, Fp]; exact Nat.le_refl _); omega)) rfl Tryz.func104 rfl rfl (Aa rfl (Aa rfl Ad)) (.cons .n (.cons .n .nil)) (hd 62 rfl) ?_ (fun _ h => by simp at h)
        rintro _ ⟨⟩; refine Zm rfl (hd 59 rfl) <| Ac (Ai rfl rfl) (hd 63 rfl) <| Ac (Ai rfl rfl) (hd 64 rfl) <| Za rfl (hd 9 rfl) <| Za rfl (hd 11 rfl) <| Ab <| Zs <| Zm rfl (hd 65 rfl) <| Ac (B0 (Ec rfl rfl) (by simp)) (hd 66 rfl) <| Ab <| A6 rfl <| Aj ?_; refine Zs <| Ac (A5 By rfl rfl rfl) (hd 71 rfl) <| Ac (A9 B5 rfl rfl rfl) (hd 72 rfl) <| Zm rfl (hd 73 rfl) ?_
        refine Ag Tryz.f105 (hS) rfl Tryz.func105 rfl rfl (Aa rfl (Aa rfl Ad)) (.cons .n (.cons .n .nil)) (hd 74 rfl) ?_ (fun _ h => by simp at h)
        rintro _ ⟨⟩; refine Zm rfl (hd 70 rfl) <| Ac (Ai rfl rfl) (hd 75 rfl) <| Ac (Ai rfl rfl) (hd 76 rfl) <| Za rfl (hd 10 rfl) <| Ab <| Af <| Zm rfl (hd 77 rfl) <| Ac (Ha rfl) (hd 78 rfl) <| Za rfl (hd 13 rfl) <| Ab ?_
        refine ⟨(qn v w + 1, (w.natAbs : Int) - rn v w, !decide (v < 0)), ?_, rfl, Bj 40 rfl rfl ?_⟩
        · have hy := I1 (k := k) h0 hrn hg
          exact ⟨hy.1, hy.2, by show 0 ≤ qn v w + 1; omega, by show 0 ≤ (w.natAbs : Int) - rn v w; omega⟩
        · exact (.cons rfl (.cons rfl (.cons rfl (.v9 (.v9 (.v9 (.v9 .nil)))))))
      · have hg : gro k v w = false := h3
        refine Aj ?_
        refine ⟨(qn v w, rn v w, decide (v < 0)), ?_, rfl, Bj 19 rfl rfl ?_⟩
        · have hy := Ll (k := k) h0 (by first | exact .inl hrn | exact .inr hg)
          exact ⟨hy.1, hy.2, hq0, hr0⟩
        · exact (.cons rfl (.cons rfl (.cons rfl (.v9 (.v9 (.v9 (.v9 .nil)))))))
    · have hrn : rn v w = 0 := Vn.1 (by omega)
      refine Z2 5 [6, 16, 17] (H4 44 rfl rfl rfl (hd 46 rfl)) rfl <| Z2 7 [16, 17] (H4 44 rfl rfl rfl (hd 48 rfl)) rfl <| Z2 8 [16, 17] (H4 44 rfl rfl rfl (hd 49 rfl)) rfl <| Z2 9 [10, 16, 17] (H4 44 rfl rfl rfl (hd 50 rfl)) rfl <| Z2 10 [16, 17] (H4 44 rfl rfl rfl (hd 51 rfl)) rfl <| Z2 11 [16, 17] (H4 44 rfl rfl rfl (hd 52 rfl)) rfl <| Z2 12 [13, 16, 17] (H4 44 rfl rfl rfl (hd 53 rfl)) rfl <| Z2 13 [16, 17] (H4 44 rfl rfl rfl (hd 54 rfl)) rfl <| Z2 14 [15, 16, 17] (H4 44 rfl rfl rfl (hd 55 rfl)) rfl <| Z2 15 [16, 17] (H4 44 rfl rfl rfl (hd 56 rfl)) rfl <| Z2 4 [6, 16, 17] (H4 44 rfl rfl rfl (hd 45 rfl)) rfl <| Z2 6 [16, 17] (H4 44 rfl rfl rfl (hd 47 rfl)) rfl <| Z1 16 (H4 44 rfl rfl rfl (hd 57 rfl)) rfl ?_; refine Z1 17 (Am (Bg rfl rfl) (hd 58 rfl)) rfl <| Bx (by kernel_rfl) <| A6 rfl <| Aj ?_
      refine ⟨(qn v w, rn v w, decide (v < 0)), ?_, rfl, Bj 19 rfl rfl ?_⟩
      · have hy := Ll (k := k) h0 (by first | exact .inl hrn | exact .inr hg)
        exact ⟨hy.1, hy.2, hq0, hr0⟩
      · exact (.cons rfl (.cons rfl (.cons rfl (.v9 (.v9 (.v9 (.v9 .nil)))))))
  · rintro ⟨q, r, rs⟩ ⟨hc1, hc2, hc3, hc4⟩
    dsimp only at hc1 hc2 hc3 hc4
    have hq1 : Al q ≤ 67108864 := by have := B7 (v := q) (w := (wq k v w)) (by rw [← hc1, Fp]; exact Nat.le_refl _); omega
    have hr2 : Al r ≤ 67108864 := by have := B7 (v := r) (w := (v - wq k v w * w)) (by rw [← hc2, Fp]; exact Nat.le_refl _); omega
    have hql := Bv hq1
    have hrl := Bv hr2
    refine Zs <| Zm rfl (hd 80 rfl) <| Zm rfl (hd 81 rfl) ?_
    refine Fk Tryz.f106 (Of (ng v w) (lm q) (wq k v w) (by omega) (Cu q) (by rw [Aa0 hc3]; exact hc1) (by omega)) (fun o G ⟨_, h⟩ => h ▸ Ao Bc A0) rfl Tryz.func106 rfl rfl (Aa rfl (Aa rfl (Aa rfl Ad))) (.cons .b (.cons .n (.cons .i .nil))) (hd 82 rfl) ?_ (fun _ _ h => by simp at h)
    rintro y G ⟨hy, rfl⟩; injection hy with hy; subst hy
    show JO _ _ _ _ ((82, .t [.a [.b (decide ((wq k v w) < 0)), .o 4 0 0 (lm (wq k v w)).length], .i .i64 0]) :: _) _ _
    refine Zm rfl (hd 79 rfl) <| Ac (Ai rfl rfl) (hd 83 rfl) <| Ac (Ai rfl rfl) (hd 84 rfl) <| A1 (Aq (id := 5) Az (by decide) rfl (by decide) rfl) (hd 14 rfl) <| A3 (Ah rfl rfl rfl B6 rfl rfl (Zb rfl)) <| Za rfl (hd 11 rfl) <| Ab <| Ae <| Zs <| Zm rfl (hd 85 rfl) <| Ac (B0 (Ec rfl rfl) (by simp)) (hd 86 rfl) <| Ab ?_; refine A6 rfl <| Aj <| Zs <| Zm rfl (hd 91 rfl) <| Zm rfl (hd 92 rfl) ?_
    refine Fk Tryz.f106 (Of rs (lm r) (v - wq k v w * w) (by omega) (Cu r) (by rw [Aa0 hc4]; exact hc2) (by omega)) (fun o G ⟨_, h⟩ => h ▸ Ao Bc A0) rfl Tryz.func106 rfl rfl (Aa rfl (Aa rfl (Aa rfl Ad))) (.cons .b (.cons .n (.cons .i .nil))) (hd 93 rfl) ?_ (fun _ _ h => by simp at h)
    rintro y G ⟨hy, rfl⟩; injection hy with hy; subst hy
    show JO _ _ _ _ ((93, .t [.a [.b (decide ((v - wq k v w * w) < 0)), .o 6 0 0 (lm (v - wq k v w * w)).length], .i .i64 0]) :: _) _ _
    refine Zm rfl (hd 90 rfl) <| Ac (Ai rfl rfl) (hd 94 rfl) <| Ac (Ai rfl rfl) (hd 95 rfl) <| A1 (Aq (id := 7) Az (by decide) rfl (by decide) rfl) (hd 15 rfl) <| A3 (Ah rfl rfl rfl B6 rfl rfl (Zb rfl)) <| Za rfl (hd 11 rfl) <| Ab <| Ae <| Zs <| Zm rfl (hd 96 rfl) <| Ac (B0 (Ec rfl rfl) (by simp)) (hd 97 rfl) <| Ab ?_; refine A6 rfl <| Aj <| Ae <| Bo (n := 5) _ rfl B9 <| Z1 0 (Am (Au Bw rfl rfl rfl rfl) (hd 101 rfl)) rfl ?_
    refine J8 1 2 ?_ ?_ rfl rfl (by kernel_rfl)
    · refine Ahs (Au Bw rfl rfl rfl rfl) (hd 102 rfl) ?_
      refine Be 2 ?_ rfl (by kernel_rfl)
      refine Cl (Ah rfl rfl rfl B6 rfl rfl (Zb rfl)) rfl ?_
      refine Be 3 ?_ rfl (by kernel_rfl)
      refine Cl (Ah rfl rfl rfl B6 rfl rfl (Zb rfl)) rfl <| Z1 4 (Am (Cm rfl) (hd 8 rfl)) rfl <| Bx (by kernel_rfl) <| An ?_
      refine ⟨[4, 6], _, (.t [.a [.b (decide ((wq k v w) < 0)), .o 0 0 0 (lm (wq k v w)).length], .a [.b (decide ((v - wq k v w * w) < 0)), .o 1 0 0 (lm (v - wq k v w * w)).length], .i .i64 0]), (.cons (ResV.cell Bw rfl rfl rfl rfl) (.cons (ResV.cell Bw rfl rfl rfl rfl) (.cons rfl .nil))), rfl, rfl, (by decide), (by first | exact Ao Bc (Ao Bc A0) | exact Ao rfl (Ao rfl A0)), ?_⟩
      exact ⟨rfl, rfl⟩
    · refine Cl (Ah rfl rfl rfl B6 rfl rfl (Zb rfl)) rfl <| Z1 1 (Am (Au Bw rfl rfl rfl rfl) (hd 102 rfl)) rfl ?_
      refine Be 3 ?_ rfl (by kernel_rfl)
      refine Cl (Ah rfl rfl rfl B6 rfl rfl (Zb rfl)) rfl <| Z1 4 (Am (Cm rfl) (hd 8 rfl)) rfl <| Bx (by kernel_rfl) <| An ?_
      refine ⟨[4, 6], _, (.t [.a [.b (decide ((wq k v w) < 0)), .o 0 0 0 (lm (wq k v w)).length], .a [.b (decide ((v - wq k v w * w) < 0)), .o 1 0 0 (lm (v - wq k v w * w)).length], .i .i64 0]), (.cons (ResV.cell Bw rfl rfl rfl rfl) (.cons (ResV.cell Bw rfl rfl rfl rfl) (.cons rfl .nil))), rfl, rfl, (by decide), (by first | exact Ao Bc (Ao Bc A0) | exact Ao rfl (Ao rfl A0)), ?_⟩
      exact ⟨rfl, rfl⟩

theorem Afh (s t : Bool) (a b : List Int) (v w : Int) (la : a.length < 1099511627776) (lb : b.length < 1099511627776) (ua : Av a) (ub : Av b) (ev : sv s a = v) (ew : sv t b = w) (hv : (lm v).length ≤ 8388608)  (hqw : Al (wq 1 v w) ≤ 67108864) (hw : Al w ≤ 67108864) (h0 : w ≠ 0) : SpecM Tryz.prog 26 [.a [.b s, .n false .u64 a], .a [.b t, .n false .u64 b]] [] (fun o G => o = .ret (.t [.a [.b (decide ((wq 1 v w) < 0)), .o 0 0 0 (lm (wq 1 v w)).length], .a [.b (decide ((v - wq 1 v w * w) < 0)), .o 1 0 0 (lm (v - wq 1 v w * w)).length], .i .i64 0]) ∧ G = [⟨71, 1, 0, true, ints .u64 (lm (wq 1 v w))⟩, ⟨71, 1, 0, true, ints .u64 (lm (v - wq 1 v w * w))⟩]) := by
  refine Ei [(0, .a [.b s, .n false .u64 a]), (1, .a [.b t, .n false .u64 b])] rfl Tryz.func26 rfl (Zb rfl) fun Γ hN hds hL hR => ?_
  have hd := B2 13 hN
  have hqn : Al (qn v w) ≤ 67108864 := Nat.le_trans (Acg (k := 1) h0) hqw
  refine Zs <| A1 (Bn (id := 0) (n := 2) rfl rfl rfl (by decide) rfl) (hd 2 rfl) <| A1 (Bn (id := 1) (n := 2) rfl rfl rfl (by decide) rfl) (hd 3 rfl) <| A1 (Aq (id := 2) Az (by decide) rfl (by decide) rfl) (hd 4 rfl) <| A1 (Aq (id := 3) Az (by decide) rfl (by decide) rfl) (hd 5 rfl) <| Za rfl (hd 6 rfl) <| Ab <| Zs <| Ac (Au Bw rfl rfl rfl rfl) (hd 7 rfl) <| Ac (Au Bw rfl rfl rfl rfl) (hd 8 rfl) ?_
  refine Fk Tryz.f69 (Sc 1 _ Tryz.f118 (by decide) rfl Tryz.func118 rfl rfl s t a b v w la lb ua ub ev ew hv hqw hw h0 (Aar v w)) (fun o G ⟨_, h⟩ => h ▸ Ao Bc (Ao Bc A0)) rfl Tryz.func69 rfl rfl (Aa rfl (Aa rfl (Aa rfl Ad))) (.cons (.a1 .b (.a1 .n .a0)) (.cons (.a1 .b (.a1 .n .a0)) (.cons .i .nil))) (hd 9 rfl) ?_ (fun _ _ h => by simp at h)
  rintro y G ⟨hy, rfl⟩; injection hy with hy; subst hy
  show JO _ _ _ _ ((9, .t [.a [.b (decide ((wq 1 v w) < 0)), .o 4 0 0 (lm (wq 1 v w)).length], .a [.b (decide ((v - wq 1 v w * w) < 0)), .o 5 0 0 (lm (v - wq 1 v w * w)).length], .i .i64 0]) :: _) _ _
  refine Ac (Ai rfl rfl) (hd 10 rfl) <| Ac (Ai rfl rfl) (hd 11 rfl) <| Ac (Ai rfl rfl) (hd 12 rfl) <| A3 (Ah rfl rfl rfl B6 rfl rfl (Zb rfl)) <| A3 (Ah rfl rfl rfl B6 rfl rfl (Zb rfl)) <| Za rfl (hd 6 rfl) <| Ab <| An ?_
  refine ⟨[4, 5], _, (.t [.a [.b (decide ((wq 1 v w) < 0)), .o 0 0 0 (lm (wq 1 v w)).length], .a [.b (decide ((v - wq 1 v w * w) < 0)), .o 1 0 0 (lm (v - wq 1 v w * w)).length], .i .i64 0]), (.cons (ResV.cell Bw rfl rfl rfl rfl) (.cons (ResV.cell Bw rfl rfl rfl rfl) (.cons rfl .nil))), rfl, rfl, (by decide), (by first | exact Ao Bc (Ao Bc A0) | exact Ao rfl (Ao rfl A0)), ?_⟩
  exact ⟨rfl, rfl⟩

theorem Ai1 (s t : Bool) (a b : List Int) (v w : Int) (la : a.length < 1099511627776) (lb : b.length < 1099511627776) (ua : Av a) (ub : Av b) (ev : sv s a = v) (ew : sv t b = w) (hv : (lm v).length ≤ 8388608)  (hqw : Al (wq 2 v w) ≤ 67108864) (hw : Al w ≤ 67108864) (h0 : w ≠ 0) : SpecM Tryz.prog 27 [.a [.b s, .n false .u64 a], .a [.b t, .n false .u64 b]] [] (fun o G => o = .ret (.t [.a [.b (decide ((wq 2 v w) < 0)), .o 0 0 0 (lm (wq 2 v w)).length], .a [.b (decide ((v - wq 2 v w * w) < 0)), .o 1 0 0 (lm (v - wq 2 v w * w)).length], .i .i64 0]) ∧ G = [⟨71, 1, 0, true, ints .u64 (lm (wq 2 v w))⟩, ⟨71, 1, 0, true, ints .u64 (lm (v - wq 2 v w * w))⟩]) := by
  refine Ei [(0, .a [.b s, .n false .u64 a]), (1, .a [.b t, .n false .u64 b])] rfl Tryz.func27 rfl (Zb rfl) fun Γ hN hds hL hR => ?_
  have hd := B2 13 hN
  have hqn : Al (qn v w) ≤ 67108864 := Nat.le_trans (Acg (k := 2) h0) hqw
  refine Zs <| A1 (Bn (id := 0) (n := 2) rfl rfl rfl (by decide) rfl) (hd 2 rfl) <| A1 (Bn (id := 1) (n := 2) rfl rfl rfl (by decide) rfl) (hd 3 rfl) <| A1 (Aq (id := 2) Az (by decide) rfl (by decide) rfl) (hd 4 rfl) <| A1 (Aq (id := 3) Az (by decide) rfl (by decide) rfl) (hd 5 rfl) <| Za rfl (hd 6 rfl) <| Ab <| Zs <| Ac (Au Bw rfl rfl rfl rfl) (hd 7 rfl) <| Ac (Au Bw rfl rfl rfl rfl) (hd 8 rfl) ?_
  refine Fk Tryz.f69 (Sc 2 _ Tryz.f119 (by decide) rfl Tryz.func119 rfl rfl s t a b v w la lb ua ub ev ew hv hqw hw h0 (Aaq v w)) (fun o G ⟨_, h⟩ => h ▸ Ao Bc (Ao Bc A0)) rfl Tryz.func69 rfl rfl (Aa rfl (Aa rfl (Aa rfl Ad))) (.cons (.a1 .b (.a1 .n .a0)) (.cons (.a1 .b (.a1 .n .a0)) (.cons .i .nil))) (hd 9 rfl) ?_ (fun _ _ h => by simp at h)
  rintro y G ⟨hy, rfl⟩; injection hy with hy; subst hy
  show JO _ _ _ _ ((9, .t [.a [.b (decide ((wq 2 v w) < 0)), .o 4 0 0 (lm (wq 2 v w)).length], .a [.b (decide ((v - wq 2 v w * w) < 0)), .o 5 0 0 (lm (v - wq 2 v w * w)).length], .i .i64 0]) :: _) _ _
  refine Ac (Ai rfl rfl) (hd 10 rfl) <| Ac (Ai rfl rfl) (hd 11 rfl) <| Ac (Ai rfl rfl) (hd 12 rfl) <| A3 (Ah rfl rfl rfl B6 rfl rfl (Zb rfl)) <| A3 (Ah rfl rfl rfl B6 rfl rfl (Zb rfl)) <| Za rfl (hd 6 rfl) <| Ab <| An ?_
  refine ⟨[4, 5], _, (.t [.a [.b (decide ((wq 2 v w) < 0)), .o 0 0 0 (lm (wq 2 v w)).length], .a [.b (decide ((v - wq 2 v w * w) < 0)), .o 1 0 0 (lm (v - wq 2 v w * w)).length], .i .i64 0]), (.cons (ResV.cell Bw rfl rfl rfl rfl) (.cons (ResV.cell Bw rfl rfl rfl rfl) (.cons rfl .nil))), rfl, rfl, (by decide), (by first | exact Ao Bc (Ao Bc A0) | exact Ao rfl (Ao rfl A0)), ?_⟩
  exact ⟨rfl, rfl⟩





theorem Sb (k : Int) (s t : Bool) (a b : List Int) (v w : Int) (la : a.length < 1099511627776) (lb : b.length < 1099511627776) (ua : Av a) (ub : Av b) (ev : sv s a = v) (ew : sv t b = w) (hv : (lm v).length ≤ 8388608)  (hqn : 67108864 < Al (qn v w)) (hql : (lm (qn v w)).length ≤ 8388608) (hw : Al w ≤ 67108864) (h0 : w ≠ 0) : Spec Tryz.prog 69 [.a [.b s, .n false .u64 a], .a [.b t, .n false .u64 b], .i .i64 k] (fun o => o = .ret (.t [(.a [.b false, .n false .u64 []]), (.a [.b false, .n false .u64 []]), .i .i64 3])) := by
  refine Aw [(0, .a [.b s, .n false .u64 a]), (1, .a [.b t, .n false .u64 b]), (2, .i .i64 k)] rfl Tryz.func69 rfl (Zb rfl) fun Γ hN hds hL hR => ?_
  have hd := B2 103 hN
  have hlw := Bv hw
  refine Zs <| A1 (Bn (id := 0) (n := 2) rfl rfl rfl (by decide) rfl) (hd 3 rfl) <| A1 (Bn (id := 1) (n := 2) rfl rfl rfl (by decide) rfl) (hd 4 rfl) <| A1 (Aq (id := 2) Az (by decide) rfl (by decide) rfl) (hd 6 rfl) <| A1 (Aq (id := 3) Az (by decide) rfl (by decide) rfl) (hd 7 rfl) <| Za rfl (hd 8 rfl) <| Ab <| Ae <| Bo (n := 6) _ rfl B9 <| Z2 0 [1, 3, 4, 5] (Am (Au Bw rfl rfl rfl rfl) (hd 16 rfl)) rfl <| Z2 2 [3, 4, 5] (Am (Au Bw rfl rfl rfl rfl) (hd 18 rfl)) rfl ?_
  refine Be 1 ?_ rfl (by kernel_rfl)
  refine Ax Tryz.f101 (Lz s a v la ua ev) rfl Tryz.func101 rfl rfl (Aa rfl Ad) (.cons (.a1 .b (.a1 .n .a0)) .nil) (hd 17 rfl) ?_ (fun _ h => by simp at h)
  rintro y hy; injection hy with hy; subst hy
  refine Be 3 ?_ rfl (by kernel_rfl)
  refine Ax Tryz.f101 (Lz t b w lb ub ew) rfl Tryz.func101 rfl rfl (Aa rfl Ad) (.cons (.a1 .b (.a1 .n .a0)) .nil) (hd 19 rfl) ?_ (fun _ h => by simp at h)
  rintro y hy; injection hy with hy; subst hy
  refine Be 4 ?_ rfl (by kernel_rfl)
  refine Cl (Ah rfl rfl rfl B6 rfl rfl (Zb rfl)) rfl ?_
  refine Be 5 ?_ rfl (by kernel_rfl)
  refine Cl (Ah rfl rfl rfl B6 rfl rfl (Zb rfl)) rfl <| Bx (by kernel_rfl) <| Zs <| Ac (A5 By rfl rfl rfl) (hd 21 rfl) <| Ac (A9 B5 rfl rfl rfl) (hd 22 rfl) <| Ac (A5 By rfl rfl rfl) (hd 23 rfl) <| Ac (A9 B5 rfl rfl rfl) (hd 24 rfl) ?_
  refine Ag Tryz.f102 (Ai4 v w hv hqn hql hw h0) rfl Tryz.func102 rfl rfl (Aa rfl (Aa rfl Ad)) (.cons .n (.cons .n .nil)) (hd 25 rfl) ?_ (fun _ h => by simp at h)
  rintro _ ⟨⟩; refine Zm rfl (hd 20 rfl) <| Ac (Ai rfl rfl) (hd 26 rfl) <| Ac (Ai rfl rfl) (hd 27 rfl) <| Ac (Ai rfl rfl) (hd 28 rfl) <| Za rfl (hd 9 rfl) <| Za rfl (hd 10 rfl) <| Za rfl (hd 11 rfl) <| Ab <| Ae <| Zs <| Zm rfl (hd 29 rfl) <| Ac (E6 (Ec rfl rfl) (by decide)) (hd 30 rfl) ?_; refine Ab <| Cw rfl <| Zs <| Ac (Bp (is := []) (xs := []) (pls := []) Az Hr rfl Ad rfl trivial (Cd rfl) rfl) (hd 31 rfl) <| Ac (Bp (is := []) (xs := []) (pls := []) Az Hr rfl Ad rfl trivial (Cd rfl) rfl) (hd 32 rfl) <| Zm rfl (hd 33 rfl) <| A3 (Ah rfl rfl rfl B6 rfl rfl (Zb rfl)) <| A3 (Ah rfl rfl rfl B6 rfl rfl (Zb rfl)) <| Za rfl (hd 8 rfl) <| Ab <| An ?_
  refine ⟨_, _, (.cons (ResV.cell Bw rfl rfl rfl rfl) (.cons (ResV.cell Bw rfl rfl rfl rfl) (.cons rfl .nil))), (.t1 (.a1 .b (.a1 (.nil (fr := false) (k := .u64)) .a0)) (.t1 (.a1 .b (.a1 (.nil (fr := false) (k := .u64)) .a0)) (.t1 .i .t0))), ?_⟩
  exact rfl

theorem Sa (k : Nat) (F : FuncId) (fnF : Func) (hk : k < 5) (hcell : [V.f 117 [], V.f 118 [], V.f 119 [], V.f 120 [], V.f 122 []][k]? = some (V.f F [])) (hfn : Tryz.prog.funcs[F]? = some fnF) (hfb : fnF.body.isSome = true) (hfx : (fnF.name == "runtime.NumGoroutine") = false) (s t : Bool) (a b : List Int) (v w : Int) (la : a.length < 1099511627776) (lb : b.length < 1099511627776) (ua : Av a) (ub : Av b) (ev : sv s a = v) (ew : sv t b = w) (hv : (lm v).length ≤ 8388608)  (hqn : Al (qn v w) ≤ 67108864) (hrn : rn v w ≠ 0) (hg : gro k v w = true) (ho : 67108864 < Al (qn v w + 1)) (hw : Al w ≤ 67108864) (h0 : w ≠ 0) (hway : Spec Tryz.prog F [.n false .u64 (lm (qn v w)), .n false .u64 (lm (rn v w)), .n false .u64 (lm w), .b (ng v w), .b (decide (w < 0)), .b (decide (v < 0))] (fun o => o = .ret (.b (gro k v w))))  : Spec Tryz.prog 69 [.a [.b s, .n false .u64 a], .a [.b t, .n false .u64 b], .i .i64 (k : Int)] (fun o => o = .ret (.t [(.a [.b false, .n false .u64 []]), (.a [.b false, .n false .u64 []]), .i .i64 3])) := by
  refine Aw [(0, .a [.b s, .n false .u64 a]), (1, .a [.b t, .n false .u64 b]), (2, .i .i64 (k : Int))] rfl Tryz.func69 rfl (Zb rfl) fun Γ hN hds hL hR => ?_
  have hd := B2 103 hN
  have hlw := Bv hw
  obtain ⟨hx, hr0, hr1, hq0⟩ := Fi (v := v) h0
  have hlq := Bv hqn
  have hlr := B7 (v := rn v w) (w := w) (Oe h0).1
  have hlR := Bv (v := rn v w) (by omega)
  refine Zs <| A1 (Bn (id := 0) (n := 2) rfl rfl rfl (by decide) rfl) (hd 3 rfl) <| A1 (Bn (id := 1) (n := 2) rfl rfl rfl (by decide) rfl) (hd 4 rfl) <| A1 (Aq (id := 2) Az (by decide) rfl (by decide) rfl) (hd 6 rfl) <| A1 (Aq (id := 3) Az (by decide) rfl (by decide) rfl) (hd 7 rfl) <| Za rfl (hd 8 rfl) <| Ab <| Ae <| Bo (n := 6) _ rfl B9 <| Z2 0 [1, 3, 4, 5] (Am (Au Bw rfl rfl rfl rfl) (hd 16 rfl)) rfl <| Z2 2 [3, 4, 5] (Am (Au Bw rfl rfl rfl rfl) (hd 18 rfl)) rfl ?_
  refine Be 1 ?_ rfl (by kernel_rfl)
  refine Ax Tryz.f101 (Lz s a v la ua ev) rfl Tryz.func101 rfl rfl (Aa rfl Ad) (.cons (.a1 .b (.a1 .n .a0)) .nil) (hd 17 rfl) ?_ (fun _ h => by simp at h)
  rintro y hy; injection hy with hy; subst hy
  refine Be 3 ?_ rfl (by kernel_rfl)
  refine Ax Tryz.f101 (Lz t b w lb ub ew) rfl Tryz.func101 rfl rfl (Aa rfl Ad) (.cons (.a1 .b (.a1 .n .a0)) .nil) (hd 19 rfl) ?_ (fun _ h => by simp at h)
  rintro y hy; injection hy with hy; subst hy
  refine Be 4 ?_ rfl (by kernel_rfl)
  refine Cl (Ah rfl rfl rfl B6 rfl rfl (Zb rfl)) rfl ?_
  refine Be 5 ?_ rfl (by kernel_rfl)
  refine Cl (Ah rfl rfl rfl B6 rfl rfl (Zb rfl)) rfl <| Bx (by kernel_rfl) <| Zs <| Ac (A5 By rfl rfl rfl) (hd 21 rfl) <| Ac (A9 B5 rfl rfl rfl) (hd 22 rfl) <| Ac (A5 By rfl rfl rfl) (hd 23 rfl) <| Ac (A9 B5 rfl rfl rfl) (hd 24 rfl) ?_
  refine Ag Tryz.f102 (Ab9 v w hv hqn hw h0) rfl Tryz.func102 rfl rfl (Aa rfl (Aa rfl Ad)) (.cons .n (.cons .n .nil)) (hd 25 rfl) ?_ (fun _ h => by simp at h)
  rintro _ ⟨⟩; refine Zm rfl (hd 20 rfl) <| Ac (Ai rfl rfl) (hd 26 rfl) <| Ac (Ai rfl rfl) (hd 27 rfl) <| Ac (Ai rfl rfl) (hd 28 rfl) <| Za rfl (hd 9 rfl) <| Za rfl (hd 10 rfl) <| Za rfl (hd 11 rfl) <| Ab <| Ae <| Zs <| Zm rfl (hd 29 rfl) <| Ac (B0 (Ec rfl rfl) (by simp)) (hd 30 rfl) ?_; refine Ab <| A6 rfl <| Aj <| Ae <| Bo (n := 9) _ rfl B9 <| Z2 0 [1, 4, 7, 8] (Am (A5 Cx rfl rfl rfl) (hd 34 rfl)) rfl <| Z1 1 (Am (A9 Il rfl rfl rfl) (hd 35 rfl)) rfl <| Z2 2 [3, 4, 7, 8] (Am (A5 Cx rfl rfl rfl) (hd 36 rfl)) rfl <| Z1 3 (Am (A9 Il rfl rfl rfl) (hd 37 rfl)) rfl <| Z1 4 (Am (Bk (Ot Afk rfl rfl) (show V.b _ = V.b (ng v w) from rfl)) (hd 38 rfl)) rfl <| Z1 5 (Am (A5 Cx rfl rfl rfl) (hd 39 rfl)) rfl <| Z1 6 (Am (A9 Il rfl rfl rfl) (hd 40 rfl)) rfl <| Z1 7 (Am (Cm rfl) (hd 12 rfl)) rfl ?_; refine Z1 8 (Am (Cm rfl) (hd 13 rfl)) rfl <| Bx (by kernel_rfl) <| Ae <| Ae <| Bo (n := 18) _ rfl B9 <| Z2 0 [1, 2, 3, 4, 5, 6, 7, 8, 9, 10, 11, 12, 13, 14, 15, 16, 17] (Am (Ay rfl) (hd 41 rfl)) rfl ?_
  refine Be 1 ?_ rfl (by kernel_rfl)
  refine Ax Tryz.f30 (Dd (rn v w) (by omega)) rfl Tryz.func30 rfl rfl (Aa rfl Ad) (.cons .n .nil) (hd 42 rfl) ?_ (fun _ h => by simp at h)
  rintro _ ⟨⟩; refine Z2 2 [3, 4, 5, 6, 7, 8, 9, 10, 11, 12, 13, 14, 15, 16, 17] (Am (Ce rfl rfl) (hd 43 rfl)) rfl <| Z1 3 (Am (Ay rfl) (hd 44 rfl)) rfl ?_
  refine R2 44 rfl (fun h2 => ?_) (fun h2 => ?_)
  · refine Z2 5 [6, 16, 17] (Ip 44 rfl rfl (Ay rfl) (hd 46 rfl)) rfl <| Z2 7 [16, 17] (Ip 44 rfl rfl (Ay rfl) (hd 48 rfl)) rfl <| Z2 8 [16, 17] (Ip 44 rfl rfl (Ay rfl) (hd 49 rfl)) rfl <| Z2 9 [10, 16, 17] (Ip 44 rfl rfl (A5 By rfl rfl rfl) (hd 50 rfl)) rfl <| Z2 10 [16, 17] (Ip 44 rfl rfl (A9 B5 rfl rfl rfl) (hd 51 rfl)) rfl <| Z2 11 [16, 17] (Ip 44 rfl rfl (Ay rfl) (hd 52 rfl)) rfl <| Z2 12 [13, 16, 17] (Ip 44 rfl rfl (A5 Cx rfl rfl rfl) (hd 53 rfl)) rfl <| Z2 13 [16, 17] (Ip 44 rfl rfl (A9 Il rfl rfl rfl) (hd 54 rfl)) rfl <| Z2 14 [15, 16, 17] (Ip 44 rfl rfl (A5 Cx rfl rfl rfl) (hd 55 rfl)) rfl <| Z2 15 [16, 17] (Ip 44 rfl rfl (A9 Il rfl rfl rfl) (hd 56 rfl)) rfl ?_
    refine Be 4 ?_ rfl (by kernel_rfl)
    refine E9 Tryz.f103 44 rfl rfl (Aap) rfl Tryz.func103 rfl rfl Ad .nil (hd 45 rfl) ?_ (fun _ h => by simp at h)
    rintro _ ⟨⟩; refine Z2 6 [16, 17] (Ip 44 rfl rfl (Abl (i := k) Tr Abg rfl rfl rfl hk hcell) (hd 47 rfl)) rfl ?_
    refine Be 16 ?_ rfl (by kernel_rfl)
    refine E9 fnF 44 rfl rfl hway rfl hfn hfb hfx (Aa rfl (Aa rfl (Aa rfl (Aa rfl (Aa rfl (Aa rfl Ad)))))) (.cons .n (.cons .n (.cons .n (.cons .b (.cons .b (.cons .b .nil)))))) (hd 57 rfl) ?_ (fun _ h => by simp at h)
    rintro _ ⟨⟩; refine Z1 17 (Am (Bt rfl rfl) (hd 58 rfl)) rfl <| Bx (by kernel_rfl) ?_
    refine F7 rfl (fun h3 => ?_) (fun h3 => ?_)
    · refine Ae <| Zs <| Zm rfl (hd 60 rfl) ?_
      refine Ag Tryz.f35 (Xg) rfl Tryz.func35 rfl rfl (Aa rfl Ad) (.cons .i .nil) (hd 61 rfl) ?_ (fun _ h => by simp at h)
      rintro y hy; injection hy with hy; subst hy
      refine Ag Tryz.f104 (Ai8 (qn v w) hq0 hqn ho) rfl Tryz.func104 rfl rfl (Aa rfl (Aa rfl Ad)) (.cons .n (.cons .n .nil)) (hd 62 rfl) ?_ (fun _ h => by simp at h)
      rintro _ ⟨⟩; refine Zm rfl (hd 59 rfl) <| Ac (Ai rfl rfl) (hd 63 rfl) <| Ac (Ai rfl rfl) (hd 64 rfl) <| Za rfl (hd 9 rfl) <| Za rfl (hd 11 rfl) <| Ab <| Zs <| Zm rfl (hd 65 rfl) <| Ac (E6 (Ec rfl rfl) (by decide)) (hd 66 rfl) <| Ab <| Cw rfl <| Ae ?_; refine Af <| Ac (Bp (is := []) (xs := []) (pls := []) Az Hr rfl Ad rfl trivial (Cd rfl) rfl) (hd 67 rfl) <| Ac (Bp (is := []) (xs := []) (pls := []) Az Hr rfl Ad rfl trivial (Cd rfl) rfl) (hd 68 rfl) <| Zm rfl (hd 69 rfl) <| A3 (Ah rfl rfl rfl B6 rfl rfl (Zb rfl)) <| A3 (Ah rfl rfl rfl B6 rfl rfl (Zb rfl)) <| Za rfl (hd 8 rfl) <| Ab <| An ?_
      refine ⟨_, _, (.cons (ResV.cell Bw rfl rfl rfl rfl) (.cons (ResV.cell Bw rfl rfl rfl rfl) (.cons rfl .nil))), (.t1 (.a1 .b (.a1 (.nil (fr := false) (k := .u64)) .a0)) (.t1 (.a1 .b (.a1 (.nil (fr := false) (k := .u64)) .a0)) (.t1 .i .t0))), ?_⟩
      exact rfl
    · exact absurd (hg.symm.trans h3) (by decide)
  · exact absurd (Vn.1 (by omega)) hrn

theorem Aan {k : Nat} {v w : Int} (hw : w ≠ 0) (h : 67108864 < Al (wq k v w)) : 67108864 < Al (qn v w) ∨ (Al (qn v w) ≤ 67108864 ∧ rn v w ≠ 0 ∧ gro k v w = true ∧ 67108864 < Al (qn v w + 1)) := by
  rcases Nat.lt_or_ge 67108864 (Al (qn v w)) with h1 | h1
  · exact .inl h1
  · right
    obtain ⟨hx, h0, h2, h3⟩ := Fi (v := v) hw
    by_cases hr : rn v w ≠ 0 ∧ gro k v w = true
    · have e := (I1 hw hr.1 hr.2).1
      have e2 : Al (wq k v w) ≤ Al (qn v w + 1) := by rw [← e]; exact B7 (by rw [Fp]; exact Nat.le_refl _)
      exact ⟨h1, hr.1, hr.2, by omega⟩
    · have e := (Ll (k := k) hw (v := v) (by
        by_cases h4 : rn v w = 0
        · exact .inl h4
        · right; cases h5 : gro k v w
          · rfl
          · exact absurd ⟨h4, h5⟩ hr)).1
      have e2 : Al (wq k v w) ≤ Al (qn v w) := by rw [← e]; exact B7 (by rw [Fp]; exact Nat.le_refl _)
      omega
theorem Rn {v w : Int} (h : (lm v).length ≤ 8388608) : (lm (qn v w)).length ≤ 8388608 := by
  refine Nat.le_trans ?_ h
  unfold lm
  refine Lc (by decide) _ _ ?_
  show ((v.natAbs : Int) / (w.natAbs : Int)).natAbs ≤ v.natAbs
  rw [← Int.natCast_ediv, Int.natAbs_natCast]
  exact Nat.div_le_self _ _

theorem Wd (s t : Bool) (a b : List Int) (v w : Int) (la : a.length < 1099511627776) (lb : b.length < 1099511627776) (ua : Av a) (ub : Av b) (ev : sv s a = v) (ew : sv t b = w) (hv : (lm v).length ≤ 8388608)  (hqw : 67108864 < Al (wq 1 v w)) (hw : Al w ≤ 67108864) (h0 : w ≠ 0) : Spec Tryz.prog 69 [.a [.b s, .n false .u64 a], .a [.b t, .n false .u64 b], .i .i64 1] (fun o => o = .ret (.t [(.a [.b false, .n false .u64 []]), (.a [.b false, .n false .u64 []]), .i .i64 3])) := by
  rcases Aan h0 hqw with h | ⟨hqn, h2, h3, h4⟩
  · exact Sb 1 s t a b v w la lb ua ub ev ew hv h (Rn hv) hw h0
  · exact Sa 1 _ Tryz.f118 (by decide) rfl Tryz.func118 rfl rfl s t a b v w la lb ua ub ev ew hv hqn h2 h3 h4 hw h0 (Aar v w)

theorem Afg (s t : Bool) (a b : List Int) (v w : Int) (la : a.length < 1099511627776) (lb : b.length < 1099511627776) (ua : Av a) (ub : Av b) (ev : sv s a = v) (ew : sv t b = w) (hv : (lm v).length ≤ 8388608)  (hqw : 67108864 < Al (wq 1 v w)) (hw : Al w ≤ 67108864) (h0 : w ≠ 0) : Spec Tryz.prog 26 [.a [.b s, .n false .u64 a], .a [.b t, .n false .u64 b]] (fun o => o = .ret (.t [(.a [.b false, .n false .u64 []]), (.a [.b false, .n false .u64 []]), .i .i64 3])) := by
  refine Aw [(0, .a [.b s, .n false .u64 a]), (1, .a [.b t, .n false .u64 b])] rfl Tryz.func26 rfl (Zb rfl) fun Γ hN hds hL hR => ?_
  have hd := B2 13 hN
  refine Zs <| A1 (Bn (id := 0) (n := 2) rfl rfl rfl (by decide) rfl) (hd 2 rfl) <| A1 (Bn (id := 1) (n := 2) rfl rfl rfl (by decide) rfl) (hd 3 rfl) <| A1 (Aq (id := 2) Az (by decide) rfl (by decide) rfl) (hd 4 rfl) <| A1 (Aq (id := 3) Az (by decide) rfl (by decide) rfl) (hd 5 rfl) <| Za rfl (hd 6 rfl) <| Ab <| Zs <| Ac (Au Bw rfl rfl rfl rfl) (hd 7 rfl) <| Ac (Au Bw rfl rfl rfl rfl) (hd 8 rfl) ?_
  refine Ag Tryz.f69 (Wd s t a b v w la lb ua ub ev ew hv hqw hw h0) rfl Tryz.func69 rfl rfl (Aa rfl (Aa rfl (Aa rfl Ad))) (.cons (.a1 .b (.a1 .n .a0)) (.cons (.a1 .b (.a1 .n .a0)) (.cons .i .nil))) (hd 9 rfl) ?_ (fun _ h => by simp at h)
  rintro _ ⟨⟩; refine Ac (Ai rfl rfl) (hd 10 rfl) <| Ac (Ai rfl rfl) (hd 11 rfl) <| Ac (Ai rfl rfl) (hd 12 rfl) <| A3 (Ah rfl rfl rfl B6 rfl rfl (Zb rfl)) <| A3 (Ah rfl rfl rfl B6 rfl rfl (Zb rfl)) <| Za rfl (hd 6 rfl) <| Ab <| An ?_
  refine ⟨_, _, (.cons (ResV.cell Bw rfl rfl rfl rfl) (.cons (ResV.cell Bw rfl rfl rfl rfl) (.cons rfl .nil))), (.t1 (.a1 .b (.a1 .n .a0)) (.t1 (.a1 .b (.a1 .n .a0)) (.t1 .i .t0))), ?_⟩
  exact rfl

theorem Wc (s t : Bool) (a b : List Int) (v w : Int) (la : a.length < 1099511627776) (lb : b.length < 1099511627776) (ua : Av a) (ub : Av b) (ev : sv s a = v) (ew : sv t b = w) (hv : (lm v).length ≤ 8388608)  (hqw : 67108864 < Al (wq 2 v w)) (hw : Al w ≤ 67108864) (h0 : w ≠ 0) : Spec Tryz.prog 69 [.a [.b s, .n false .u64 a], .a [.b t, .n false .u64 b], .i .i64 2] (fun o => o = .ret (.t [(.a [.b false, .n false .u64 []]), (.a [.b false, .n false .u64 []]), .i .i64 3])) := by
  rcases Aan h0 hqw with h | ⟨hqn, h2, h3, h4⟩
  · exact Sb 2 s t a b v w la lb ua ub ev ew hv h (Rn hv) hw h0
  · exact Sa 2 _ Tryz.f119 (by decide) rfl Tryz.func119 rfl rfl s t a b v w la lb ua ub ev ew hv hqn h2 h3 h4 hw h0 (Aaq v w)

theorem Ai0 (s t : Bool) (a b : List Int) (v w : Int) (la : a.length < 1099511627776) (lb : b.length < 1099511627776) (ua : Av a) (ub : Av b) (ev : sv s a = v) (ew : sv t b = w) (hv : (lm v).length ≤ 8388608)  (hqw : 67108864 < Al (wq 2 v w)) (hw : Al w ≤ 67108864) (h0 : w ≠ 0) : Spec Tryz.prog 27 [.a [.b s, .n false .u64 a], .a [.b t, .n false .u64 b]] (fun o => o = .ret (.t [(.a [.b false, .n false .u64 []]), (.a [.b false, .n false .u64 []]), .i .i64 3])) := by
  refine Aw [(0, .a [.b s, .n false .u64 a]), (1, .a [.b t, .n false .u64 b])] rfl Tryz.func27 rfl (Zb rfl) fun Γ hN hds hL hR => ?_
  have hd := B2 13 hN
  refine Zs <| A1 (Bn (id := 0) (n := 2) rfl rfl rfl (by decide) rfl) (hd 2 rfl) <| A1 (Bn (id := 1) (n := 2) rfl rfl rfl (by decide) rfl) (hd 3 rfl) <| A1 (Aq (id := 2) Az (by decide) rfl (by decide) rfl) (hd 4 rfl) <| A1 (Aq (id := 3) Az (by decide) rfl (by decide) rfl) (hd 5 rfl) <| Za rfl (hd 6 rfl) <| Ab <| Zs <| Ac (Au Bw rfl rfl rfl rfl) (hd 7 rfl) <| Ac (Au Bw rfl rfl rfl rfl) (hd 8 rfl) ?_
  refine Ag Tryz.f69 (Wc s t a b v w la lb ua ub ev ew hv hqw hw h0) rfl Tryz.func69 rfl rfl (Aa rfl (Aa rfl (Aa rfl Ad))) (.cons (.a1 .b (.a1 .n .a0)) (.cons (.a1 .b (.a1 .n .a0)) (.cons .i .nil))) (hd 9 rfl) ?_ (fun _ h => by simp at h)
  rintro _ ⟨⟩; refine Ac (Ai rfl rfl) (hd 10 rfl) <| Ac (Ai rfl rfl) (hd 11 rfl) <| Ac (Ai rfl rfl) (hd 12 rfl) <| A3 (Ah rfl rfl rfl B6 rfl rfl (Zb rfl)) <| A3 (Ah rfl rfl rfl B6 rfl rfl (Zb rfl)) <| Za rfl (hd 6 rfl) <| Ab <| An ?_
  refine ⟨_, _, (.cons (ResV.cell Bw rfl rfl rfl rfl) (.cons (ResV.cell Bw rfl rfl rfl rfl) (.cons rfl .nil))), (.t1 (.a1 .b (.a1 .n .a0)) (.t1 (.a1 .b (.a1 .n .a0)) (.t1 .i .t0))), ?_⟩
  exact rfl



theorem Aec {v : Int} {L : Nat} (h : Al v ≤ L) : (lm v).length ≤ L / 64 + 1 := by
  refine F1 (by decide) (L / 64 + 1) v.natAbs (Nat.lt_of_lt_of_le (Ct.1 h) ?_)
  rw [show (18446744073709551616 : Nat) = 2 ^ 64 from rfl, ← Nat.pow_mul]
  exact Nat.pow_le_pow_right (by decide) (by omega)
theorem Hk {x L : Nat} (h : Al (x : Int) ≤ L) : (lm (x : Int)).length ≤ L / 64 + 1 := Aec h
theorem sv1 {s : Bool} : sv s [1] = zs s 1 := by cases s <;> rfl

theorem Aca (m : Nat) (F : FuncId) (fnF : Func) (hm : m < 3) (hcell : [V.f 26 [], V.f 27 [], V.f 28 []][m]? = some (V.f F [])) (hfn : Tryz.prog.funcs[F]? = some fnF) (hfb : fnF.body.isSome = true) (hfx : (fnF.name == "runtime.NumGoroutine") = false) (hWF : ∀ (s t : Bool) (a b : List Int) (v w : Int), a.length < 1099511627776 → b.length < 1099511627776 → Av a → Av b → sv s a = v → sv t b = w → (lm v).length ≤ 8388608 → Al (wq (m + 1) v w) ≤ 67108864 → Al w ≤ 67108864 → w ≠ 0 → SpecM Tryz.prog F [.a [.b s, .n false .u64 a], .a [.b t, .n false .u64 b]] [] (fun o G => o = .ret (.t [.a [.b (decide ((wq (m + 1) v w) < 0)), .o 0 0 0 (lm (wq (m + 1) v w)).length], .a [.b (decide ((v - wq (m + 1) v w * w) < 0)), .o 1 0 0 (lm (v - wq (m + 1) v w * w)).length], .i .i64 0]) ∧ G = [⟨71, 1, 0, true, ints .u64 (lm (wq (m + 1) v w))⟩, ⟨71, 1, 0, true, ints .u64 (lm (v - wq (m + 1) v w * w))⟩])) (hWO : ∀ (s t : Bool) (a b : List Int) (v w : Int), a.length < 1099511627776 → b.length < 1099511627776 → Av a → Av b → sv s a = v → sv t b = w → (lm v).length ≤ 8388608 → 67108864 < Al (wq (m + 1) v w) → Al w ≤ 67108864 → w ≠ 0 → Spec Tryz.prog F [.a [.b s, .n false .u64 a], .a [.b t, .n false .u64 b]] (fun o => o = .ret (.t [(.a [.b false, .n false .u64 []]), (.a [.b false, .n false .u64 []]), .i .i64 3]))) (s : Bool) (l d : List Int) (y0 : Nat) (hy0 : Rw d y0) (h00 : y0 ≠ 0) (n : Int) (hn8 : -1099511627776 ≤ n) (hn9 : n ≤ 1099511627776) (sg : Bool) (p q : Nat) (lp : Al (p : Int) ≤ 67108800) (lq : Al (q : Int) ≤ 67108800) (hPa : Spec Tryz.prog 29 [(.a [.b s, .n false .u64 l, .n false .u64 d])] (fun o => o = .ret (.t [.b sg, .n false .u64 (lm ((p : Nat) : Int)), .n false .u64 (lm ((q : Nat) : Int))]))) (hp : p ≠ 0) (hq : q ≠ 0) :
    (Al (atV (m + 1) sg p q n) ≤ 67108864 ∧ SpecTN Tryz.prog 6 0 tzCells [(.a [.b s, .n false .u64 l, .n false .u64 d]), .i .i64 n, .i .i64 (m : Int)] (fun o G => o = .ret (.t [.a [.b (decide ((atV (m + 1) sg p q n) < 0)), .o 0 0 0 (lm (atV (m + 1) sg p q n)).length], .i .i64 0]) ∧ G = [⟨71, 1, 0, true, ints .u64 (lm (atV (m + 1) sg p q n))⟩])) ∨ (67108864 < Al (atV (m + 1) sg p q n) ∧ SpecT Tryz.prog 6 0 tzCells [(.a [.b s, .n false .u64 l, .n false .u64 d]), .i .i64 n, .i .i64 (m : Int)] (fun o => o = .ret (.t [(.a [.b false, .n false .u64 []]), .i .i64 3]))) := by
  have hk : m + 1 = 1 ∨ m + 1 = 2 ∨ m + 1 = 3 := by omega
  have lp' : Al (p : Int) ≤ 67108864 := by omega
  have lq' : Al (q : Int) ≤ 67108864 := by omega
  have llp := Hk lp
  have llq := Hk lq
  have hD0 : ((SD p q n : Nat) : Int) ≠ 0 := by have := Aah (x := p) (n := n) hq; omega
  have bN1 := Ail (x := p) (y := q) (n := n)
  have bD1 := Aim (x := p) (y := q) (n := n)
  rcases Int.lt_or_le 0 n with hn | hn
  · by_cases hov : (Al (p : Int) : Int) - (Al (q : Int) : Int) + n > 67108865
    · exact .inr ⟨Aac (M := 67108864) hk hp hq (by omega) (by omega), If (Afi s l d n (m : Int) y0 hy0 h00 hn8 hn9 (by omega) (by omega) sg p q lp' lq' hPa hp hn hov)⟩
    · have eN : SN p q n = p * 2 ^ (n.toNat - min n.toNat (tz q)) := by unfold SN; rw [if_pos (by omega)]
      have eD : SD p q n = q / 2 ^ (min n.toNat (tz q)) := by unfold SD; rw [if_pos (by omega)]
      have hRi := Pc ((q : Nat) : Int) (min n.toNat (tz q)) (by omega) (by have := Nat.min_le_left n.toNat (tz q); omega)
      rw [Int.natAbs_natCast, ← eD] at hRi
      have hLf := Ry p (n.toNat - min n.toNat (tz q)) (by omega) (by omega)
      rw [← eN] at hLf
      have lN := Hk (x := SN p q n) (L := 201326592) (by omega)
      have lD := Hk (x := SD p q n) (L := 67108864) (by omega)
      rcases Nat.lt_or_ge 67108864 (Al (atV (m + 1) sg p q n)) with hf | hf
      · exact .inr ⟨hf, Akt m F fnF hm hcell hfn hfb hfx s l d n y0 hy0 h00 hn8 hn9 sg p q lp' lq' hPa hp hn hov _ _ hRi hLf (hWO sg false _ _ (zs sg (SN p q n)) (SD p q n : Int) (by omega) (by omega) (Cu _) (Cu _) Lj (Lj (s := false)) (by rw [Yv]; omega) hf (by omega) hD0)⟩
      · exact .inl ⟨hf, Ai5 m F fnF hm hcell hfn hfb hfx s l d n y0 hy0 h00 hn8 hn9 sg p q lp' lq' hPa hp _ _ (fun _ => ⟨hov, hRi, hLf⟩) (fun h => absurd h (by omega)) _ _ _ (hWF sg false _ _ (zs sg (SN p q n)) (SD p q n : Int) (by omega) (by omega) (Cu _) (Cu _) Lj (Lj (s := false)) (by rw [Yv]; omega) hf (by omega) hD0)⟩
  · left
    by_cases hsm : (Al (p : Int) : Int) + n < (Al (q : Int) : Int) - 2
    · have e := Aab (s := sg) hk hp hq (n := n) (by omega)
      have hf : Al (wq (m + 1) (zs sg 1) 4) ≤ 67108864 := Nat.le_trans (Ny (by decide)).1 (by rw [E8]; decide +kernel)
      rw [e]
      exact ⟨hf, Aku m F fnF hm hcell hfn hfb hfx s l d n y0 hy0 h00 hn8 hn9 sg p q lp' lq' hPa hp hn hsm _ _ _ (hWF sg false [1] [4] (zs sg 1) 4 (by decide) (by decide) (Xu (by decide) (by decide)) (Xu (by decide) (by decide)) sv1 rfl (by rw [Yv, M9]; decide) hf (by decide +kernel) (by decide))⟩
    · have eN : SN p q n = p / 2 ^ (min (-n).toNat (tz p)) := by
        by_cases h0 : n = 0
        · subst h0; unfold SN; rw [if_pos (by decide)]; simp
        · unfold SN; rw [if_neg (by omega)]
      have eD : SD p q n = q * 2 ^ ((-n).toNat - min (-n).toNat (tz p)) := by
        by_cases h0 : n = 0
        · subst h0; unfold SD; rw [if_pos (by decide)]; simp
        · unfold SD; rw [if_neg (by omega)]
      have hRi := Pc ((p : Nat) : Int) (min (-n).toNat (tz p)) (by omega) (by have := Nat.min_le_left (-n).toNat (tz p); omega)
      rw [Int.natAbs_natCast, ← eN] at hRi
      have hLf := Ry q ((-n).toNat - min (-n).toNat (tz p)) (by omega) (by omega)
      rw [← eD] at hLf
      have lN := Hk (x := SN p q n) (L := 67108864) (by omega)
      have lD := Hk (x := SD p q n) (L := 67108864) (by omega)
      have hf : Al (atV (m + 1) sg p q n) ≤ 67108864 := by have h := (Ny (k := m + 1) (v := zs sg (SN p q n)) hD0).1; rw [E8] at h; exact Nat.le_trans h (by omega)
      exact ⟨hf, Ai5 m F fnF hm hcell hfn hfb hfx s l d n y0 hy0 h00 hn8 hn9 sg p q lp' lq' hPa hp _ _ (fun h => absurd h (by omega)) (fun _ => ⟨hsm, hRi, hLf⟩) _ _ _ (hWF sg false _ _ (zs sg (SN p q n)) (SD p q n : Int) (by omega) (by omega) (Cu _) (Cu _) Lj (Lj (s := false)) (by rw [Yv]; omega) hf (by omega) hD0)⟩

def cdN (x y : Nat) : Nat := if x % y = 0 then x / y else x / y + 1
def smP : Nat → Nat → Nat → Nat → Nat → Nat × Nat × Nat × Nat
  | 0, x, y, z, w => (x, y, z, w)
  | k + 1, x, y, z, w => smP k w (z % w) y (x % y)
def smN : Nat → Nat → Nat → Nat → Nat → Nat × Nat
  | 0, x, y, z, w => (cdN x y, 1)
  | n + 1, x, y, z, w => (x / y * (smN n w (z % w) y (x % y)).1 + (smN n w (z % w) y (x % y)).2, (smN n w (z % w) y (x % y)).1)
structure SmOk (x y z w : Nat) : Prop where
  x0 : 0 < x
  y0 : 0 < y
  w0 : 0 < w
  le : x * w ≤ z * y
  c1 : Nat.gcd x y = 1
  c2 : Nat.gcd z w = 1
def Smp : Nat → Nat → Nat → Nat → Nat → Prop
  | 0, x, y, z, w => SmOk x y z w ∧ cdN x y ≤ z / w
  | n + 1, x, y, z, w => SmOk x y z w ∧ z / w < cdN x y ∧ Smp n w (z % w) y (x % y)
theorem Wr {x y : Nat} (hy : 0 < y) : x ≤ cdN x y * y ∧ cdN x y * y < x + y := by
  have e := Nat.div_add_mod x y
  have h := Nat.mod_lt x hy
  have c := Nat.mul_comm y (x / y)
  unfold cdN
  split
  · omega
  · rw [Nat.add_mul, Nat.one_mul]; omega
theorem Wq {x y u : Nat} (hy : 0 < y) (h : x ≤ u * y) : cdN x y ≤ u := by
  have h1 := (Wr (x := x) hy).2
  have h2 : cdN x y * y < (u + 1) * y := by rw [Nat.add_mul, Nat.one_mul]; omega
  exact Nat.lt_succ_iff.1 (Nat.lt_of_mul_lt_mul_right h2)
theorem Ae4 {x y : Nat} (hx : 0 < x) (hy : 0 < y) : 0 < cdN x y := by
  rcases Nat.eq_zero_or_pos (cdN x y) with h | h
  · have := (Wr (x := x) hy).1
    rw [h, Nat.zero_mul] at this
    omega
  · exact h
theorem SmOk.floor {x y z w : Nat} (h : SmOk x y z w) : x / y ≤ z / w := by
  rw [Nat.le_div_iff_mul_le h.w0]
  have h1 : x / y * y ≤ x := Nat.div_mul_le_self x y
  have h2 : x / y * w * y ≤ z * y := by
    calc x / y * w * y = x / y * y * w := by rw [Nat.mul_assoc, Nat.mul_comm w y, ← Nat.mul_assoc]
      _ ≤ x * w := Nat.mul_le_mul_right _ h1
      _ ≤ z * y := h.le
  exact Nat.le_of_mul_le_mul_right h2 h.y0
theorem SmOk.step {x y z w : Nat} (h : SmOk x y z w) (hn : z / w < cdN x y) : x / y = z / w ∧ 0 < x % y ∧ 0 < z % w ∧ SmOk w (z % w) y (x % y) := by
  have hf := h.floor
  have hc : cdN x y ≤ x / y + 1 := by unfold cdN; split <;> omega
  have hq : x / y = z / w := by omega
  have hr : x % y ≠ 0 := fun e => by
    have : cdN x y = x / y := by unfold cdN; rw [if_pos e]
    omega
  have ex := Nat.div_add_mod x y
  have ez := Nat.div_add_mod z w
  rw [← hq] at ez
  have hle := h.le
  have key : x % y * w ≤ z % w * y := by
    have e1 : x * w = x / y * y * w + x % y * w := by rw [← Nat.add_mul, Nat.mul_comm (x / y) y, ex]
    have e2 : z * y = x / y * y * w + z % w * y := by
      rw [Nat.mul_assoc, Nat.mul_comm y w, ← Nat.mul_assoc, ← Nat.add_mul, Nat.mul_comm (x / y) w, ez]
    omega
  have ht : z % w ≠ 0 := fun e => by
    rw [e, Nat.zero_mul] at key
    have := Nat.mul_pos (Nat.pos_of_ne_zero hr) h.w0
    omega
  refine ⟨hq, Nat.pos_of_ne_zero hr, Nat.pos_of_ne_zero ht, ⟨h.w0, Nat.pos_of_ne_zero ht, Nat.pos_of_ne_zero hr, by rw [Nat.mul_comm w, Nat.mul_comm y]; exact key, ?_, ?_⟩⟩
  · rw [Nat.gcd_comm, ← Nat.gcd_rec, Nat.gcd_comm]; exact h.c2
  · rw [Nat.gcd_comm, ← Nat.gcd_rec, Nat.gcd_comm]; exact h.c1
theorem Aa2 : ∀ (m x y z w : Nat), y + w ≤ m → SmOk x y z w → ∃ n, Smp n x y z w
  | 0, x, y, z, w, hm, h => by have := h.y0; omega
  | m + 1, x, y, z, w, hm, h => by
    rcases Nat.lt_or_ge (z / w) (cdN x y) with hn | hn
    · obtain ⟨_, h1, h2, h3⟩ := h.step hn
      have b1 := Nat.mod_lt x h.y0
      have b2 := Nat.mod_lt z h.w0
      obtain ⟨n, h4⟩ := Aa2 m _ _ _ _ (by omega) h3
      exact ⟨n + 1, h, hn, h4⟩
    · exact ⟨0, h, hn⟩
theorem Smp.ok : ∀ {n x y z w : Nat}, Smp n x y z w → SmOk x y z w
  | 0, _, _, _, _, h => h.1
  | _ + 1, _, _, _, _, h => h.1
structure SmRes (x y z w P Q : Nat) : Prop where
  p0 : 0 < P
  q0 : 0 < Q
  lo : x * Q ≤ P * y
  hi : P * w ≤ z * Q
  cop : Nat.gcd P Q = 1
  least : ∀ u D, 0 < D → x * D ≤ u * y → u * w ≤ z * D → Q ≤ D ∧ P ≤ u
theorem Smp.res : ∀ {n x y z w : Nat}, Smp n x y z w → SmRes x y z w (smN n x y z w).1 (smN n x y z w).2
  | 0, x, y, z, w, h => by
    have hk := h.1
    refine ⟨Ae4 hk.x0 hk.y0, Nat.one_pos, by show x * 1 ≤ _; rw [Nat.mul_one]; exact (Wr hk.y0).1, ?_, Nat.gcd_one_right _, fun u D hD h1 h2 => ⟨hD, ?_⟩⟩
    · show cdN x y * w ≤ z * 1
      rw [Nat.mul_one]
      exact (Nat.le_div_iff_mul_le hk.w0).1 h.2
    · refine Wq hk.y0 (Nat.le_trans (Nat.le_mul_of_pos_right x hD) h1)
  | n + 1, x, y, z, w, h => by
    obtain ⟨hk, hn, hr⟩ := h
    obtain ⟨hq, hx, hz, hk'⟩ := hk.step hn
    have i := Smp.res hr
    show SmRes x y z w (x / y * (smN n w (z % w) y (x % y)).1 + (smN n w (z % w) y (x % y)).2) (smN n w (z % w) y (x % y)).1
    generalize (smN n w (z % w) y (x % y)).1 = P' at i ⊢
    generalize (smN n w (z % w) y (x % y)).2 = Q' at i ⊢
    have ex : x = x / y * y + x % y := by rw [Nat.mul_comm]; exact (Nat.div_add_mod x y).symm
    have ez : z = x / y * w + z % w := by rw [hq, Nat.mul_comm]; exact (Nat.div_add_mod z w).symm
    generalize hqe : x / y = q at *
    generalize x % y = r at *
    generalize z % w = t at *
    subst ex; subst ez
    have ilo := i.lo
    have ihi := i.hi
    refine ⟨Nat.lt_of_lt_of_le i.q0 (Nat.le_add_left _ _), i.p0, ?_, ?_, ?_, fun u D hD h1 h2 => ?_⟩
    · rw [Nat.add_mul, Nat.add_mul]
      have : q * y * P' = q * P' * y := by rw [Nat.mul_assoc, Nat.mul_comm y P', ← Nat.mul_assoc]
      rw [Nat.mul_comm P' r, Nat.mul_comm y Q'] at ihi
      omega
    · rw [Nat.add_mul, Nat.add_mul]
      have : q * P' * w = q * w * P' := by rw [Nat.mul_assoc, Nat.mul_comm P' w, ← Nat.mul_assoc]
      rw [Nat.mul_comm w Q', Nat.mul_comm P' t] at ilo
      omega
    · rw [Nat.gcd_comm, Nat.gcd_mul_right_add_right]; exact i.cop
    · -- u = q D + u', D / u' lies between
      have hu : q * D ≤ u := by
        have e1 : q * D * y ≤ u * y := by
          refine Nat.le_trans ?_ h1
          rw [Nat.add_mul, Nat.mul_assoc q D y, Nat.mul_comm D y, ← Nat.mul_assoc]
          exact Nat.le_add_right _ _
        exact Nat.le_of_mul_le_mul_right e1 hk.y0
      obtain ⟨u', rfl⟩ : ∃ u', u = q * D + u' := ⟨u - q * D, by omega⟩
      have a1 : r * D ≤ u' * y := by
        rw [Nat.add_mul, Nat.add_mul] at h1
        have : q * y * D = q * D * y := by rw [Nat.mul_assoc, Nat.mul_comm y D, ← Nat.mul_assoc]
        omega
      have a2 : u' * w ≤ t * D := by
        rw [Nat.add_mul, Nat.add_mul] at h2
        have : q * w * D = q * D * w := by rw [Nat.mul_assoc, Nat.mul_comm w D, ← Nat.mul_assoc]
        omega
      have hu0 : 0 < u' := by
        rcases Nat.eq_zero_or_pos u' with e | e
        · subst e
          have := Nat.mul_pos hx hD
          omega
        · exact e
      have l := i.least D u' hu0 (by rw [Nat.mul_comm w, Nat.mul_comm D]; exact a2) (by rw [Nat.mul_comm D, Nat.mul_comm y]; exact a1)
      refine ⟨l.2, ?_⟩
      have := Nat.mul_le_mul_left q l.2
      omega
theorem Acy : ∀ {k x y z w a b c d : Nat}, smP k x y z w = (a, b, c, d) → smP (k + 1) x y z w = (d, c % d, b, a % b)
  | 0, _, _, _, _, _, _, _, _, h => by cases h; rfl
  | k + 1, x, y, z, w, _, _, _, _, h => Acy (k := k) (x := w) (y := z % w) (z := y) (w := x % y) h
theorem Smp.at : ∀ {n k x y z w a b c d : Nat}, Smp n x y z w → k ≤ n → smP k x y z w = (a, b, c, d) → Smp (n - k) a b c d
  | n, 0, _, _, _, _, _, _, _, _, h, _, e => by cases e; exact h
  | 0, k + 1, _, _, _, _, _, _, _, _, h, hk, e => by omega
  | n + 1, k + 1, x, y, z, w, _, _, _, _, h, hk, e => by
    rw [Nat.succ_sub_succ]
    exact Smp.at (n := n) (k := k) h.2.2 (by omega) e
theorem Smp.lt {n x y z w : Nat} (h : Smp (n + 1) x y z w) : (smN n w (z % w) y (x % y)).2 < (smN n w (z % w) y (x % y)).1 := by
  have i := Smp.res h.2.2
  have hk := h.1
  have hlt := Nat.mod_lt z hk.w0
  have h1 := i.lo
  have h2 : w * (smN n w (z % w) y (x % y)).2 < (smN n w (z % w) y (x % y)).1 * w := Nat.lt_of_le_of_lt h1 (Nat.mul_lt_mul_of_pos_left hlt i.p0)
  rw [Nat.mul_comm] at h2
  exact Nat.lt_of_mul_lt_mul_right h2
theorem Q8 {n x y z w : Nat} (h : Smp n x y z w) : ∀ {k : Nat}, k ≤ n → ∀ {a b c d : Nat}, smP k x y z w = (a, b, c, d) → eu ((smN n x y z w).1 : Int) (smN n x y z w).2 k = (((smN (n - k) a b c d).1 : Int), (smN (n - k) a b c d).2) := by
  intro k
  induction k with
  | zero => intro _ a b c d e; cases e; rfl
  | succ k ih =>
    intro hk a b c d e
    obtain ⟨a', b', c', d', e'⟩ : ∃ a' b' c' d', smP k x y z w = (a', b', c', d') := ⟨_, _, _, _, rfl⟩
    have i := ih (by omega) e'
    have e2 := (Acy e').symm.trans e
    cases e2
    have hs := Smp.at h (by omega) e'
    obtain ⟨m, hm⟩ : ∃ m, n - k = m + 1 := ⟨n - k - 1, by omega⟩
    rw [hm] at hs i
    have hl := Smp.lt hs
    rw [show n - (k + 1) = m by omega]
    show (((eu _ _ k).2 : Int), ((eu _ _ k).1 % ((eu _ _ k).2 : Int)).toNat) = _
    rw [i]
    refine Prod.ext rfl ?_
    show ((((a' / c * (smN m a (c' % a) c (a' % c)).1 + (smN m a (c' % a) c (a' % c)).2 : Nat) : Int) % ((smN m a (c' % a) c (a' % c)).1 : Int))).toNat = _
    rw [← Int.natCast_emod, Int.toNat_natCast, Nat.mul_comm, Nat.mul_add_mod, Nat.mod_eq_of_lt hl]
theorem Ajt {n x y z w k a b c d : Nat} (h : Smp n x y z w) (hk : k < n) (e : smP k x y z w = (a, b, c, d)) : eqt ((smN n x y z w).1 : Int) (smN n x y z w).2 k = ((c / d : Nat) : Int) := by
  have hs := Smp.at h (by omega) e
  obtain ⟨m, hm⟩ : ∃ m, n - k = m + 1 := ⟨n - k - 1, by omega⟩
  unfold eqt
  rw [Q8 h (by omega) e, hm]
  rw [hm] at hs
  have hl := Smp.lt hs
  show ((a / b * (smN m d (c % d) b (a % b)).1 + (smN m d (c % d) b (a % b)).2 : Nat) : Int) / ((smN m d (c % d) b (a % b)).1 : Int) = _
  rw [← Int.natCast_ediv, Nat.mul_comm, Nat.mul_add_div (by omega), Nat.div_eq_of_lt hl, Nat.add_zero, (hs.1.step hs.2.1).1]
theorem Ajs {n x y z w a b c d : Nat} (h : Smp n x y z w) (e : smP n x y z w = (a, b, c, d)) : eqt ((smN n x y z w).1 : Int) (smN n x y z w).2 n = ((cdN a b : Nat) : Int) := by
  unfold eqt
  rw [Q8 h (Nat.le_refl _) e, Nat.sub_self]
  show ((cdN a b : Nat) : Int) / ((1 : Nat) : Int) = _
  exact Int.ediv_one _
theorem Acx {n x y z w : Nat} (h : Smp n x y z w) : Chn ((smN n x y z w).1 : Int) (smN n x y z w).2 (n + 1) := by
  obtain ⟨a, b, c, d, e⟩ : ∃ a b c d, smP n x y z w = (a, b, c, d) := ⟨_, _, _, _, rfl⟩
  have r := Smp.res h
  refine ⟨Nat.succ_ne_zero _, ?_, fun k hk => ?_, r.cop⟩
  · show ((eu _ _ n).1 % ((eu _ _ n).2 : Int)).toNat = 0
    rw [Q8 h (Nat.le_refl _) e, Nat.sub_self]
    show (((cdN a b : Nat) : Int) % ((1 : Nat) : Int)).toNat = 0
    rw [show ((1 : Nat) : Int) = 1 from rfl, Int.emod_one]; rfl
  · obtain ⟨a, b, c, d, e⟩ : ∃ a b c d, smP k x y z w = (a, b, c, d) := ⟨_, _, _, _, rfl⟩
    rw [Q8 h (by omega) e]
    exact Nat.pos_iff_ne_zero.1 (Smp.res (Smp.at h (by omega) e)).q0
theorem Smp.bnd {n x y z w : Nat} (h : Smp n x y z w) : (smN n x y z w).1 ≤ x ∧ (smN n x y z w).2 ≤ y := by
  have hk := h.ok
  have l := (Smp.res h).least x y hk.y0 (Nat.le_refl _) hk.le
  exact ⟨l.2, l.1⟩
theorem T9 {L : Nat} : ∀ {n k x y z w a b c d : Nat}, Smp n x y z w → k ≤ n → smP k x y z w = (a, b, c, d) → x ≤ L → y ≤ L → z ≤ L → w ≤ L → a ≤ L ∧ b ≤ L ∧ c ≤ L ∧ d ≤ L
  | _, 0, _, _, _, _, _, _, _, _, _, _, e, h1, h2, h3, h4 => by cases e; exact ⟨h1, h2, h3, h4⟩
  | 0, k + 1, _, _, _, _, _, _, _, _, _, hk, _, _, _, _, _ => by omega
  | n + 1, k + 1, x, y, z, w, _, _, _, _, h, hk, e, h1, h2, h3, h4 => by
    have hs := h.1
    have b1 := Nat.mod_lt x hs.y0
    have b2 := Nat.mod_lt z hs.w0
    exact T9 (n := n) (k := k) h.2.2 (by omega) e h4 (by omega) h2 (by omega)

theorem Uq {x y : Nat} : rn0 x y * Nat.gcd x y = x := Nat.div_mul_cancel (Nat.gcd_dvd_left x y)
theorem S0 {x y : Nat} : rd0 x y * Nat.gcd x y = y := Nat.div_mul_cancel (Nat.gcd_dvd_right x y)
theorem Ada {x y : Nat} (h : Nat.gcd x y = 1) : rn0 x y = x := by unfold rn0; rw [h, Nat.div_one]
theorem Ade {x y : Nat} (h : Nat.gcd x y = 1) : rd0 x y = y := by unfold rd0; rw [h, Nat.div_one]
theorem Afn {x y : Nat} : SN x y 0 = x := by unfold SN; rw [if_pos (by decide)]; simp
theorem Ajg {x y : Nat} : SD x y 0 = y := by unfold SD; rw [if_pos (by decide)]; simp
theorem Aib {x y : Nat} (hx : x ≠ 0) (hy : y ≠ 0) : atV 2 false x y 0 = ((cdN x y : Nat) : Int) := by
  unfold atV
  rw [Afn, Ajg, H9 (.inr (.inl rfl)) hx hy]
  unfold upB grB cdN
  by_cases h : x % y = 0
  · rw [if_pos h, decide_eq_false (by omega)]; rfl
  · rw [if_neg h, decide_eq_true h]; rfl
theorem Aic {x y : Nat} (hx : x ≠ 0) (hy : y ≠ 0) : atV 1 false x y 0 = ((x / y : Nat) : Int) := by
  unfold atV
  rw [Afn, Ajg, H9 (.inl rfl) hx hy]
  show zs false (if (decide (x % y ≠ 0) && false) = true then x / y + 1 else x / y) = _
  rw [Bool.and_false]; rfl
theorem Eo {x y : Int} : C1 x y ≤ 0 ↔ x ≤ y := by unfold C1; (repeat' split) <;> constructor <;> intro h <;> omega
structure SmV (z : Int) (Y : Nat) (w : Int) (X : Nat) (P : Int) (Q : Nat) : Prop where
  q0 : Q ≠ 0
  cop : Nat.gcd P.natAbs Q = 1
  lo : z * (Q : Int) ≤ P * (Y : Int)
  hi : P * (X : Int) ≤ w * (Q : Int)
  least : ∀ (u : Int) (D : Nat), D ≠ 0 → z * (D : Int) ≤ u * (Y : Int) → u * (X : Int) ≤ w * (D : Int) → Q ≤ D
theorem X2 {x y x2 y2 : Nat} (hx : x ≠ 0) (hy : y ≠ 0) (hy2 : y2 ≠ 0) (hle : x * y2 ≤ x2 * y) : SmOk (rn0 x y) (rd0 x y) (rn0 x2 y2) (rd0 x2 y2) := by
  have e1 := @Uq x y
  have e2 := @S0 x y
  have e3 := @Uq x2 y2
  have e4 := @S0 x2 y2
  have g1 := Dk (x := x) hy
  have g2 := Dk (x := x2) hy2
  refine ⟨Nat.pos_of_ne_zero (mt G6.1 hx), G7 hy, G7 hy2, ?_, Ks hy, Ks hy2⟩
  generalize rn0 x y = a at *
  generalize rd0 x y = b at *
  generalize rn0 x2 y2 = c at *
  generalize rd0 x2 y2 = d at *
  generalize Nat.gcd x y = g at *
  generalize Nat.gcd x2 y2 = k at *
  subst e1 e2 e3 e4
  refine Nat.le_of_mul_le_mul_right (c := g * k) ?_ (Nat.mul_pos g1 g2)
  calc a * d * (g * k) = a * g * (d * k) := by ac_rfl
    _ ≤ c * k * (b * g) := hle
    _ = c * b * (g * k) := by ac_rfl
theorem SmRes.low {x y x2 y2 P Q : Nat} (hy : y ≠ 0) (hy2 : y2 ≠ 0) (h : SmRes (rn0 x y) (rd0 x y) (rn0 x2 y2) (rd0 x2 y2) P Q) : SmV (x : Int) y (x2 : Int) y2 (P : Int) Q := by
  have e1 := @Uq x y
  have e2 := @S0 x y
  have e3 := @Uq x2 y2
  have e4 := @S0 x2 y2
  have g1 := Dk (x := x) hy
  have g2 := Dk (x := x2) hy2
  generalize rn0 x y = a at *
  generalize rd0 x y = b at *
  generalize rn0 x2 y2 = c at *
  generalize rd0 x2 y2 = d at *
  generalize Nat.gcd x y = g at *
  generalize Nat.gcd x2 y2 = k at *
  subst e1 e2 e3 e4
  refine ⟨Nat.pos_iff_ne_zero.1 h.q0, by rw [Int.natAbs_natCast]; exact h.cop, ?_, ?_, fun u D hD h1 h2 => ?_⟩
  · have := Nat.mul_le_mul_right g h.lo
    have e : a * g * Q ≤ P * (b * g) := by
      calc a * g * Q = a * Q * g := by ac_rfl
        _ ≤ P * b * g := this
        _ = P * (b * g) := by ac_rfl
    exact_mod_cast e
  · have := Nat.mul_le_mul_right k h.hi
    have e : P * (d * k) ≤ c * k * Q := by
      calc P * (d * k) = P * d * k := by ac_rfl
        _ ≤ c * Q * k := this
        _ = c * k * Q := by ac_rfl
    exact_mod_cast e
  · have hu : 0 ≤ u := by
      have h3 : (0 : Int) ≤ u * ((b * g : Nat) : Int) := Int.le_trans (by exact_mod_cast Nat.zero_le _) h1
      refine Int.not_lt.1 fun hn => ?_
      have := Int.mul_neg_of_neg_of_pos hn (show (0 : Int) < ((b * g : Nat) : Int) by omega)
      omega
    obtain ⟨m, rfl⟩ := Int.eq_ofNat_of_zero_le hu
    have k1 : a * g * D ≤ m * (b * g) := by exact_mod_cast h1
    have k2 : m * (d * k) ≤ c * k * D := by exact_mod_cast h2
    refine (h.least m D (Nat.pos_of_ne_zero hD) (Nat.le_of_mul_le_mul_right (c := g) ?_ g1) (Nat.le_of_mul_le_mul_right (c := k) ?_ g2)).1
    · calc a * D * g = a * g * D := by ac_rfl
        _ ≤ m * (b * g) := k1
        _ = m * b * g := by ac_rfl
    · calc m * d * k = m * (d * k) := by ac_rfl
        _ ≤ c * k * D := k2
        _ = c * D * k := by ac_rfl
theorem SmV.neg {z : Int} {Y : Nat} {w : Int} {X : Nat} {P : Int} {Q : Nat} (h : SmV (-w) X (-z) Y P Q) : SmV z Y w X (-P) Q := by
  refine ⟨h.q0, by rw [Int.natAbs_neg]; exact h.cop, ?_, ?_, fun u D hD h1 h2 => h.least (-u) D hD ?_ ?_⟩
  · have := h.hi; rw [Int.neg_mul] at this ⊢; omega
  · have := h.lo; rw [Int.neg_mul] at this ⊢; omega
  · rw [Int.neg_mul, Int.neg_mul]; omega
  · rw [Int.neg_mul, Int.neg_mul]; omega
theorem Ajr {z : Int} {Y : Nat} {w : Int} {X : Nat} (hz : z ≤ 0) (hw : 0 ≤ w) : SmV z Y w X 0 1 := by
  refine ⟨by decide, by decide, ?_, ?_, fun u D hD _ _ => Nat.pos_of_ne_zero hD⟩
  · rw [Int.zero_mul, show ((1 : Nat) : Int) = 1 from rfl, Int.mul_one]; exact hz
  · rw [Int.zero_mul, show ((1 : Nat) : Int) = 1 from rfl, Int.mul_one]; exact hw

theorem Akw (x y : Nat) (hx : x ≠ 0) (hy : y ≠ 0) (hc : Nat.gcd x y = 1) (lx : Al (x : Int) ≤ 67108800) (ly : Al (y : Int) ≤ 67108800) : SpecT Tryz.prog 6 0 tzCells [(.a [.b false, .n false .u64 (lm ((x : Nat) : Int)), .n false .u64 (lm ((y : Nat) : Int))]), .i .i64 0, .i .i64 1] (fun o => o = .ret (.t [.a [.b false, .n false .u64 (lm ((cdN x y : Nat) : Int))], .i .i64 0])) := by
  have hPa := P2 false (lm (x : Int)) (lm (y : Int)) x y (Rw.of (by omega)) (Rw.of (by omega)) hy
  rw [Sy hx, Ada hc, Ade hc] at hPa
  have hv := Aib hx hy
  rcases Aca 1 _ Tryz.f27 (by decide) rfl Tryz.func27 rfl rfl Ai1 Ai0 false (lm (x : Int)) (lm (y : Int)) y (Rw.of (by omega)) hy 0 (by decide) (by decide) false x y lx ly hPa hx hy with ⟨hf, h⟩ | ⟨hf, h⟩
  · refine h.fz fun o G ⟨e, eG⟩ => ⟨_, e, ?_⟩
    subst eG
    show Fz _ (.t [.a [.b (decide (atV 2 false x y 0 < 0)), .o 0 0 0 (lm (atV 2 false x y 0)).length], .i .i64 0]) _
    rw [hv, decide_eq_false (Int.not_lt.2 (Int.natCast_nonneg _))]
    exact .t (.cons (.a (.cons .b (.cons (.o rfl rfl) .nil))) (.cons .i .nil))
  · exfalso
    have h1 := (Ny (k := 2) (v := zs false (SN x y 0)) (w := (SD x y 0 : Int)) (by rw [Ajg]; omega)).1
    rw [E8, Afn] at h1
    have h2 : Al (atV 2 false x y 0) = Al (wq 2 (zs false (SN x y 0)) (SD x y 0 : Int)) := rfl
    rw [Afn] at h2
    have h3 : 67108864 < Al (atV 2 false x y 0) := hf
    omega

theorem Akv (x y : Nat) (hx : x ≠ 0) (hy : y ≠ 0) (hc : Nat.gcd x y = 1) (lx : Al (x : Int) ≤ 67108800) (ly : Al (y : Int) ≤ 67108800) : SpecT Tryz.prog 6 0 tzCells [(.a [.b false, .n false .u64 (lm ((x : Nat) : Int)), .n false .u64 (lm ((y : Nat) : Int))]), .i .i64 0, .i .i64 0] (fun o => o = .ret (.t [.a [.b false, .n false .u64 (lm ((x / y : Nat) : Int))], .i .i64 0])) := by
  have hPa := P2 false (lm (x : Int)) (lm (y : Int)) x y (Rw.of (by omega)) (Rw.of (by omega)) hy
  rw [Sy hx, Ada hc, Ade hc] at hPa
  have hv := Aic hx hy
  rcases Aca 0 _ Tryz.f26 (by decide) rfl Tryz.func26 rfl rfl Afh Afg false (lm (x : Int)) (lm (y : Int)) y (Rw.of (by omega)) hy 0 (by decide) (by decide) false x y lx ly hPa hx hy with ⟨hf, h⟩ | ⟨hf, h⟩
  · refine h.fz fun o G ⟨e, eG⟩ => ⟨_, e, ?_⟩
    subst eG
    show Fz _ (.t [.a [.b (decide (atV 1 false x y 0 < 0)), .o 0 0 0 (lm (atV 1 false x y 0)).length], .i .i64 0]) _
    rw [hv, decide_eq_false (Int.not_lt.2 (Int.natCast_nonneg _))]
    exact .t (.cons (.a (.cons .b (.cons (.o rfl rfl) .nil))) (.cons .i .nil))
  · exfalso
    have h1 := (Ny (k := 1) (v := zs false (SN x y 0)) (w := (SD x y 0 : Int)) (by rw [Ajg]; omega)).1
    rw [E8, Afn] at h1
    have h2 : Al (atV 1 false x y 0) = Al (wq 1 (zs false (SN x y 0)) (SD x y 0 : Int)) := rfl
    rw [Afn] at h2
    have h3 : 67108864 < Al (atV 1 false x y 0) := hf
    omega

theorem Alh (c d : Nat) (hd : d ≠ 0) (h0 : c % d ≠ 0) (g : Nat.gcd c d = 1) (lc : Al (c : Int) ≤ 1048600) (ld : Al (d : Int) ≤ 1048600) : Spec Tryz.prog 97 [(.a [.b false, .n false .u64 (lm ((c : Nat) : Int)), .n false .u64 (lm ((d : Nat) : Int))]), (.a [.b false, .n false .u64 (lm ((c / d : Nat) : Int)), .n false .u64 [1]])] (fun o => o = .ret (.t [(.a [.b (decide (((c % d : Nat) : Int) < 0)), .n false .u64 (lm ((c % d : Nat) : Int)), .n false .u64 (lm ((d : Nat) : Int))]), .i .i64 0])) := by
  have lq : Al ((c / d : Nat) : Int) ≤ 1048600 := Nat.le_trans (Cn (Nat.div_le_self c d)) lc
  have h := Ain false (lm (c : Int)) (lm (d : Int)) c d (Rw.of (by omega)) (Rw.of (by omega)) (c : Int) d (Qe.raw (s := false) hd) false (lm ((c / d : Nat) : Int)) [1] (c / d) 1 (Rw.of (by omega)) (X6 (by decide) (by decide)) ((c / d : Nat) : Int) 1 (Qe.raw (s := false) (by decide)) (by have : Al ((1 : Nat) : Int) = 1 := (by decide); omega)
  have e : (c : Int) * ((1 : Nat) : Int) + -((c / d : Nat) : Int) * (d : Int) = ((c % d : Nat) : Int) := by
    have := Nat.div_add_mod c d
    have h2 : (d : Int) * ((c / d : Nat) : Int) + ((c % d : Nat) : Int) = (c : Int) := by exact_mod_cast this
    rw [show ((1 : Nat) : Int) = 1 from rfl, Int.mul_one, Int.neg_mul, Int.mul_comm]
    omega
  have k := So (a := ((c % d : Nat) : Int)) (b := d) (Z := (c : Int) * ((1 : Nat) : Int) + -((c / d : Nat) : Int) * (d : Int)) (W := d * 1) (by show Nat.gcd (c % d) d = 1; rw [← Nat.gcd_rec, Nat.gcd_comm]; exact g) hd (by rw [Nat.mul_one]; exact hd) (by rw [e, Nat.mul_one])
  rw [k.1, k.2.1, k.2.2] at h
  exact h

theorem Adv (v : Int) : Spec Tryz.prog 49 [.i .i64 v, .i .i64 0] (fun o => o = .ret (.i .i64 v)) := by
  refine Aw [(0, .i .i64 v), (1, .i .i64 0)] rfl Tryz.func49 rfl (Zb rfl) fun Γ hN hds hL hR => ?_
  have hd := B2 11 hN
  refine Zs <| Za rfl (hd 4 rfl) <| Ab <| Ae <| Zs <| Zm rfl (hd 5 rfl) <| Ac (B0 (Ec rfl rfl) (by decide)) (hd 6 rfl) <| Ab <| A6 rfl <| Aj <| Ae ?_; refine Af <| Zm rfl (hd 10 rfl) <| Za rfl (hd 4 rfl) <| Ab <| An ?_
  refine ⟨_, _, (.cons rfl .nil), .i, ?_⟩
  exact rfl

abbrev qN (x : Nat) : V := .n false .u64 (lm (x : Int))
abbrev qR (x y : Nat) : V := .a [.b false, qN x, qN y]
abbrev qD (c d : Nat) : V := .a [.b (decide (((c % d : Nat) : Int) < 0)), qN (c % d), qN d]
abbrev qW (x : Nat) : V := .a [.b false, qN x]
abbrev q0 (v : V) : V := .t [v, .i .i64 0]
abbrev qI : V := .a [.b false, .n true .u64 [1], .n true .u64 [1]]
abbrev qK (x : Nat) : V := .a [.b false, qN x, .n true .u64 [1]]
abbrev oR (x y : Nat) : Ob := ⟨27, 3, 0, true, [.b false, qN x, qN y]⟩
abbrev oW (x : Nat) : Ob := ⟨25, 2, 1, true, [.b false, qN x]⟩
abbrev oK (x : Nat) : Ob := ⟨27, 3, 1, true, [.b false, qN x, .n true .u64 [1]]⟩
abbrev oL (k P Q : Nat) : Ob := ⟨25, 2, k, true, (cfR (P : Int) Q k).flatten⟩
abbrev oB (a b c d : Nat) (r : List Ob) : List Ob := oR a b :: oR c d :: ⟨27, 3, 0, true, [.b false, .c (.slice none 0 0), .c (.slice none 0 0)]⟩ :: r
abbrev oC (a b c d : Nat) (k P Q : Nat) (e f g : Nat) (r : List Ob) : List Ob := oB a b c d (oL k P Q :: oW e :: oW f :: ⟨25, 2, 0, true, [.b false, qN g]⟩ :: r)
end Go.Proofs.YtnadmljoefecfaaGreatDoor.Vc
