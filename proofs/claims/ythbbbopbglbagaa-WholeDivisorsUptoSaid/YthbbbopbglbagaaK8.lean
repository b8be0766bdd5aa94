/- surdlaw06.WholeDivisors answers true for every two numbers of bulk at most 1048576, and leaves its input as it was: the greatest common divisor with its factors, inverses Texts joined: Zh, Zi, La, Zj, Zo, Ra, Re, Rg, Lb, Lc. -/
import Derived.Test.YthbbbopbglbagaaK7
set_option linter.unusedVariables false
set_option linter.unusedSimpArgs false
set_option maxHeartbeats 4000000
namespace Go.Proofs.Ythbbbopbglbagaa.Vc
open Go Go.RowKit
set_option maxRecDepth 100000 in
theorem Lj (a b : Int) (ha : Bm a ≤ 67108800) (hb : Bm b ≤ 67108800) (h0 : b ≠ 0) : Spec Try.prog 37 [.a [.b (decide (a < 0)), .n false .u64 (lm a)], .a [.b (decide (b < 0)), .n false .u64 (lm b)]] (fun o => ∃ g x : Int, o = .ret (.t [.a [.b (decide (g < 0)), .n false .u64 (lm g)], .a [.b (decide (x < 0)), .n false .u64 (lm x)]]) ∧ CoE a b g x) := by
  refine Az [(0, .a [.b (decide (a < 0)), .n false .u64 (lm a)]), (1, .a [.b (decide (b < 0)), .n false .u64 (lm b)])] rfl Try.func37 rfl (zlb rfl) fun Γ hN hds hL hR => ?_
  have hd := B5 54 hN
  refine zsr <| Ay (Br (id := 0) (n := 2) rfl rfl rfl (by decide) rfl) (hd 2 rfl) <| Ay (Br (id := 1) (n := 2) rfl rfl rfl (by decide) rfl) (hd 3 rfl) <| Ay (An (id := 2) At (by decide) rfl (by decide) rfl) (hd 4 rfl) <| Ay (An (id := 3) At (by decide) rfl (by decide) rfl) (hd 5 rfl) <| Ab <| Af <| G0 2 _ <| Be (n := 6) _ rfl B2 ?_; refine Db (fun _ _ _ _ h => h) fun ops1 Q1 F0 hpan ho hq hF => ?_
  have S1_111111 : JA Try.prog ops1 0 #[true, true, true, true, true, true] Γ ([(6, .p 4 1 0), (7, .p 5 1 0), (15, (qf a)), (16, (qf b))] ++ F0) [(oqf 0 a), (oqf 0 b), (oqm 0), (oqm 0), (oqf 1 a), (oqf 1 b)] Q1 := by
    subst ho; subst hq; subst hF; refine Bi (by kernel_rfl) <| Af <| Ag ?_
    refine Aj Try.f35 (Wz 1 (by unfold inI; omega)) rfl Try.func35 rfl rfl (Aa rfl Ad) (.cons .i .nil) (hd 17 rfl) ?_ (fun ch hp => by simp at hp)
    rintro y hy; injection hy with hy; subst hy
    refine Aj Try.f35 (Wz 0 (by unfold inI; omega)) rfl Try.func35 rfl rfl (Aa rfl Ad) (.cons .i .nil) (hd 18 rfl) ?_ (fun ch hp => by simp at hp)
    rintro _ ⟨⟩; refine Ay (An (id := 6) At (by decide) rfl (by decide) rfl) (hd 8 rfl) <| Ay (An (id := 7) At (by decide) rfl (by decide) rfl) (hd 9 rfl) <| A1 (Ae rfl rfl rfl Au rfl rfl (zlb rfl)) <| A1 (Ae rfl rfl rfl Au rfl rfl (zlb rfl)) <| Ab <| Af <| Aw <| Cs (H' := [(oqf 0 a), (oqf 0 b), (oqm 0), (oqm 0), (oqf 1 a), (oqf 1 b), (oqt 0 1), (oqt 0 0)]) rfl ?_
    refine Iq (G := Int × Int × Int × Int × Bool × Bool) 8 (fun g => Co a b g.1 g.2.1 g.2.2.1 g.2.2.2.1) (fun g => [(10, .u), (11, .u), (12, .u), (13, .u), (14, .u), (19, .u), (20, .u), (21, .u), (22, .u), (23, .u), (24, .u), (25, .u), (26, .u), (27, .u), (28, .u), (29, .u), (30, .u), (31, .u), (32, .u), (33, .u), (34, .u), (35, .u), (36, .u), (37, .u), (38, .u), (39, .u), (40, .u), (41, .u), (42, .u), (43, .u), (44, .u)]) (fun g => [⟨27, 2, 0, true, [.b (decide (a < 0)), .n false .u64 (lm a)]⟩, ⟨27, 2, 0, true, [.b (decide (b < 0)), .n false .u64 (lm b)]⟩, ⟨27, 2, 0, true, [.b false, .c (.slice none 0 0)]⟩, ⟨27, 2, 0, true, [.b false, .c (.slice none 0 0)]⟩, ⟨27, 2, 1, true, [.b (decide (g.1 < 0)), .n g.2.2.2.2.1 .u64 (lm g.1)]⟩, ⟨27, 2, 1, true, [.b (decide (g.2.1 < 0)), .n g.2.2.2.2.2 .u64 (lm g.2.1)]⟩, ⟨27, 2, 0, true, [.b (decide (g.2.2.1 < 0)), .n true .u64 (lm g.2.2.1)]⟩, ⟨27, 2, 0, true, [.b (decide (g.2.2.2.1 < 0)), .n true .u64 (lm g.2.2.2.1)]⟩]) (fun g => g.2.1.natAbs) (a, b, 1, 0, false, false) ?_ ?_ rfl hR rfl (fun _ _ => rfl) (fun g _ => (.cons rfl (.cons rfl (.cons rfl (.cons rfl (.cons rfl (.cons rfl (.cons rfl (.cons rfl .nil))))))))) ?_
    · exact Aaz h0
    · exact (.v9 (.v9 (.v9 (.u .nil))))
    · rintro ⟨r, s, x, y, f1, f2⟩ hC
      dsimp only at hC
      have hlr : Bm r ≤ 67108800 := Ha hC.br (by omega) (by omega)
      have hls : Bm s ≤ 67108800 := Nat.le_trans (A5 hC.bs) (by omega)
      have hly := A5 hC.by_
      have hlx := A5 hC.bx
      have hmr := Bf (v := r) (by omega)
      have hms := Bf (v := s) (by omega)
      have hmy := Bf (v := y) (by omega)
      have hmx := Bf (v := x) (by omega)
      refine Af <| zsr <| Ac (Ah Aq rfl rfl rfl rfl) (hd 19 rfl) ?_
      refine Aj Try.f36 (Ec s (by omega)) rfl Try.func36 rfl rfl (Aa rfl Ad) (.cons (.a1 .b (.a1 .n .a0)) .nil) (hd 20 rfl) ?_ (fun ch hp => by simp at hp)
      rintro _ ⟨⟩; refine Ac (Cm rfl rfl) (hd 21 rfl) <| Ab ?_
      refine Bu rfl (fun h1 => ?_) (fun h1 => ?_)
      · have hs : s ≠ 0 := fun e => h1 (Ex.2 e)
        have hq := euc (v := r) hs
        have hN := hC.next h0 hs hq
        have hlyn := A5 hN.by_
        have hqy : Bm ((wq 4 r s) * y) ≤ Bm b + 1 := G8 (by have := hN.by_; have := hC.bx; omega)
        have hwl := Hi (k := 4) (v := r) hs
        have hlq := Bf (v := (wq 4 r s)) (by omega)
        have hlqy := Bf (v := ((wq 4 r s) * y)) (by omega)
        have hlR := A5 hN.bs
        have hEu : Spec Try.prog 39 [.a [.b (decide (r < 0)), .n false .u64 (lm r)], .a [.b (decide (s < 0)), .n false .u64 (lm s)]] (fun o => o = .ret (.t [.a [.b (decide ((wq 4 r s) < 0)), .n true .u64 (lm (wq 4 r s))], .a [.b (decide ((r % s) < 0)), .n true .u64 (lm (r % s))], .i .i64 0])) := by have h := J4 (decide (r < 0)) (decide (s < 0)) (lm r) (lm s) r s (by omega) (by omega) (Cq r) (Cq s) (Cn r) (Cn s) (by omega) (by omega) hs; rwa [hq] at h
        refine Am <| Aw <| Af <| Cs (H' := [(oqf 0 a), (oqf 0 b), (oqm 0), (oqm 0), ⟨27, 2, 1, true, [.b (decide (r < 0)), .n f1 .u64 (lm r)]⟩, ⟨27, 2, 1, true, [.b (decide (s < 0)), .n f2 .u64 (lm s)]⟩, (oqt 0 x), (oqt 0 y)]) rfl <| Ag <| Ac (Ah Aq rfl rfl rfl rfl) (hd 23 rfl) <| Ac (Ah Aq rfl rfl rfl rfl) (hd 24 rfl) ?_
        refine Aj Try.f39 (hEu) rfl Try.func39 rfl rfl (Aa rfl (Aa rfl Ad)) (.cons (.a1 .b (.a1 .n .a0)) (.cons (.a1 .b (.a1 .n .a0)) .nil)) (hd 25 rfl) ?_ (fun ch hp => by simp at hp)
        rintro _ ⟨⟩; refine zmv rfl (hd 22 rfl) <| Ac (Ak rfl rfl) (hd 26 rfl) <| Ac (Ak rfl rfl) (hd 27 rfl) <| Ac (Ak rfl rfl) (hd 28 rfl) <| Ay (An (id := 8) At (by decide) rfl (by decide) rfl) (hd 10 rfl) <| Ay (An (id := 9) At (by decide) rfl (by decide) rfl) (hd 11 rfl) <| A1 (Ae rfl rfl rfl Au rfl rfl (zlb rfl)) <| A1 (Ae rfl rfl rfl Au rfl rfl (zlb rfl)) <| zas rfl (hd 12 rfl) <| Ab <| Af <| Cs (H' := [(oqf 0 a), (oqf 0 b), (oqm 0), (oqm 0), ⟨27, 2, 1, true, [.b (decide (r < 0)), .n f1 .u64 (lm r)]⟩, ⟨27, 2, 1, true, [.b (decide (s < 0)), .n f2 .u64 (lm s)]⟩, (oqt 0 x), (oqt 0 y), (oqt 0 (wq 4 r s)), (oqt 0 (r % s))]) rfl <| Be (n := 4) _ rfl B2 ?_; refine Db (fun _ _ _ _ h => h) fun ops1 Q1 F0 hpan ho hq hF => ?_
        have S5_1111 : JA Try.prog ops1 0 #[true, true, true, true] Γ ([(29, .a [.b (decide (s < 0)), .n f2 .u64 (lm s)]), (30, (qt (r % s)))] ++ F0) [(oqf 0 a), (oqf 0 b), (oqm 0), (oqm 0), ⟨27, 2, 1, true, [.b (decide (s < 0)), .n f2 .u64 (lm s)]⟩, (oqt 1 (r % s)), (oqt 0 x), (oqt 0 y), (oqt 0 (wq 4 r s)), (oqt 0 (r % s))] Q1 := by
          subst ho; subst hq; subst hF; refine Bi (by kernel_rfl) <| Af <| Cs (H' := [(oqf 0 a), (oqf 0 b), (oqm 0), (oqm 0), ⟨27, 2, 1, true, [.b (decide (s < 0)), .n f2 .u64 (lm s)]⟩, (oqt 1 (r % s)), (oqt 0 x), (oqt 0 y), (oqt 0 (wq 4 r s)), (oqt 0 (r % s))]) rfl <| Ag <| Ac (Ah Aq rfl rfl rfl rfl) (hd 32 rfl) <| Ac (Ah Aq rfl rfl rfl rfl) (hd 33 rfl) ?_
          refine Aj Try.f40 (Ns (wq 4 r s) y (by omega) (by omega) (by omega)) rfl Try.func40 rfl rfl (Aa rfl (Aa rfl Ad)) (.cons (.a1 .b (.a1 .n .a0)) (.cons (.a1 .b (.a1 .n .a0)) .nil)) (hd 34 rfl) ?_ (fun ch hp => by simp at hp)
          rintro _ ⟨⟩; refine zmv rfl (hd 31 rfl) <| Ac (Ak rfl rfl) (hd 35 rfl) <| Ac (Ak rfl rfl) (hd 36 rfl) <| Ay (An (id := 10) At (by decide) rfl (by decide) rfl) (hd 13 rfl) <| A1 (Ae rfl rfl rfl Au rfl rfl (zlb rfl)) <| zas rfl (hd 14 rfl) <| Ab <| zsr <| Ac (Ah Aq rfl rfl rfl rfl) (hd 38 rfl) <| Ac (Ah Aq rfl rfl rfl rfl) (hd 39 rfl) ?_
          refine Aj Try.f42 (Nr x ((wq 4 r s) * y) (by omega) (by omega) (by omega)) rfl Try.func42 rfl rfl (Aa rfl (Aa rfl Ad)) (.cons (.a1 .b (.a1 .n .a0)) (.cons (.a1 .b (.a1 .n .a0)) .nil)) (hd 40 rfl) ?_ (fun ch hp => by simp at hp)
          rintro _ ⟨⟩; refine zmv rfl (hd 37 rfl) <| Ac (Ak rfl rfl) (hd 41 rfl) <| Ac (Ak rfl rfl) (hd 42 rfl) <| A1 (Ae rfl rfl rfl Au rfl rfl (zlb rfl)) <| Ab <| Cs (H' := [(oqf 0 a), (oqf 0 b), (oqm 0), (oqm 0), ⟨27, 2, 1, true, [.b (decide (s < 0)), .n f2 .u64 (lm s)]⟩, (oqt 1 (r % s)), (oqt 0 x), (oqt 0 y), (oqt 0 (wq 4 r s)), (oqt 0 (r % s)), (oqt 0 (x - (wq 4 r s) * y))]) rfl <| Be (n := 4) _ rfl B2 ?_; refine Db (fun _ _ _ _ h => h) fun ops1 Q1 F0 hpan ho hq hF => ?_
          have S8_1111 : JA Try.prog ops1 0 #[true, true, true, true] Γ ([(43, (qt y)), (44, (qt (x - (wq 4 r s) * y)))] ++ F0) [(oqf 0 a), (oqf 0 b), (oqm 0), (oqm 0), ⟨27, 2, 1, true, [.b (decide (s < 0)), .n f2 .u64 (lm s)]⟩, (oqt 1 (r % s)), (oqt 0 y), (oqt 0 (x - (wq 4 r s) * y)), (oqt 0 (wq 4 r s)), (oqt 0 (r % s)), (oqt 0 (x - (wq 4 r s) * y))] Q1 := by
            subst ho; subst hq; subst hF; refine Bi (by kernel_rfl) ?_
            refine ⟨(s, r % s, y, x - wq 4 r s * y, f2, true), ?_, ?_, rfl, Ba 62 rfl rfl ?_⟩
            · exact hN
            · show (r % s).natAbs < s.natAbs
              have := Int.emod_lt r hs
              have := Int.emod_nonneg r hs
              omega
            · exact (.v9 (.v9 (.v9 (.u .nil))))
          have S8_1110 : JA Try.prog ops1 1 #[true, true, true, false] Γ ([(43, (qt y)), (44, (qt (x - (wq 4 r s) * y)))] ++ F0) [(oqf 0 a), (oqf 0 b), (oqm 0), (oqm 0), ⟨27, 2, 1, true, [.b (decide (s < 0)), .n f2 .u64 (lm s)]⟩, (oqt 1 (r % s)), (oqt 0 y), (oqt 0 y), (oqt 0 (wq 4 r s)), (oqt 0 (r % s)), (oqt 0 (x - (wq 4 r s) * y))] Q1 := by
            subst ho; subst hF
            refine Bb 3 ?_ rfl (by kernel_rfl)
            refine A7 (Ae rfl rfl rfl Au rfl rfl (zlb rfl)) rfl ?_
            refine Ai S8_1111 2 (.cons rfl (.cons rfl .nil))
          have S8_1100 : JA Try.prog ops1 2 #[true, true, false, false] Γ ([(43, (qt y)), (44, (qt (x - (wq 4 r s) * y)))] ++ F0) [(oqf 0 a), (oqf 0 b), (oqm 0), (oqm 0), ⟨27, 2, 1, true, [.b (decide (s < 0)), .n f2 .u64 (lm s)]⟩, (oqt 1 (r % s)), (oqt 0 x), (oqt 0 y), (oqt 0 (wq 4 r s)), (oqt 0 (r % s)), (oqt 0 (x - (wq 4 r s) * y))] Q1 := by
            subst ho; subst hF
            refine Bb 2 ?_ rfl (by kernel_rfl)
            refine A7 (Ae rfl rfl rfl Au rfl rfl (zlb rfl)) rfl ?_
            refine Ai S8_1110 2 (.cons rfl (.cons rfl .nil))
          have S8_1010 : JA Try.prog ops1 2 #[true, false, true, false] Γ ([(43, (qt y))] ++ F0) [(oqf 0 a), (oqf 0 b), (oqm 0), (oqm 0), ⟨27, 2, 1, true, [.b (decide (s < 0)), .n f2 .u64 (lm s)]⟩, (oqt 1 (r % s)), (oqt 0 y), (oqt 0 y), (oqt 0 (wq 4 r s)), (oqt 0 (r % s)), (oqt 0 (x - (wq 4 r s) * y))] Q1 := by
            subst ho; subst hF; refine Bz 1 [3] (Ao (Ah Aq rfl rfl rfl rfl) (hd 44 rfl)) rfl (by kernel_rfl) (by kernel_rfl) (by kernel_rfl) (by kernel_rfl) hpan ?_
            refine Ai S8_1110 2 (.cons rfl (.cons rfl .nil))
          have S8_1000 : JA Try.prog ops1 3 #[true, false, false, false] Γ ([(43, (qt y))] ++ F0) [(oqf 0 a), (oqf 0 b), (oqm 0), (oqm 0), ⟨27, 2, 1, true, [.b (decide (s < 0)), .n f2 .u64 (lm s)]⟩, (oqt 1 (r % s)), (oqt 0 x), (oqt 0 y), (oqt 0 (wq 4 r s)), (oqt 0 (r % s)), (oqt 0 (x - (wq 4 r s) * y))] Q1 := by
            subst ho; subst hF
            refine Ct 1 2 ?_ ?_ rfl rfl (by kernel_rfl)
            · refine C4 (Ah Aq rfl rfl rfl rfl) (hd 44 rfl) ?_
              refine Ai S8_1100 2 (.cons rfl (.cons rfl .nil))
            · refine A7 (Ae rfl rfl rfl Au rfl rfl (zlb rfl)) rfl ?_
              refine Ai S8_1010 1 (.cons rfl .nil)
          have S8_0000 : JA Try.prog ops1 4 #[false, false, false, false] Γ ([] ++ F0) [(oqf 0 a), (oqf 0 b), (oqm 0), (oqm 0), ⟨27, 2, 1, true, [.b (decide (s < 0)), .n f2 .u64 (lm s)]⟩, (oqt 1 (r % s)), (oqt 0 x), (oqt 0 y), (oqt 0 (wq 4 r s)), (oqt 0 (r % s)), (oqt 0 (x - (wq 4 r s) * y))] Q1 := by
            subst ho; subst hF; refine Bz 0 [2, 3] (Ao (Ah Aq rfl rfl rfl rfl) (hd 43 rfl)) rfl (by kernel_rfl) (by kernel_rfl) (by kernel_rfl) (by kernel_rfl) hpan ?_
            refine Ai S8_1000 1 (.cons rfl .nil)
          subst ho; subst hF
          exact D2 (m := []) (by decide) rfl (Ba 0 rfl rfl .nil) S8_0000
        have S5_1110 : JA Try.prog ops1 1 #[true, true, true, false] Γ ([(29, .a [.b (decide (s < 0)), .n f2 .u64 (lm s)]), (30, (qt (r % s)))] ++ F0) [(oqf 0 a), (oqf 0 b), (oqm 0), (oqm 0), ⟨27, 2, 1, true, [.b (decide (s < 0)), .n f2 .u64 (lm s)]⟩, ⟨27, 2, 1, true, [.b (decide (s < 0)), .n f2 .u64 (lm s)]⟩, (oqt 0 x), (oqt 0 y), (oqt 0 (wq 4 r s)), (oqt 0 (r % s))] Q1 := by
          subst ho; subst hF
          refine Bb 3 ?_ rfl (by kernel_rfl)
          refine A7 (Ae rfl rfl rfl Au rfl rfl (zlb rfl)) rfl ?_
          refine Ai S5_1111 2 (.cons rfl (.cons rfl .nil))
        have S5_1100 : JA Try.prog ops1 2 #[true, true, false, false] Γ ([(29, .a [.b (decide (s < 0)), .n f2 .u64 (lm s)]), (30, (qt (r % s)))] ++ F0) [(oqf 0 a), (oqf 0 b), (oqm 0), (oqm 0), ⟨27, 2, 1, true, [.b (decide (r < 0)), .n f1 .u64 (lm r)]⟩, ⟨27, 2, 1, true, [.b (decide (s < 0)), .n f2 .u64 (lm s)]⟩, (oqt 0 x), (oqt 0 y), (oqt 0 (wq 4 r s)), (oqt 0 (r % s))] Q1 := by
          subst ho; subst hF
          refine Bb 2 ?_ rfl (by kernel_rfl)
          refine A7 (Ae rfl rfl rfl Au rfl rfl (zlb rfl)) rfl ?_
          refine Ai S5_1110 2 (.cons rfl (.cons rfl .nil))
        have S5_1010 : JA Try.prog ops1 2 #[true, false, true, false] Γ ([(29, .a [.b (decide (s < 0)), .n f2 .u64 (lm s)])] ++ F0) [(oqf 0 a), (oqf 0 b), (oqm 0), (oqm 0), ⟨27, 2, 1, true, [.b (decide (s < 0)), .n f2 .u64 (lm s)]⟩, ⟨27, 2, 1, true, [.b (decide (s < 0)), .n f2 .u64 (lm s)]⟩, (oqt 0 x), (oqt 0 y), (oqt 0 (wq 4 r s)), (oqt 0 (r % s))] Q1 := by
          subst ho; subst hF; refine Bz 1 [3] (Ao (Ah Aq rfl rfl rfl rfl) (hd 30 rfl)) rfl (by kernel_rfl) (by kernel_rfl) (by kernel_rfl) (by kernel_rfl) hpan ?_
          refine Ai S5_1110 2 (.cons rfl (.cons rfl .nil))
        have S5_1000 : JA Try.prog ops1 3 #[true, false, false, false] Γ ([(29, .a [.b (decide (s < 0)), .n f2 .u64 (lm s)])] ++ F0) [(oqf 0 a), (oqf 0 b), (oqm 0), (oqm 0), ⟨27, 2, 1, true, [.b (decide (r < 0)), .n f1 .u64 (lm r)]⟩, ⟨27, 2, 1, true, [.b (decide (s < 0)), .n f2 .u64 (lm s)]⟩, (oqt 0 x), (oqt 0 y), (oqt 0 (wq 4 r s)), (oqt 0 (r % s))] Q1 := by
          subst ho; subst hF
          refine Ct 1 2 ?_ ?_ rfl rfl (by kernel_rfl)
          · refine C4 (Ah Aq rfl rfl rfl rfl) (hd 30 rfl) ?_
            refine Ai S5_1100 2 (.cons rfl (.cons rfl .nil))
          · refine A7 (Ae rfl rfl rfl Au rfl rfl (zlb rfl)) rfl ?_
            refine Ai S5_1010 1 (.cons rfl .nil)
        have S5_0000 : JA Try.prog ops1 4 #[false, false, false, false] Γ ([] ++ F0) [(oqf 0 a), (oqf 0 b), (oqm 0), (oqm 0), ⟨27, 2, 1, true, [.b (decide (r < 0)), .n f1 .u64 (lm r)]⟩, ⟨27, 2, 1, true, [.b (decide (s < 0)), .n f2 .u64 (lm s)]⟩, (oqt 0 x), (oqt 0 y), (oqt 0 (wq 4 r s)), (oqt 0 (r % s))] Q1 := by
          subst ho; subst hF; refine Bz 0 [2, 3] (Ao (Ah Aq rfl rfl rfl rfl) (hd 29 rfl)) rfl (by kernel_rfl) (by kernel_rfl) (by kernel_rfl) (by kernel_rfl) hpan ?_
          refine Ai S5_1000 1 (.cons rfl .nil)
        subst ho; subst hF
        exact D2 (m := []) (by decide) rfl (Ba 0 rfl rfl .nil) S5_0000
      · have hs : s = 0 := Ex.1 (Decidable.not_not.1 h1)
        subst hs; refine By ?_
        refine Mf (G := Int × Int × Bool) (fun g => CoE a b g.1 g.2.1) (fun g => [(45, .u), (46, .u), (47, .u), (48, .u), (49, .u), (50, .u), (51, .u)]) (fun g => [⟨27, 2, 0, true, [.b (decide (a < 0)), .n false .u64 (lm a)]⟩, ⟨27, 2, 0, true, [.b (decide (b < 0)), .n false .u64 (lm b)]⟩, ⟨27, 2, 0, true, [.b false, .c (.slice none 0 0)]⟩, ⟨27, 2, 0, true, [.b false, .c (.slice none 0 0)]⟩, ⟨27, 2, 1, true, [.b (decide (g.1 < 0)), .n g.2.2 .u64 (lm g.1)]⟩, ⟨27, 2, 1, true, [.b (decide (0 < 0)), .n f2 .u64 (lm 0)]⟩, ⟨27, 2, 0, true, [.b (decide (g.2.1 < 0)), .n true .u64 (lm g.2.1)]⟩, ⟨27, 2, 0, true, [.b (decide (y < 0)), .n true .u64 (lm y)]⟩]) ?_ ?_
        · refine zsr <| Ac (Ah Aq rfl rfl rfl rfl) (hd 45 rfl) ?_
          refine Aj Try.f36 (Ec r (by omega)) rfl Try.func36 rfl rfl (Aa rfl Ad) (.cons (.a1 .b (.a1 .n .a0)) .nil) (hd 46 rfl) ?_ (fun ch hp => by simp at hp)
          rintro _ ⟨⟩; refine Ac (Ch rfl rfl) (hd 47 rfl) <| Ab ?_
          refine Bu rfl (fun h2 => ?_) (fun h2 => ?_)
          · refine Be (n := 6) _ rfl B2 ?_; refine Db (fun _ _ _ _ h => h) fun ops1 Q1 F0 hpan ho hq hF => ?_
            have S10_111111 : JA Try.prog ops1 0 #[true, true, true, true, true, true] Γ ([(48, .a [.b (decide (r < 0)), .n f1 .u64 (lm r)]), (49, (qt (-r))), (50, (qt x)), (51, (qt (-x)))] ++ F0) [(oqf 0 a), (oqf 0 b), (oqm 0), (oqm 0), (oqt 1 (-r)), ⟨27, 2, 1, true, [.b (decide (0 < 0)), .n f2 .u64 (lm 0)]⟩, (oqt 0 (-x)), (oqt 0 y)] Q1 := by
              subst ho; subst hq; subst hF; refine Bi (by kernel_rfl) ?_
              refine ⟨(-r, -x, true), ?_, rfl, Ba 7 rfl rfl ?_⟩
              · exact hC.neg (by rcases F4 (x := r) with ⟨h, e⟩ | ⟨h, e⟩ | ⟨h, e⟩ <;> omega)
              · exact (.v5 (.u (.u .nil)))
            have S10_111110 : JA Try.prog ops1 1 #[true, true, true, true, true, false] Γ ([(48, .a [.b (decide (r < 0)), .n f1 .u64 (lm r)]), (49, (qt (-r))), (50, (qt x)), (51, (qt (-x)))] ++ F0) [(oqf 0 a), (oqf 0 b), (oqm 0), (oqm 0), (oqt 1 (-r)), ⟨27, 2, 1, true, [.b (decide (0 < 0)), .n f2 .u64 (lm 0)]⟩, (oqt 0 x), (oqt 0 y)] Q1 := by
              subst ho; subst hF
              refine Bb 5 ?_ rfl (by kernel_rfl)
              refine A7 (Ae rfl rfl rfl Au rfl rfl (zlb rfl)) rfl ?_
              refine Ai S10_111111 4 (.cons rfl (.cons rfl (.cons rfl (.cons rfl .nil))))
            have S10_111100 : JA Try.prog ops1 2 #[true, true, true, true, false, false] Γ ([(48, .a [.b (decide (r < 0)), .n f1 .u64 (lm r)]), (49, (qt (-r))), (50, (qt x)), (51, (qt (-x)))] ++ F0) [(oqf 0 a), (oqf 0 b), (oqm 0), (oqm 0), ⟨27, 2, 1, true, [.b (decide (r < 0)), .n f1 .u64 (lm r)]⟩, ⟨27, 2, 1, true, [.b (decide (0 < 0)), .n f2 .u64 (lm 0)]⟩, (oqt 0 x), (oqt 0 y)] Q1 := by
              subst ho; subst hF
              refine Bb 4 ?_ rfl (by kernel_rfl)
              refine A7 (Ae rfl rfl rfl Au rfl rfl (zlb rfl)) rfl ?_
              refine Ai S10_111110 4 (.cons rfl (.cons rfl (.cons rfl (.cons rfl .nil))))
            have S10_111000 : JA Try.prog ops1 3 #[true, true, true, false, false, false] Γ ([(48, .a [.b (decide (r < 0)), .n f1 .u64 (lm r)]), (49, (qt (-r))), (50, (qt x))] ++ F0) [(oqf 0 a), (oqf 0 b), (oqm 0), (oqm 0), ⟨27, 2, 1, true, [.b (decide (r < 0)), .n f1 .u64 (lm r)]⟩, ⟨27, 2, 1, true, [.b (decide (0 < 0)), .n f2 .u64 (lm 0)]⟩, (oqt 0 x), (oqt 0 y)] Q1 := by
              subst ho; subst hF
              refine Bb 3 ?_ rfl (by kernel_rfl)
              refine A4 Try.f64 (T1 x (by omega)) rfl Try.func64 rfl rfl (Aa rfl Ad) (.cons (.a1 .b (.a1 .n .a0)) .nil) (hd 51 rfl) ?_ (fun ch hp => by simp at hp)
              rintro y hy; injection hy with hy; subst hy
              refine Ai S10_111100 4 (.cons rfl (.cons rfl (.cons rfl (.cons rfl .nil))))
            have S10_101000 : JA Try.prog ops1 4 #[true, false, true, false, false, false] Γ ([(48, .a [.b (decide (r < 0)), .n f1 .u64 (lm r)]), (50, (qt x))] ++ F0) [(oqf 0 a), (oqf 0 b), (oqm 0), (oqm 0), ⟨27, 2, 1, true, [.b (decide (r < 0)), .n f1 .u64 (lm r)]⟩, ⟨27, 2, 1, true, [.b (decide (0 < 0)), .n f2 .u64 (lm 0)]⟩, (oqt 0 x), (oqt 0 y)] Q1 := by
              subst ho; subst hF
              refine Bb 1 ?_ rfl (by kernel_rfl)
              refine A4 Try.f64 (T1 r (by omega)) rfl Try.func64 rfl rfl (Aa rfl Ad) (.cons (.a1 .b (.a1 .n .a0)) .nil) (hd 49 rfl) ?_ (fun ch hp => by simp at hp)
              rintro y hy; injection hy with hy; subst hy
              refine Ai S10_111000 3 (.cons rfl (.cons rfl (.cons rfl .nil)))
            have S10_100000 : JA Try.prog ops1 5 #[true, false, false, false, false, false] Γ ([(48, .a [.b (decide (r < 0)), .n f1 .u64 (lm r)])] ++ F0) [(oqf 0 a), (oqf 0 b), (oqm 0), (oqm 0), ⟨27, 2, 1, true, [.b (decide (r < 0)), .n f1 .u64 (lm r)]⟩, ⟨27, 2, 1, true, [.b (decide (0 < 0)), .n f2 .u64 (lm 0)]⟩, (oqt 0 x), (oqt 0 y)] Q1 := by
              subst ho; subst hF; refine Bz 2 [3, 4, 5] (Ao (Ah Aq rfl rfl rfl rfl) (hd 50 rfl)) rfl (by kernel_rfl) (by kernel_rfl) (by kernel_rfl) (by kernel_rfl) hpan ?_
              refine Ai S10_101000 2 (.cons rfl (.cons rfl .nil))
            have S10_000000 : JA Try.prog ops1 6 #[false, false, false, false, false, false] Γ ([] ++ F0) [(oqf 0 a), (oqf 0 b), (oqm 0), (oqm 0), ⟨27, 2, 1, true, [.b (decide (r < 0)), .n f1 .u64 (lm r)]⟩, ⟨27, 2, 1, true, [.b (decide (0 < 0)), .n f2 .u64 (lm 0)]⟩, (oqt 0 x), (oqt 0 y)] Q1 := by
              subst ho; subst hF; refine Bz 0 [1, 3, 4, 5] (Ao (Ah Aq rfl rfl rfl rfl) (hd 48 rfl)) rfl (by kernel_rfl) (by kernel_rfl) (by kernel_rfl) (by kernel_rfl) hpan ?_
              refine Ai S10_100000 1 (.cons rfl .nil)
            subst ho; subst hF
            exact D2 (m := []) (by decide) rfl (Ba 0 rfl rfl .nil) S10_000000
          · refine Am ?_
            refine ⟨(r, x, f1), ?_, rfl, Ba 3 rfl rfl ?_⟩
            · exact hC.pos (by rcases F4 (x := r) with ⟨h, e⟩ | ⟨h, e⟩ | ⟨h, e⟩ <;> omega)
            · exact (.v5 (.u (.u .nil)))
        · rintro ⟨g, z, f⟩ hE
          dsimp only at hE
          refine Af <| Be (n := 4) _ rfl B2 ?_; refine Db (fun _ _ _ _ h => h) fun ops1 Q1 F0 hpan ho hq hF => ?_
          have S11_1111 : JA Try.prog ops1 0 #[true, true, true, true] Γ ([(52, .a [.b (decide (g < 0)), .n f .u64 (lm g)]), (53, (qt z))] ++ F0) [(oqf 0 a), (oqf 0 b), ⟨27, 2, 0, true, [.b (decide (g < 0)), .n f .u64 (lm g)]⟩, (oqt 0 z), ⟨27, 2, 1, true, [.b (decide (g < 0)), .n f .u64 (lm g)]⟩, ⟨27, 2, 1, true, [.b (decide (0 < 0)), .n f2 .u64 (lm 0)]⟩, (oqt 0 z), (oqt 0 y)] Q1 := by
            subst ho; subst hq; subst hF; refine Bi (by kernel_rfl) <| As ?_
            refine ⟨_, _, (.cons (ResV.cell Aq rfl rfl rfl rfl) (.cons (ResV.cell Aq rfl rfl rfl rfl) .nil)), (.t1 (.a1 .b (.a1 .nn .a0)) (.t1 (.a1 .b (.a1 .nn .a0)) .t0)), ?_⟩
            exact ⟨g, z, rfl, hE⟩
          have S11_1110 : JA Try.prog ops1 1 #[true, true, true, false] Γ ([(52, .a [.b (decide (g < 0)), .n f .u64 (lm g)]), (53, (qt z))] ++ F0) [(oqf 0 a), (oqf 0 b), ⟨27, 2, 0, true, [.b (decide (g < 0)), .n f .u64 (lm g)]⟩, (oqm 0), ⟨27, 2, 1, true, [.b (decide (g < 0)), .n f .u64 (lm g)]⟩, ⟨27, 2, 1, true, [.b (decide (0 < 0)), .n f2 .u64 (lm 0)]⟩, (oqt 0 z), (oqt 0 y)] Q1 := by
            subst ho; subst hF
            refine Bb 3 ?_ rfl (by kernel_rfl)
            refine A7 (Ae rfl rfl rfl Au rfl rfl (zlb rfl)) rfl ?_
            refine Ai S11_1111 2 (.cons rfl (.cons rfl .nil))
          have S11_1100 : JA Try.prog ops1 2 #[true, true, false, false] Γ ([(52, .a [.b (decide (g < 0)), .n f .u64 (lm g)]), (53, (qt z))] ++ F0) [(oqf 0 a), (oqf 0 b), (oqm 0), (oqm 0), ⟨27, 2, 1, true, [.b (decide (g < 0)), .n f .u64 (lm g)]⟩, ⟨27, 2, 1, true, [.b (decide (0 < 0)), .n f2 .u64 (lm 0)]⟩, (oqt 0 z), (oqt 0 y)] Q1 := by
            subst ho; subst hF
            refine Bb 2 ?_ rfl (by kernel_rfl)
            refine A7 (Ae rfl rfl rfl Au rfl rfl (zlb rfl)) rfl ?_
            refine Ai S11_1110 2 (.cons rfl (.cons rfl .nil))
          have S11_1010 : JA Try.prog ops1 2 #[true, false, true, false] Γ ([(52, .a [.b (decide (g < 0)), .n f .u64 (lm g)])] ++ F0) [(oqf 0 a), (oqf 0 b), ⟨27, 2, 0, true, [.b (decide (g < 0)), .n f .u64 (lm g)]⟩, (oqm 0), ⟨27, 2, 1, true, [.b (decide (g < 0)), .n f .u64 (lm g)]⟩, ⟨27, 2, 1, true, [.b (decide (0 < 0)), .n f2 .u64 (lm 0)]⟩, (oqt 0 z), (oqt 0 y)] Q1 := by
            subst ho; subst hF; refine Bz 1 [3] (Ao (Ah Aq rfl rfl rfl rfl) (hd 53 rfl)) rfl (by kernel_rfl) (by kernel_rfl) (by kernel_rfl) (by kernel_rfl) hpan ?_
            refine Ai S11_1110 2 (.cons rfl (.cons rfl .nil))
          have S11_1000 : JA Try.prog ops1 3 #[true, false, false, false] Γ ([(52, .a [.b (decide (g < 0)), .n f .u64 (lm g)])] ++ F0) [(oqf 0 a), (oqf 0 b), (oqm 0), (oqm 0), ⟨27, 2, 1, true, [.b (decide (g < 0)), .n f .u64 (lm g)]⟩, ⟨27, 2, 1, true, [.b (decide (0 < 0)), .n f2 .u64 (lm 0)]⟩, (oqt 0 z), (oqt 0 y)] Q1 := by
            subst ho; subst hF
            refine Ct 1 2 ?_ ?_ rfl rfl (by kernel_rfl)
            · refine C4 (Ah Aq rfl rfl rfl rfl) (hd 53 rfl) ?_
              refine Ai S11_1100 2 (.cons rfl (.cons rfl .nil))
            · refine A7 (Ae rfl rfl rfl Au rfl rfl (zlb rfl)) rfl ?_
              refine Ai S11_1010 1 (.cons rfl .nil)
          have S11_0000 : JA Try.prog ops1 4 #[false, false, false, false] Γ ([] ++ F0) [(oqf 0 a), (oqf 0 b), (oqm 0), (oqm 0), ⟨27, 2, 1, true, [.b (decide (g < 0)), .n f .u64 (lm g)]⟩, ⟨27, 2, 1, true, [.b (decide (0 < 0)), .n f2 .u64 (lm 0)]⟩, (oqt 0 z), (oqt 0 y)] Q1 := by
            subst ho; subst hF; refine Bz 0 [2, 3] (Ao (Ah Aq rfl rfl rfl rfl) (hd 52 rfl)) rfl (by kernel_rfl) (by kernel_rfl) (by kernel_rfl) (by kernel_rfl) hpan ?_
            refine Ai S11_1000 1 (.cons rfl .nil)
          subst ho; subst hF
          exact D2 (m := []) (by decide) rfl (Ba 0 rfl rfl .nil) S11_0000
  have S1_111110 : JA Try.prog ops1 1 #[true, true, true, true, true, false] Γ ([(6, .p 4 1 0), (7, .p 5 1 0), (15, (qf a)), (16, (qf b))] ++ F0) [(oqf 0 a), (oqf 0 b), (oqm 0), (oqm 0), (oqf 1 a), (oqm 1)] Q1 := by
    subst ho; subst hF
    refine Bb 5 ?_ rfl (by kernel_rfl)
    refine A7 (Ae rfl rfl rfl Au rfl rfl (zlb rfl)) rfl ?_
    refine Ai S1_111111 4 (.cons rfl (.cons rfl (.cons rfl (.cons rfl .nil))))
  have S1_111100 : JA Try.prog ops1 2 #[true, true, true, true, false, false] Γ ([(6, .p 4 1 0), (7, .p 5 1 0), (15, (qf a)), (16, (qf b))] ++ F0) [(oqf 0 a), (oqf 0 b), (oqm 0), (oqm 0), (oqm 1), (oqm 1)] Q1 := by
    subst ho; subst hF
    refine Bb 4 ?_ rfl (by kernel_rfl)
    refine A7 (Ae rfl rfl rfl Au rfl rfl (zlb rfl)) rfl ?_
    refine Ai S1_111110 4 (.cons rfl (.cons rfl (.cons rfl (.cons rfl .nil))))
  have S1_111000 : JA Try.prog ops1 3 #[true, true, true, false, false, false] Γ ([(6, .p 4 1 0), (15, (qf a)), (16, (qf b))] ++ F0) [(oqf 0 a), (oqf 0 b), (oqm 0), (oqm 0), (oqm 1), oqh] Q1 := by
    subst ho; subst hF
    refine Bb 3 ?_ rfl (by kernel_rfl)
    refine Cw (A6 (id := 5) At (by decide) rfl (by decide) rfl) (hd 7 rfl) ?_
    refine Ai S1_111100 4 (.cons rfl (.cons rfl (.cons rfl (.cons rfl .nil))))
  have S1_110100 : JA Try.prog ops1 3 #[true, true, false, true, false, false] Γ ([(7, .p 5 1 0), (15, (qf a)), (16, (qf b))] ++ F0) [(oqf 0 a), (oqf 0 b), (oqm 0), (oqm 0), oqh, (oqm 1)] Q1 := by
    subst ho; subst hF
    refine Bb 2 ?_ rfl (by kernel_rfl)
    refine Cw (A6 (id := 4) At (by decide) rfl (by decide) rfl) (hd 6 rfl) ?_
    refine Ai S1_111100 4 (.cons rfl (.cons rfl (.cons rfl (.cons rfl .nil))))
  have S1_110000 : JA Try.prog ops1 4 #[true, true, false, false, false, false] Γ ([(15, (qf a)), (16, (qf b))] ++ F0) [(oqf 0 a), (oqf 0 b), (oqm 0), (oqm 0), oqh, oqh] Q1 := by
    subst ho; subst hF
    refine Ct 2 3 ?_ ?_ rfl rfl (by kernel_rfl)
    · refine Cw (A6 (id := 4) At (by decide) rfl (by decide) rfl) (hd 6 rfl) ?_
      refine Ai S1_111000 3 (.cons rfl (.cons rfl (.cons rfl .nil)))
    · refine Cw (A6 (id := 5) At (by decide) rfl (by decide) rfl) (hd 7 rfl) ?_
      refine Ai S1_110100 3 (.cons rfl (.cons rfl (.cons rfl .nil)))
  have S1_101110 : JA Try.prog ops1 2 #[true, false, true, true, true, false] Γ ([(6, .p 4 1 0), (7, .p 5 1 0), (15, (qf a))] ++ F0) [(oqf 0 a), (oqf 0 b), (oqm 0), (oqm 0), (oqf 1 a), (oqm 1)] Q1 := by
    subst ho; subst hF; refine Bz 1 [5] (Ao (Ah Aq rfl rfl rfl rfl) (hd 16 rfl)) rfl (by kernel_rfl) (by kernel_rfl) (by kernel_rfl) (by kernel_rfl) hpan ?_
    refine Ai S1_111110 4 (.cons rfl (.cons rfl (.cons rfl (.cons rfl .nil))))
  have S1_101100 : JA Try.prog ops1 3 #[true, false, true, true, false, false] Γ ([(6, .p 4 1 0), (7, .p 5 1 0), (15, (qf a))] ++ F0) [(oqf 0 a), (oqf 0 b), (oqm 0), (oqm 0), (oqm 1), (oqm 1)] Q1 := by
    subst ho; subst hF
    refine Ct 1 4 ?_ ?_ rfl rfl (by kernel_rfl)
    · refine C4 (Ah Aq rfl rfl rfl rfl) (hd 16 rfl) ?_
      refine Ai S1_111100 4 (.cons rfl (.cons rfl (.cons rfl (.cons rfl .nil))))
    · refine A7 (Ae rfl rfl rfl Au rfl rfl (zlb rfl)) rfl ?_
      refine Ai S1_101110 3 (.cons rfl (.cons rfl (.cons rfl .nil)))
  have S1_101000 : JA Try.prog ops1 4 #[true, false, true, false, false, false] Γ ([(6, .p 4 1 0), (15, (qf a))] ++ F0) [(oqf 0 a), (oqf 0 b), (oqm 0), (oqm 0), (oqm 1), oqh] Q1 := by
    subst ho; subst hF
    refine Ct 1 3 ?_ ?_ rfl rfl (by kernel_rfl)
    · refine C4 (Ah Aq rfl rfl rfl rfl) (hd 16 rfl) ?_
      refine Ai S1_111000 3 (.cons rfl (.cons rfl (.cons rfl .nil)))
    · refine Cw (A6 (id := 5) At (by decide) rfl (by decide) rfl) (hd 7 rfl) ?_
      refine Ai S1_101100 3 (.cons rfl (.cons rfl (.cons rfl .nil)))
  have S1_100100 : JA Try.prog ops1 4 #[true, false, false, true, false, false] Γ ([(7, .p 5 1 0), (15, (qf a))] ++ F0) [(oqf 0 a), (oqf 0 b), (oqm 0), (oqm 0), oqh, (oqm 1)] Q1 := by
    subst ho; subst hF
    refine Ct 1 2 ?_ ?_ rfl rfl (by kernel_rfl)
    · refine C4 (Ah Aq rfl rfl rfl rfl) (hd 16 rfl) ?_
      refine Ai S1_110100 3 (.cons rfl (.cons rfl (.cons rfl .nil)))
    · refine Cw (A6 (id := 4) At (by decide) rfl (by decide) rfl) (hd 6 rfl) ?_
      refine Ai S1_101100 3 (.cons rfl (.cons rfl (.cons rfl .nil)))
  have S1_100000 : JA Try.prog ops1 5 #[true, false, false, false, false, false] Γ ([(15, (qf a))] ++ F0) [(oqf 0 a), (oqf 0 b), (oqm 0), (oqm 0), oqh, oqh] Q1 := by
    subst ho; subst hF
    refine Rc 1 2 3 ?_ ?_ ?_ rfl rfl rfl (by kernel_rfl)
    · refine C4 (Ah Aq rfl rfl rfl rfl) (hd 16 rfl) ?_
      refine Ai S1_110000 2 (.cons rfl (.cons rfl .nil))
    · refine Cw (A6 (id := 4) At (by decide) rfl (by decide) rfl) (hd 6 rfl) ?_
      refine Ai S1_101000 2 (.cons rfl (.cons rfl .nil))
    · refine Cw (A6 (id := 5) At (by decide) rfl (by decide) rfl) (hd 7 rfl) ?_
      refine Ai S1_100100 2 (.cons rfl (.cons rfl .nil))
  have S1_000000 : JA Try.prog ops1 6 #[false, false, false, false, false, false] Γ ([] ++ F0) [(oqf 0 a), (oqf 0 b), (oqm 0), (oqm 0), oqh, oqh] Q1 := by
    subst ho; subst hF; refine Bz 0 [4, 5] (Ao (Ah Aq rfl rfl rfl rfl) (hd 15 rfl)) rfl (by kernel_rfl) (by kernel_rfl) (by kernel_rfl) (by kernel_rfl) hpan ?_
    refine Ai S1_100000 1 (.cons rfl .nil)
  subst ho; subst hF
  exact D2 (m := []) (by decide) rfl (Ba 0 rfl rfl .nil) S1_000000


theorem Vy {w : World} {M : Nat → Prop} {B : Nat} {ρ : List Re} {fr : Bool} {k : IntKind} {l : List Int} {v : Value} (h : Rel w M B ρ (.n fr k l) v) : Rel w M B ρ (.n false k l) v := by
  obtain ⟨A, c, e, h1, h2, h3⟩ := h
  exact ⟨A, c, e, h1, h2, fun hl => by obtain ⟨ad, e1, hb, hc⟩ := h3 hl; exact ⟨ad, e1, ⟨hb.1, hb.2.1, by simp⟩, hc⟩⟩
theorem Pm {w : World} {M : Nat → Prop} {B : Nat} {ρ : List Re} {f : V → V} (hf : ∀ y v, Rel w M B ρ y v → Rel w M B ρ (f y) v) : ∀ (ys : List V) (us : List Value), RelL w M B ρ ys us → RelL w M B ρ (ys.map f) us
  | [], us, h => h
  | y :: ys, us, ⟨u, us', e, h1, h2⟩ => ⟨u, us', e, hf y u h1, Pm hf ys us' h2⟩
def olds : V → V
  | .a [.b s, .n _ k l] => .a [.b s, .n false k l]
  | v => v
theorem Pj {w : World} {M : Nat → Prop} {B : Nat} {ρ : List Re} (y : V) (v : Value) (h : Rel w M B ρ y v) : Rel w M B ρ (olds y) v := by
  unfold olds
  split
  · obtain ⟨us, e, u, us', e1, h1, u2, us2, e2, h2, h3⟩ := h
    exact ⟨us, e, u, us', e1, h1, u2, us2, e2, Vy h2, h3⟩
  · exact h
theorem Spec.olds {P : Program} {f : FuncId} {args : List V} {ys : List V} (h : Spec P f args (fun o => o = .ret (.t ys))) : Spec P f args (fun o => o = .ret (.t (ys.map Vc.olds))) :=
  h.weak fun o ho => by
    subst ho
    refine ⟨_, rfl, fun w M B e h => ?_⟩
    obtain ⟨v, h1, us, h2, h3⟩ := h
    exact ⟨v, h1, us, h2, Pm Pj _ _ h3⟩
theorem Spec.old1 {P : Program} {f : FuncId} {args : List V} {y : V} (h : Spec P f args (fun o => o = .ret y)) : Spec P f args (fun o => o = .ret (Vc.olds y)) :=
  h.weak fun o ho => by
    subst ho
    refine ⟨_, rfl, fun w M B e h => ?_⟩
    obtain ⟨v, h1, h2⟩ := h
    exact ⟨v, h1, Pj _ _ h2⟩
theorem Ac0 (v : Int) (hl : (lm v).length < 4294967296) : SpecM Try.prog 64 [.a [.b (decide (v < 0)), .n false .u64 (lm v)]] [] (fun o G => o = .ret (.a [.b (decide ((-v) < 0)), .o 0 0 0 (lm (-v)).length]) ∧ G = [⟨79, 1, 0, true, A2 .u64 (lm (-v))⟩]) := by
  refine Cy [(0, .a [.b (decide (v < 0)), .n false .u64 (lm v)])] rfl Try.func64 rfl (zlb rfl) fun Γ hN hds hL hR => ?_
  have hd := B5 10 hN
  have hNo : SpecM Try.prog 32 [.a [.b (!decide (v < 0)), .n false .u64 (lm v)]] [] (fun o G => o = .ret (.a [.b (decide ((-v) < 0)), .o 0 0 0 (lm (-v)).length]) ∧ G = [⟨79, 1, 0, true, A2 .u64 (lm (-v))⟩]) := by
    have h := Pr (!decide (v < 0)) (lm v) (by omega)
    have e := E1 (s := !decide (v < 0)) (l := lm v) (v := -v) (Cq v) (by rw [Pa, Cn])
    rw [e.1, e.2.1] at h
    exact h
  refine zsr <| Ay (Br (id := 0) (n := 2) rfl rfl rfl (by decide) rfl) (hd 1 rfl) <| Ay (An (id := 1) At (by decide) rfl (by decide) rfl) (hd 2 rfl) <| Ab <| zsr <| Ac (Bd Cf rfl rfl rfl) (hd 3 rfl) <| Ac (A8 C5 rfl rfl rfl) (hd 4 rfl) <| Ac (Fn rfl) (hd 5 rfl) <| Ac (Bd Bp rfl rfl rfl) (hd 6 rfl) <| Ac (A8 Ce rfl rfl rfl) (hd 7 rfl) <| Ac (B3 (is := [0, 1]) (xs := [.tmp 5, .tmp 7]) At Dx rfl (Aa rfl (Aa rfl Ad)) rfl (by first | (simp [Ck, cellsV]; done) | (simp [Ck, cellsV, old]; done)) (Cj rfl) rfl) (hd 8 rfl) ?_
  refine C9 Try.f32 (hNo) (fun o G ⟨_, h⟩ => h ▸ Al Bc Ar) rfl Try.func32 rfl rfl (Aa rfl Ad) (.cons (.a1 .b (.a1 .n .a0)) .nil) (hd 9 rfl) ?_ (fun ch G hp => by simp at hp)
  rintro y G ⟨hy, rfl⟩; injection hy with hy; subst hy
  show JO _ _ _ _ ((9, .a [.b (decide ((-v) < 0)), .o 2 0 0 (lm (-v)).length]) :: _) _ _
  refine A1 (Ae rfl rfl rfl Au rfl rfl (zlb rfl)) <| Ab <| As ?_
  refine ⟨[2], _, (.a [.b (decide ((-v) < 0)), .o 0 0 0 (lm (-v)).length]), (.cons (ResV.cell Aq rfl rfl rfl rfl) .nil), rfl, rfl, (by decide), (by first | exact Al Bc Ar | exact Al rfl Ar), ?_⟩
  exact ⟨rfl, rfl⟩

theorem Ye (v w : Int) (hv : (lm v).length < 4294967296) (hw : (lm w).length < 4294967296) : Spec Try.prog 49 [.a [.b (decide (v < 0)), .n false .u64 (lm v)], .a [.b (decide (w < 0)), .n false .u64 (lm w)]] (fun o => o = .ret (.i .i64 (Du v w))) := by
  have h := Adt (decide (v < 0)) (decide (w < 0)) (lm v) (lm w) hv hw (Cq v) (Cq w)
  rwa [Cn, Cn] at h


theorem Ov (s t : Bool) (a b : List Int) (hla : a.length < 4294967296) (hlb : b.length < 4294967296) (ua : A3 a) (ub : A3 b) (hf : Bm (sv s a * sv t b) ≤ 67108864) : SpecM Try.prog 40 [.a [.b s, .n false .u64 a], .a [.b t, .n false .u64 b]] [] (fun o G => o = .ret (.t [.a [.b (decide ((sv s a * sv t b) < 0)), .o 0 0 0 (lm (sv s a * sv t b)).length], .i .i64 0]) ∧ G = [⟨79, 1, 0, true, A2 .u64 (lm (sv s a * sv t b))⟩]) :=
  (Adr s t a b hla hlb ua ub).mono fun o G ⟨s2, r, e, ho, hG, hR⟩ => by
    rcases hR with ⟨_, h1, h2, h3⟩ | ⟨h, _⟩
    · subst h1; subst h2; subst h3; exact ⟨ho, hG⟩
    · omega


theorem dl0 {x : Nat} : (Bj B32 x).length = 0 ↔ x = 0 := by
  rw [List.length_eq_zero_iff]
  constructor
  · intro h
    refine Decidable.byContradiction fun hx => ?_
    have := I2 (b := B32) (by decide) x
    rw [h] at this
    simp [vb] at this
    omega
  · rintro rfl; exact Dg
theorem Aaj {x y : Nat} (h : x ≤ y) : (Bj B32 x).length ≤ (Bj B32 y).length := Ix (b := B32) (by decide) x y h

def eu (v : Int) (w : Nat) : Nat → Int × Nat
  | 0 => (v, w)
  | k + 1 => (((eu v w k).2 : Int), ((eu v w k).1 % ((eu v w k).2 : Int)).toNat)
def eqt (v : Int) (w k : Nat) : Int := (eu v w k).1 / ((eu v w k).2 : Int)
def Afz (q : Int) : List V := [.b (decide (q < 0)), .n false .u64 (lm q)]
def cfR (v : Int) (w k : Nat) : List (List V) := (List.range k).map fun i => Afz (eqt v w i)
structure Chn (v : Int) (w n : Nat) : Prop where
  n0 : n ≠ 0
  z : (eu v w n).2 = 0
  lt : ∀ k, k < n → (eu v w k).2 ≠ 0
  g : Int.gcd v (w : Int) = 1
variable {v : Int} {w n k : Nat}
theorem Wk : (eu v w (k + 1)).1 = ((eu v w k).2 : Int) := rfl
theorem Aad (h : (eu v w k).2 ≠ 0) : ((eu v w (k + 1)).2 : Int) = (eu v w k).1 % ((eu v w k).2 : Int) := Int.toNat_of_nonneg (Int.emod_nonneg _ (by omega))
theorem T9 (h : (eu v w k).2 ≠ 0) : (eu v w (k + 1)).2 < (eu v w k).2 := by
  have h1 := Aad h
  have h2 := Int.emod_lt_of_pos (eu v w k).1 (b := ((eu v w k).2 : Int)) (by omega)
  omega
theorem Chn.gcd (h : Chn v w n) : ∀ k, k ≤ n → Int.gcd (eu v w k).1 ((eu v w k).2 : Int) = 1 := by
  intro k
  induction k with
  | zero => intro _; exact h.g
  | succ k ih =>
    intro hk
    have h1 := ih (by omega)
    rw [Wk, Aad (h.lt k (by omega)), Int.gcd_comm, ← h1]
    have e := Int.mul_ediv_add_emod (eu v w k).1 ((eu v w k).2 : Int)
    generalize (eu v w k).1 / ((eu v w k).2 : Int) = q at e
    rw [← e, Int.add_comm, Int.gcd_add_mul_left_left, Int.add_comm, e]
theorem Chn.fall (h : Chn v w n) (hk : k + 1 < n) : ((eu v w (k + 1)).2 : Int) < (eu v w (k + 1)).1 := by
  have := T9 (h.lt k (by omega))
  rw [Wk]
  omega
theorem Chn.pos (h : Chn v w n) (hk : k + 1 < n) : 0 < eqt v w (k + 1) := by
  have h1 := h.fall hk
  have h2 := h.lt (k + 1) hk
  unfold eqt
  exact Int.le_ediv_of_mul_le (by omega) (by omega)
theorem Chn.one (h : Chn v w n) (hk : k + 1 = n) : (eu v w k).2 = 1 := by
  have h1 := h.gcd n (Nat.le_refl _)
  subst hk
  rw [h.z] at h1
  have h2 : Int.gcd ((eu v w k).2 : Int) ((0 : Nat) : Int) = 1 := h1
  rwa [show ((0 : Nat) : Int) = 0 from rfl, Int.gcd_zero_right, Int.natAbs_natCast] at h2
theorem Chn.half (h : Chn v w n) : ∀ k, k + 1 < n → 2 ^ k * ((eu v w (k + 1)).1.toNat * (eu v w (k + 1)).2) ≤ w * w := by
  intro k
  induction k with
  | zero =>
    intro hk
    have := T9 (h.lt 0 (by omega))
    rw [Nat.pow_zero, Nat.one_mul, Wk, Int.toNat_natCast]
    exact Nat.mul_le_mul (Nat.le_refl _) (Nat.le_of_lt this)
  | succ k ih =>
    intro hk
    refine Nat.le_trans ?_ (ih (by omega))
    have hf := h.fall (k := k) (by omega)
    have hb := h.lt (k + 1) (by omega)
    have hs := Aad hb
    rw [Wk (k := k + 1), Int.toNat_natCast]
    generalize (eu v w (k + 1 + 1)).2 = r at *
    generalize (eu v w (k + 1)).1 = a at *
    generalize (eu v w (k + 1)).2 = b at *
    have hq : 1 ≤ a / (b : Int) := Int.le_ediv_of_mul_le (by omega) (by omega)
    have hd := Int.mul_ediv_add_emod a (b : Int)
    have hm : (b : Int) * 1 ≤ (b : Int) * (a / (b : Int)) := Int.mul_le_mul_of_nonneg_left hq (by omega)
    have hr := Int.emod_lt_of_pos a (b := (b : Int)) (by omega)
    have h2 : 2 * r ≤ a.toNat := by omega
    rw [Nat.pow_succ, Nat.mul_assoc]
    refine Nat.mul_le_mul_left _ ?_
    calc 2 * (b * r) = 2 * r * b := by rw [Nat.mul_comm b r, Nat.mul_assoc]
      _ ≤ a.toNat * b := Nat.mul_le_mul_right _ h2
theorem Chn.len (h : Chn v w n) (hw : Bm (w : Int) ≤ 1048600) : n ≤ 2097300 := by
  rcases Nat.lt_or_ge n 3 with h3 | h3
  · omega
  · obtain ⟨m, rfl⟩ : ∃ m, n = m + 2 := ⟨n - 2, by omega⟩
    have h1 := h.half m (by omega)
    have hb := h.lt (m + 1) (by omega)
    have hf := h.fall (k := m) (by omega)
    have hp : 1 ≤ (eu v w (m + 1)).1.toNat * (eu v w (m + 1)).2 := Nat.mul_pos (by omega) (by omega)
    have h2 : 2 ^ m ≤ w * w := Nat.le_trans (by rw [Nat.mul_one]; exact Nat.le_refl _) (Nat.le_trans (Nat.mul_le_mul_left (2 ^ m) hp) h1)
    obtain ⟨K, hK⟩ : ∃ K, K = 1048600 := ⟨_, rfl⟩
    rw [← hK] at hw
    have h4 : w < 2 ^ K := by have := C2.1 hw; rwa [Int.natAbs_natCast] at this
    have h5 : w * w < 2 ^ (K + K) := by
      rw [Nat.pow_add]
      exact Nat.mul_lt_mul'' h4 h4
    have h6 : m < K + K := (Nat.pow_lt_pow_iff_right (by decide : 1 < 2)).1 (Nat.lt_of_le_of_lt h2 h5)
    omega
theorem Ys {a : Int} {b : Nat} (hb : b ≠ 0) : wq 1 a (b : Int) = a / (b : Int) ∧ a - wq 1 a (b : Int) * (b : Int) = a % (b : Int) := by
  have h1 := (Jz (v := a) (w := (b : Int)) (by omega))
  have h2 : 0 ≤ frs a (b : Int) ∧ frs a (b : Int) < (b : Int) := by
    obtain ⟨hx, h0, h1, h2⟩ := Er (v := a) (w := (b : Int)) (by omega)
    rw [Int.natAbs_natCast] at h1
    unfold frs sgd
    rw [decide_eq_false (by omega)]
    simp only [Bool.false_eq_true, if_false, Int.natAbs_natCast]
    split <;> omega
  have h3 : wq 1 a (b : Int) = flo a (b : Int) := rfl
  have h5 : a / (b : Int) = flo a (b : Int) := by
    have hp : (0 : Int) < (b : Int) := by omega
    refine Int.le_antisymm ?_ ?_
    · refine Int.lt_add_one_iff.1 (Int.ediv_lt_of_lt_mul hp ?_)
      rw [Int.add_mul, Int.one_mul]; omega
    · exact Int.le_ediv_of_mul_le hp (by omega)
  refine ⟨by rw [h3, h5], ?_⟩
  have := Int.mul_ediv_add_emod a (b : Int)
  rw [h3, ← h5]
  rw [Int.mul_comm] at this
  omega
end Go.Proofs.Ythbbbopbglbagaa.Vc

namespace Go.Proofs.Ythbbbopbglbagaa.Vc
open Go Go.RowKit
theorem Ko {W x s : Int} (h : W ∣ x - s) : x % W = s % W := (Int.emod_eq_emod_iff_emod_sub_eq_zero).2 (Int.emod_eq_zero_of_dvd h)
theorem Ul {v w g x s : Int} (h1 : w ∣ v * x - g) (h2 : w ∣ v * s - g) : w ∣ g * (x - s) := by
  obtain ⟨c, hc⟩ := h1
  obtain ⟨d, hd⟩ := h2
  refine ⟨c * x - d * x - c * (x - s), ?_⟩
  have e1 : v * x = g + w * c := by omega
  have e2 : v * s = g + w * d := by omega
  have e3 : v * (x - s) = w * (c - d) := by rw [Int.mul_sub, e1, e2, Int.mul_sub]; omega
  have e4 : x * (v * (x - s)) = (v * x) * (x - s) := by rw [← Int.mul_assoc, Int.mul_comm x v]
  rw [e3, e1, Int.add_mul] at e4
  have e5 : x * (w * (c - d)) = w * (c * x - d * x) := by rw [Int.mul_left_comm, Int.mul_sub, Int.mul_comm x c, Int.mul_comm x d]
  rw [e5, Int.mul_assoc w c] at e4
  rw [Int.mul_sub w (c * x - d * x)]
  omega
theorem P2 {v w g x s : Int} (hw : w ≠ 0) (h : CoE v w g x) (hs : (w.natAbs : Int) ∣ v * s - g) : x % qn w g = s % qn w g := by
  have hg := h.ne hw
  obtain ⟨h1, h2, h3⟩ := Fc h hw
  refine Ko ?_
  have hd : (w.natAbs : Int) ∣ g * (x - s) := Ul (Int.natAbs_dvd.2 h.dx) hs
  rw [h2] at hd
  obtain ⟨k, hk⟩ := hd
  exact ⟨k, Int.eq_of_mul_eq_mul_left hg (by rw [hk, Int.mul_assoc])⟩
theorem Wf {v w X s : Int} (hX0 : 0 ≤ X) (hX1 : X < w.natAbs) (h1 : w ∣ v * X - 1) (hs : (w.natAbs : Int) ∣ v * s - 1) : s % (w.natAbs : Int) = X := by
  have hd : (w.natAbs : Int) ∣ 1 * (X - s) := Ul (Int.natAbs_dvd.2 h1) hs
  rw [Int.one_mul] at hd
  rw [← Ko hd]
  exact Int.emod_eq_of_lt hX0 hX1
theorem Afq {v m : Int} (hm : m ≠ 0) : Co v m m (v % m) 0 1 := by
  have h := (Aaz (a := v) (b := m) hm).next hm hm (q := v / m) (by have := Int.mul_ediv_add_emod v m; rw [Int.mul_comm] at this; omega)
  rwa [show (1 : Int) - v / m * 0 = 1 by rw [Int.mul_zero]; rfl] at h
theorem CoE.same {v w g x g2 s : Int} (h : CoE v w g x) (h2 : CoE v (w.natAbs : Int) g2 s) : g2 = g := by
  rw [h.gcd, h2.gcd, Int.natAbs_natCast]
theorem O4 {d w y : Int} (hw : w ≠ 0) (k : Nat) (e : d = y * w) : wq k d w = y :=
  Int.eq_of_mul_eq_mul_right hw (by rw [M3 k hw ⟨y, by rw [Int.mul_comm]; exact e⟩, e])
theorem Aer {v w g x : Int} (h : CoE v w g x) (hw : w ≠ 0) : flo (w.natAbs : Int) g = qn w g := O4 (k := 1) (h.ne hw) (by rw [Int.mul_comm]; exact (Fc h hw).2.1)
theorem Aeq {v w g x : Int} (h : CoE v w g x) (hw : w ≠ 0) : flo (g - v * (x % qn w g)) w = wq 0 (g - v * (x % qn w g)) w := O4 (k := 1) hw (M3 0 hw (Aao h hw)).symm
theorem Adh {v w : Int} (hw : 0 < w) (hd : w ∣ v) : CoE v w w 0 := by
  have h := Afq (v := v) (m := w) (by omega)
  rw [Int.emod_eq_zero_of_dvd hd] at h
  exact h.pos (by omega)
theorem Aaa {a b : Int} (hb : 0 < b) : a - flo a b * b = a % b := by
  obtain ⟨n, rfl⟩ := Int.eq_ofNat_of_zero_le (Int.le_of_lt hb)
  exact (Ys (by omega)).2
theorem Adc {v m r : Int} {L : Nat} (h : r.natAbs ≤ max v.natAbs m.natAbs) (hv : (dg v).length ≤ L) (hm : (dg m).length ≤ L) : (dg r).length ≤ L := by
  rcases Nat.le_total m.natAbs v.natAbs with h1 | h1
  · exact Nat.le_trans (E8 (w := v) (by omega)) hv
  · exact Nat.le_trans (E8 (w := m) (by omega)) hm
theorem Af5 {w : Int} : qn w 1 = (w.natAbs : Int) := by unfold qn; rw [show (1 : Int).natAbs = 1 from rfl]; exact Int.ediv_one _
theorem Aam {a b : Int} (hb : b ≠ 0) : ∀ (k : Nat) (r s x y : Int), s.natAbs ≤ k → Co a b r s x y → ∃ g z, CoE a b g z
  | 0, r, s, x, y, hk, h => by
    have hs : s = 0 := by omega
    subst hs
    rcases Int.lt_or_le r 0 with h1 | h1
    · exact ⟨_, _, h.neg h1⟩
    · exact ⟨_, _, h.pos h1⟩
  | k + 1, r, s, x, y, hk, h => by
    by_cases hs : s = 0
    · exact Aam hb 0 r s x y (by omega) h
    · have h1 := Int.emod_lt r hs
      have h2 := Int.emod_nonneg r hs
      exact Aam hb k s (r % s) y (x - r / s * y) (by omega) (h.next hb hs (by have := Int.mul_ediv_add_emod r s; rw [Int.mul_comm] at this; omega))
theorem Adg {a b : Int} (hb : b ≠ 0) : ∃ g z, CoE a b g z := Aam hb b.natAbs a b 1 0 (Nat.le_refl _) (Aaz hb)
theorem CoE.eq {v w g x g2 s : Int} (h : CoE v w g x) (h2 : CoE v w g2 s) : g2 = g := by rw [h.gcd, h2.gcd]
theorem CoE.mod {v w g x s : Int} (hw : w ≠ 0) (h : CoE v w g x) (h2 : CoE v w g s) : s % qn w g = x % qn w g := P2 hw h2 (Int.natAbs_dvd.2 h.dx)

theorem Q4 (v w : Int) (ha : Bm v ≤ 67108800) (hb : Bm w ≤ 67108800) (h0 : w ≠ 0) (hnd : ¬ w ∣ v) : SpecM Try.prog 37 [.a [.b (decide (v < 0)), .n false .u64 (lm v)], .a [.b (decide (w < 0)), .n false .u64 (lm w)]] [] (fun o G => ∃ g x : Int, (o = .ret (.t [.a [.b (decide (g < 0)), .o 0 0 0 (lm g).length], .a [.b (decide (x < 0)), .n true .u64 (lm x)]]) ∧ G = [⟨79, 1, 0, true, A2 .u64 (lm g)⟩]) ∧ CoE v w g x) := by
  refine Cy [(0, .a [.b (decide (v < 0)), .n false .u64 (lm v)]), (1, .a [.b (decide (w < 0)), .n false .u64 (lm w)])] rfl Try.func37 rfl (zlb rfl) fun Γ hN hds hL hR => ?_
  have hd := B5 54 hN
  have hC1 := Aaz (a := v) (b := w) h0
  obtain ⟨s1, es1⟩ : ∃ s1 : Int, s1 = v % w := ⟨_, rfl⟩
  obtain ⟨y1, ey1⟩ : ∃ y1 : Int, y1 = 1 - wq 4 v w * 0 := ⟨_, rfl⟩
  have hlr1 : Bm v ≤ 67108800 := Ha hC1.br (by omega) (by omega)
  have hls1 : Bm w ≤ 67108800 := Nat.le_trans (A5 hC1.bs) (by omega)
  have hly1 := A5 hC1.by_
  have hlx1 := A5 hC1.bx
  have hmr1 := Bf (v := v) (by omega)
  have hms1 := Bf (v := w) (by omega)
  have hmy1 := Bf (v := 0) (by omega)
  have hmx1 := Bf (v := 1) (by omega)
  have hq1 := euc (v := v) h0
  have hN1 := hC1.next h0 h0 hq1
  rw [← es1, ← ey1] at hN1
  have hlyn1 := A5 hN1.by_
  have hqy1 : Bm ((wq 4 v w) * 0) ≤ Bm w + 1 := G8 (by have h1 := hN1.by_; have h2 := hC1.bx; rw [ey1] at h1; omega)
  have hwl1 := Hi (k := 4) (v := v) h0
  have hlq1 := Bf (v := (wq 4 v w)) (by omega)
  have hlqy1 := Bf (v := ((wq 4 v w) * 0)) (by omega)
  have hlR1 := A5 hN1.bs
  have hEu1 : SpecM Try.prog 39 [.a [.b (decide (v < 0)), .n false .u64 (lm v)], .a [.b (decide (w < 0)), .n false .u64 (lm w)]] [] (fun o G => o = .ret (.t [.a [.b (decide ((wq 4 v w) < 0)), .o 0 0 0 (lm (wq 4 v w)).length], .a [.b (decide (s1 < 0)), .o 1 0 0 (lm s1).length], .i .i64 0]) ∧ G = [⟨79, 1, 0, true, A2 .u64 (lm (wq 4 v w))⟩, ⟨79, 1, 0, true, A2 .u64 (lm s1)⟩]) := by
    have h := Gj (decide (v < 0)) (decide (w < 0)) (lm v) (lm w) v w (by omega) (by omega) (Cq _) (Cq _) (Cn _) (Cn _) (by omega) (by omega) h0
    rwa [hq1, ← es1] at h
  have hMu1 : Spec Try.prog 40 [.a [.b (decide ((wq 4 v w) < 0)), .n false .u64 (lm (wq 4 v w))], .a [.b (decide (0 < 0)), .n false .u64 (lm 0)]] (fun o => o = .ret (.t [.a [.b (decide (((wq 4 v w) * 0) < 0)), .n true .u64 (lm ((wq 4 v w) * 0))], .i .i64 0])) := Ns (wq 4 v w) 0 (by omega) (by omega) (by omega)
  have hSu1 : Spec Try.prog 42 [.a [.b (decide (1 < 0)), .n false .u64 (lm 1)], .a [.b (decide (((wq 4 v w) * 0) < 0)), .n false .u64 (lm ((wq 4 v w) * 0))]] (fun o => o = .ret (.t [.a [.b (decide (y1 < 0)), .n true .u64 (lm y1)], .i .i64 0])) := by
    have h := Nr 1 ((wq 4 v w) * 0) (by omega) (by omega) (by rw [← ey1]; omega)
    rwa [← ey1] at h
  have hSg1 : Spec Try.prog 36 [.a [.b (decide (w < 0)), .n false .u64 (lm w)]] (fun o => o = .ret (.i .i64 (Cb w))) := Ec w (by omega)
  have hs1 : s1 ≠ 0 := fun e => hnd (Int.dvd_of_emod_eq_zero (by rw [← es1]; exact e))
  have hsp : 0 ≤ s1 := by rw [es1]; exact Int.emod_nonneg _ h0
  obtain ⟨s2, es2⟩ : ∃ s2 : Int, s2 = w % s1 := ⟨_, rfl⟩
  obtain ⟨y2, ey2⟩ : ∃ y2 : Int, y2 = 0 - wq 4 w s1 * y1 := ⟨_, rfl⟩
  have hlr2 : Bm w ≤ 67108800 := Ha hN1.br (by omega) (by omega)
  have hls2 : Bm s1 ≤ 67108800 := Nat.le_trans (A5 hN1.bs) (by omega)
  have hly2 := A5 hN1.by_
  have hlx2 := A5 hN1.bx
  have hmr2 := Bf (v := w) (by omega)
  have hms2 := Bf (v := s1) (by omega)
  have hmy2 := Bf (v := y1) (by omega)
  have hmx2 := Bf (v := 0) (by omega)
  have hq2 := euc (v := w) hs1
  have hN2 := hN1.next h0 hs1 hq2
  rw [← es2, ← ey2] at hN2
  have hlyn2 := A5 hN2.by_
  have hqy2 : Bm ((wq 4 w s1) * y1) ≤ Bm w + 1 := G8 (by have h1 := hN2.by_; have h2 := hN1.bx; rw [ey2] at h1; omega)
  have hwl2 := Hi (k := 4) (v := w) hs1
  have hlq2 := Bf (v := (wq 4 w s1)) (by omega)
  have hlqy2 := Bf (v := ((wq 4 w s1) * y1)) (by omega)
  have hlR2 := A5 hN2.bs
  have hEu2 : SpecM Try.prog 39 [.a [.b (decide (w < 0)), .n false .u64 (lm w)], .a [.b (decide (s1 < 0)), .n false .u64 (lm s1)]] [] (fun o G => o = .ret (.t [.a [.b (decide ((wq 4 w s1) < 0)), .o 0 0 0 (lm (wq 4 w s1)).length], .a [.b (decide (s2 < 0)), .o 1 0 0 (lm s2).length], .i .i64 0]) ∧ G = [⟨79, 1, 0, true, A2 .u64 (lm (wq 4 w s1))⟩, ⟨79, 1, 0, true, A2 .u64 (lm s2)⟩]) := by
    have h := Gj (decide (w < 0)) (decide (s1 < 0)) (lm w) (lm s1) w s1 (by omega) (by omega) (Cq _) (Cq _) (Cn _) (Cn _) (by omega) (by omega) hs1
    rwa [hq2, ← es2] at h
  have hMu2 : Spec Try.prog 40 [.a [.b (decide ((wq 4 w s1) < 0)), .n false .u64 (lm (wq 4 w s1))], .a [.b (decide (y1 < 0)), .n false .u64 (lm y1)]] (fun o => o = .ret (.t [.a [.b (decide (((wq 4 w s1) * y1) < 0)), .n true .u64 (lm ((wq 4 w s1) * y1))], .i .i64 0])) := Ns (wq 4 w s1) y1 (by omega) (by omega) (by omega)
  have hSu2 : Spec Try.prog 42 [.a [.b (decide (0 < 0)), .n false .u64 (lm 0)], .a [.b (decide (((wq 4 w s1) * y1) < 0)), .n false .u64 (lm ((wq 4 w s1) * y1))]] (fun o => o = .ret (.t [.a [.b (decide (y2 < 0)), .n true .u64 (lm y2)], .i .i64 0])) := by
    have h := Nr 0 ((wq 4 w s1) * y1) (by omega) (by omega) (by rw [← ey2]; omega)
    rwa [← ey2] at h
  have hSg2 : Spec Try.prog 36 [.a [.b (decide (s1 < 0)), .n false .u64 (lm s1)]] (fun o => o = .ret (.i .i64 (Cb s1))) := Ec s1 (by omega)
  have hs2 : 0 ≤ s2 := by rw [es2]; exact Int.emod_nonneg _ hs1
  refine zsr <| Ay (Br (id := 0) (n := 2) rfl rfl rfl (by decide) rfl) (hd 2 rfl) <| Ay (Br (id := 1) (n := 2) rfl rfl rfl (by decide) rfl) (hd 3 rfl) <| Ay (An (id := 2) At (by decide) rfl (by decide) rfl) (hd 4 rfl) <| Ay (An (id := 3) At (by decide) rfl (by decide) rfl) (hd 5 rfl) <| Ab <| Af <| G0 2 _ <| Be (n := 6) _ rfl B2 ?_; refine Db (fun _ _ _ _ h => h) fun ops1 Q1 F0 hpan ho hq hF => ?_
  have S1_111111 : JA Try.prog ops1 0 #[true, true, true, true, true, true] Γ ([(6, .p 4 1 0), (7, .p 5 1 0), (15, (qf v)), (16, (qf w))] ++ F0) [(oqf 0 v), (oqf 0 w), (oqm 0), (oqm 0), (oqf 1 v), (oqf 1 w)] Q1 := by
    subst ho; subst hq; subst hF; refine Bi (by kernel_rfl) <| Af <| Ag ?_
    refine Aj Try.f35 (Wz 1 (by unfold inI; omega)) rfl Try.func35 rfl rfl (Aa rfl Ad) (.cons .i .nil) (hd 17 rfl) ?_ (fun ch hp => by simp at hp)
    rintro y hy; injection hy with hy; subst hy
    refine Aj Try.f35 (Wz 0 (by unfold inI; omega)) rfl Try.func35 rfl rfl (Aa rfl Ad) (.cons .i .nil) (hd 18 rfl) ?_ (fun ch hp => by simp at hp)
    rintro _ ⟨⟩; refine Ay (An (id := 6) At (by decide) rfl (by decide) rfl) (hd 8 rfl) <| Ay (An (id := 7) At (by decide) rfl (by decide) rfl) (hd 9 rfl) <| A1 (Ae rfl rfl rfl Au rfl rfl (zlb rfl)) <| A1 (Ae rfl rfl rfl Au rfl rfl (zlb rfl)) <| Ab <| Af <| Aw <| Age (N := (s2.natAbs + 1) + 2) <| He (n := (s2.natAbs + 1) + 1) <| Af <| zsr <| Ac (Ah Aq rfl rfl rfl rfl) (hd 19 rfl) ?_
    refine Fz Try.f36 (hSg1) rfl Try.func36 rfl rfl (Aa rfl Ad) (.a1 (.a1 .b (.a1 .n .a0)) .a0) (.cons (.a1 .b (.a1 .n .a0)) .nil) hL (fun y hy => by injection hy with hy; subst hy; rfl) (hd 20 rfl) ?_ (fun ch hp => by simp at hp)
    rintro _ ⟨⟩; refine Ac (Ft (Cm rfl rfl) (fun h => h0 (Ex.1 h))) (hd 21 rfl) <| Ab <| Dm rfl <| Am <| Aw <| Af <| Cs (H' := [(oqf 0 v), (oqf 0 w), (oqm 0), (oqm 0), (oqf 1 v), (oqf 1 w), (oqt 0 1), (oqt 0 0)]) rfl <| Ag <| Ac (Ah Aq rfl rfl rfl rfl) (hd 23 rfl) <| Ac (Ah Aq rfl rfl rfl rfl) (hd 24 rfl) ?_
    refine Ds Try.f39 (hEu1) (fun o G ⟨_, h⟩ => h ▸ C1 Di (C1 Di Eg)) (fun y G ⟨hy, _⟩ => by injection hy with hy; subst hy; rfl) rfl Try.func39 rfl rfl (Aa rfl (Aa rfl Ad)) (.a1 (.a1 .b (.a1 .n .a0)) (.a1 (.a1 .b (.a1 .n .a0)) .a0)) (.cons (.a1 .b (.a1 .n .a0)) (.cons (.a1 .b (.a1 .n .a0)) .nil)) hL (hd 25 rfl) ?_ (fun ch G hp => by simp at hp)
    rintro y G ⟨hy, rfl⟩; injection hy with hy; subst hy
    show JO _ _ _ _ ((25, .t [.a [.b (decide ((wq 4 v w) < 0)), .o 8 0 0 (lm (wq 4 v w)).length], .a [.b (decide (s1 < 0)), .o 9 0 0 (lm s1).length], .i .i64 0]) :: _) _ _
    refine zmv rfl (hd 22 rfl) <| Ac (Ak rfl rfl) (hd 26 rfl) <| Ok 26 rfl rfl (Nat.le_of_eq (Nat.zero_add _)) (by rw [List.drop_zero, List.take_length]) hL <| Ac (Ak rfl rfl) (hd 27 rfl) <| Ac (Ak rfl rfl) (hd 28 rfl) <| Ay (An (id := 10) At (by decide) rfl (by decide) rfl) (hd 10 rfl) <| Ay (An (id := 11) At (by decide) rfl (by decide) rfl) (hd 11 rfl) <| A1 (Ae rfl rfl rfl Au rfl rfl (zlb rfl)) <| A1 (Ae rfl rfl rfl Au rfl rfl (zlb rfl)) <| zas rfl (hd 12 rfl) <| Ab <| Af <| Cs (H' := [(oqf 0 v), (oqf 0 w), (oqm 0), (oqm 0), (oqf 1 v), (oqf 1 w), (oqt 0 1), (oqt 0 0), ⟨79, 1, 0, false, []⟩, (oqr s1), (oqt 0 (wq 4 v w)), (oqo 0 9 s1)]) rfl ?_; refine Be (n := 4) _ rfl B2 ?_; refine Db (fun _ _ _ _ h => h) fun ops1 Q1 F0 hpan ho hq hF => ?_
    have S5_1111 : JA Try.prog ops1 0 #[true, true, true, true] Γ ([(29, (qf w)), (30, (qo 9 s1))] ++ F0) [(oqf 0 v), (oqf 0 w), (oqm 0), (oqm 0), (oqf 1 w), (oqo 1 9 s1), (oqt 0 1), (oqt 0 0), ⟨79, 1, 0, false, []⟩, (oqr s1), (oqt 0 (wq 4 v w)), (oqo 0 9 s1)] Q1 := by
      subst ho; subst hq; subst hF; refine Bi (by kernel_rfl) <| Af <| Cs (H' := [(oqf 0 v), (oqf 0 w), (oqm 0), (oqm 0), (oqf 1 w), (oqo 1 9 s1), (oqt 0 1), (oqt 0 0), ⟨79, 1, 0, false, []⟩, (oqr s1), (oqt 0 (wq 4 v w)), (oqo 0 9 s1)]) rfl <| Ag <| Ac (Ah Aq rfl rfl rfl rfl) (hd 32 rfl) <| Ac (Ah Aq rfl rfl rfl rfl) (hd 33 rfl) ?_
      refine Aj Try.f40 (hMu1) rfl Try.func40 rfl rfl (Aa rfl (Aa rfl Ad)) (.cons (.a1 .b (.a1 .n .a0)) (.cons (.a1 .b (.a1 .n .a0)) .nil)) (hd 34 rfl) ?_ (fun ch hp => by simp at hp)
      rintro _ ⟨⟩; refine zmv rfl (hd 31 rfl) <| Ac (Ak rfl rfl) (hd 35 rfl) <| Ac (Ak rfl rfl) (hd 36 rfl) <| Ay (An (id := 12) At (by decide) rfl (by decide) rfl) (hd 13 rfl) <| A1 (Ae rfl rfl rfl Au rfl rfl (zlb rfl)) <| zas rfl (hd 14 rfl) <| Ab <| zsr <| Ac (Ah Aq rfl rfl rfl rfl) (hd 38 rfl) <| Ac (Ah Aq rfl rfl rfl rfl) (hd 39 rfl) ?_
      refine Aj Try.f42 (hSu1) rfl Try.func42 rfl rfl (Aa rfl (Aa rfl Ad)) (.cons (.a1 .b (.a1 .n .a0)) (.cons (.a1 .b (.a1 .n .a0)) .nil)) (hd 40 rfl) ?_ (fun ch hp => by simp at hp)
      rintro _ ⟨⟩; refine zmv rfl (hd 37 rfl) <| Ac (Ak rfl rfl) (hd 41 rfl) <| Ac (Ak rfl rfl) (hd 42 rfl) <| A1 (Ae rfl rfl rfl Au rfl rfl (zlb rfl)) <| Ab <| Cs (H' := [(oqf 0 v), (oqf 0 w), (oqm 0), (oqm 0), (oqf 1 w), (oqo 1 9 s1), (oqt 0 1), (oqt 0 0), ⟨79, 1, 0, false, []⟩, (oqr s1), (oqt 0 (wq 4 v w)), (oqo 0 9 s1), (oqt 0 y1)]) rfl <| Be (n := 4) _ rfl B2 ?_; refine Db (fun _ _ _ _ h => h) fun ops1 Q1 F0 hpan ho hq hF => ?_
      have S8_1111 : JA Try.prog ops1 0 #[true, true, true, true] Γ ([(43, (qt 0)), (44, (qt y1))] ++ F0) [(oqf 0 v), (oqf 0 w), (oqm 0), (oqm 0), (oqf 1 w), (oqo 1 9 s1), (oqt 0 0), (oqt 0 y1), ⟨79, 1, 0, false, []⟩, (oqr s1), (oqt 0 (wq 4 v w)), (oqo 0 9 s1), (oqt 0 y1)] Q1 := by
        subst ho; subst hq; subst hF; refine Bi (by kernel_rfl) <| He (n := (s2.natAbs + 1)) <| Af <| zsr <| Ac (Ah Aq rfl rfl rfl rfl) (hd 19 rfl) ?_
        refine Fz Try.f36 (hSg2) rfl Try.func36 rfl rfl (Aa rfl Ad) (.a1 (.a1 .b (.a1 (.o rfl (by simp) (by rw [List.drop_zero, List.take_length])) .a0)) .a0) (.cons (.a1 .b (.a1 .n .a0)) .nil) hL (fun y hy => by injection hy with hy; subst hy; rfl) (hd 20 rfl) ?_ (fun ch hp => by simp at hp)
        rintro _ ⟨⟩; refine Ac (Ft (Cm rfl rfl) (fun h => hs1 (Ex.1 h))) (hd 21 rfl) <| Ab <| Dm rfl <| Am <| Aw <| Af <| Cs (H' := [(oqf 0 v), (oqf 0 w), (oqm 0), (oqm 0), (oqf 1 w), (oqo 1 9 s1), (oqt 0 0), (oqt 0 y1), ⟨79, 1, 0, false, []⟩, (oqr s1), (oqt 0 (wq 4 v w)), (oqo 0 9 s1), (oqt 0 y1)]) rfl <| Ag <| Ac (Ah Aq rfl rfl rfl rfl) (hd 23 rfl) <| Ac (Ah Aq rfl rfl rfl rfl) (hd 24 rfl) ?_
        refine Ds Try.f39 (hEu2) (fun o G ⟨_, h⟩ => h ▸ C1 Di (C1 Di Eg)) (fun y G ⟨hy, _⟩ => by injection hy with hy; subst hy; rfl) rfl Try.func39 rfl rfl (Aa rfl (Aa rfl Ad)) (.a1 (.a1 .b (.a1 .n .a0)) (.a1 (.a1 .b (.a1 (.o rfl (by simp) (by rw [List.drop_zero, List.take_length])) .a0)) .a0)) (.cons (.a1 .b (.a1 .n .a0)) (.cons (.a1 .b (.a1 .n .a0)) .nil)) hL (hd 25 rfl) ?_ (fun ch G hp => by simp at hp)
        rintro y G ⟨hy, rfl⟩; injection hy with hy; subst hy
        show JO _ _ _ _ ((25, .t [.a [.b (decide ((wq 4 w s1) < 0)), .o 13 0 0 (lm (wq 4 w s1)).length], .a [.b (decide (s2 < 0)), .o 14 0 0 (lm s2).length], .i .i64 0]) :: _) _ _
        refine zmv rfl (hd 22 rfl) <| Ac (Ak rfl rfl) (hd 26 rfl) <| Ok 26 rfl rfl (Nat.le_of_eq (Nat.zero_add _)) (by rw [List.drop_zero, List.take_length]) hL <| Ac (Ak rfl rfl) (hd 27 rfl) <| Ac (Ak rfl rfl) (hd 28 rfl) <| Ay (An (id := 15) At (by decide) rfl (by decide) rfl) (hd 10 rfl) <| Ay (An (id := 16) At (by decide) rfl (by decide) rfl) (hd 11 rfl) <| A1 (Ae rfl rfl rfl Au rfl rfl (zlb rfl)) <| A1 (Ae rfl rfl rfl Au rfl rfl (zlb rfl)) <| zas rfl (hd 12 rfl) <| Ab <| Af <| Cs (H' := [(oqf 0 v), (oqf 0 w), (oqm 0), (oqm 0), (oqf 1 w), (oqo 1 9 s1), (oqt 0 0), (oqt 0 y1), ⟨79, 1, 0, false, []⟩, (oqr s1), (oqt 0 (wq 4 v w)), (oqo 0 9 s1), (oqt 0 y1), ⟨79, 1, 0, false, []⟩, (oqr s2), (oqt 0 (wq 4 w s1)), (oqo 0 14 s2)]) rfl ?_; refine Be (n := 4) _ rfl B2 ?_; refine Db (fun _ _ _ _ h => h) fun ops1 Q1 F0 hpan ho hq hF => ?_
        have S5_1111 : JA Try.prog ops1 0 #[true, true, true, true] Γ ([(29, (qo 9 s1)), (30, (qo 14 s2))] ++ F0) [(oqf 0 v), (oqf 0 w), (oqm 0), (oqm 0), (oqo 1 9 s1), (oqo 1 14 s2), (oqt 0 0), (oqt 0 y1), ⟨79, 1, 0, false, []⟩, (oqr s1), (oqt 0 (wq 4 v w)), (oqo 0 9 s1), (oqt 0 y1), ⟨79, 1, 0, false, []⟩, (oqr s2), (oqt 0 (wq 4 w s1)), (oqo 0 14 s2)] Q1 := by
          subst ho; subst hq; subst hF; refine Bi (by kernel_rfl) <| Af <| Cs (H' := [(oqf 0 v), (oqf 0 w), (oqm 0), (oqm 0), (oqo 1 9 s1), (oqo 1 14 s2), (oqt 0 0), (oqt 0 y1), ⟨79, 1, 0, false, []⟩, (oqr s1), (oqt 0 (wq 4 v w)), (oqo 0 9 s1), (oqt 0 y1), ⟨79, 1, 0, false, []⟩, (oqr s2), (oqt 0 (wq 4 w s1)), (oqo 0 14 s2)]) rfl <| Ag <| Ac (Ah Aq rfl rfl rfl rfl) (hd 32 rfl) <| Ac (Ah Aq rfl rfl rfl rfl) (hd 33 rfl) ?_
          refine Aj Try.f40 (hMu2) rfl Try.func40 rfl rfl (Aa rfl (Aa rfl Ad)) (.cons (.a1 .b (.a1 .n .a0)) (.cons (.a1 .b (.a1 .n .a0)) .nil)) (hd 34 rfl) ?_ (fun ch hp => by simp at hp)
          rintro _ ⟨⟩; refine zmv rfl (hd 31 rfl) <| Ac (Ak rfl rfl) (hd 35 rfl) <| Ac (Ak rfl rfl) (hd 36 rfl) <| Ay (An (id := 17) At (by decide) rfl (by decide) rfl) (hd 13 rfl) <| A1 (Ae rfl rfl rfl Au rfl rfl (zlb rfl)) <| zas rfl (hd 14 rfl) <| Ab <| zsr <| Ac (Ah Aq rfl rfl rfl rfl) (hd 38 rfl) <| Ac (Ah Aq rfl rfl rfl rfl) (hd 39 rfl) ?_
          refine Aj Try.f42 (hSu2) rfl Try.func42 rfl rfl (Aa rfl (Aa rfl Ad)) (.cons (.a1 .b (.a1 .n .a0)) (.cons (.a1 .b (.a1 .n .a0)) .nil)) (hd 40 rfl) ?_ (fun ch hp => by simp at hp)
          rintro _ ⟨⟩; refine zmv rfl (hd 37 rfl) <| Ac (Ak rfl rfl) (hd 41 rfl) <| Ac (Ak rfl rfl) (hd 42 rfl) <| A1 (Ae rfl rfl rfl Au rfl rfl (zlb rfl)) <| Ab <| Cs (H' := [(oqf 0 v), (oqf 0 w), (oqm 0), (oqm 0), (oqo 1 9 s1), (oqo 1 14 s2), (oqt 0 0), (oqt 0 y1), ⟨79, 1, 0, false, []⟩, (oqr s1), (oqt 0 (wq 4 v w)), (oqo 0 9 s1), (oqt 0 y1), ⟨79, 1, 0, false, []⟩, (oqr s2), (oqt 0 (wq 4 w s1)), (oqo 0 14 s2), (oqt 0 y2)]) rfl <| Be (n := 4) _ rfl B2 ?_; refine Db (fun _ _ _ _ h => h) fun ops1 Q1 F0 hpan ho hq hF => ?_
          have S8_1111 : JA Try.prog ops1 0 #[true, true, true, true] Γ ([(43, (qt y1)), (44, (qt y2))] ++ F0) [(oqf 0 v), (oqf 0 w), (oqm 0), (oqm 0), (oqo 1 9 s1), (oqo 1 14 s2), (oqt 0 y1), (oqt 0 y2), ⟨79, 1, 0, false, []⟩, (oqr s1), (oqt 0 (wq 4 v w)), (oqo 0 9 s1), (oqt 0 y1), ⟨79, 1, 0, false, []⟩, (oqr s2), (oqt 0 (wq 4 w s1)), (oqo 0 14 s2), (oqt 0 y2)] Q1 := by
            subst ho; subst hq; subst hF; refine Bi (by kernel_rfl) ?_
            refine Wc (G := Int × Int × Int × Int) _ 8 (fun g => Co v w g.1 g.2.1 g.2.2.1 g.2.2.2 ∧ 0 < g.1 ∧ 0 ≤ g.2.1) (fun _ => [(10, .u), (11, .u), (12, .u), (13, .u), (14, .u), (19, .u), (20, .u), (21, .u), (22, .u), (23, .u), (24, .u), (25, .u), (26, .u), (27, .u), (28, .u), (29, .u), (30, .u), (31, .u), (32, .u), (33, .u), (34, .u), (35, .u), (36, .u), (37, .u), (38, .u), (39, .u), (40, .u), (41, .u), (42, .u), (43, .u), (44, .u)]) (fun g => [⟨27, 2, 0, true, [.b (decide (v < 0)), .n false .u64 (lm v)]⟩, ⟨27, 2, 0, true, [.b (decide (w < 0)), .n false .u64 (lm w)]⟩, ⟨27, 2, 0, true, [.b false, .c (.slice none 0 0)]⟩, ⟨27, 2, 0, true, [.b false, .c (.slice none 0 0)]⟩, ⟨27, 2, 1, true, [.b (decide (g.1 < 0)), .o 8 0 0 (lm g.1).length]⟩, ⟨27, 2, 1, true, [.b (decide (g.2.1 < 0)), .o 9 0 0 (lm g.2.1).length]⟩, ⟨27, 2, 0, true, [.b (decide (g.2.2.1 < 0)), .n true .u64 (lm g.2.2.1)]⟩, ⟨27, 2, 0, true, [.b (decide (g.2.2.2 < 0)), .n true .u64 (lm g.2.2.2)]⟩, ⟨79, 1, 0, true, A2 .u64 (lm g.1)⟩, ⟨79, 1, 0, true, A2 .u64 (lm g.2.1)⟩]) (fun g => g.2.1.natAbs) ((s2.natAbs + 1)) (s1, s2, y1, y2) ?_ (Nat.lt_succ_self _) [0, 1, 2, 3, 4, 5, 6, 7, 9, 14] (by decide) (by decide) (.cons rfl rfl (.cons rfl rfl (.cons rfl rfl (.cons rfl rfl (.cons rfl rfl (.cons rfl rfl (.cons rfl rfl (.cons rfl rfl (.cons rfl (D5 _ _ _) (.cons rfl (D5 _ _ _) .nil)))))))))) (Ba 64 rfl rfl (.v9 (.v9 (.v9 (.u .nil))))) hR rfl (fun _ _ => rfl) (fun g _ => (.cons rfl (.cons rfl (.cons rfl (.cons rfl (.cons rfl (.cons rfl (.cons rfl (.cons rfl (.cons Bc (.cons Bc .nil))))))))))) ?_
            · exact ⟨hN2, by omega, hs2⟩
            · rintro ⟨r, s, x, y⟩ ⟨hC, hr0, hs0⟩
              dsimp only at hC hr0 hs0 ⊢
              have hlr3 : Bm r ≤ 67108800 := Ha hC.br (by omega) (by omega)
              have hls3 : Bm s ≤ 67108800 := Nat.le_trans (A5 hC.bs) (by omega)
              have hly3 := A5 hC.by_
              have hlx3 := A5 hC.bx
              have hmr3 := Bf (v := r) (by omega)
              have hms3 := Bf (v := s) (by omega)
              have hmy3 := Bf (v := y) (by omega)
              have hmx3 := Bf (v := x) (by omega)
              have hSg3 : Spec Try.prog 36 [.a [.b (decide (s < 0)), .n false .u64 (lm s)]] (fun o => o = .ret (.i .i64 (Cb s))) := Ec s (by omega)
              refine Af <| zsr <| Ac (Ah Aq rfl rfl rfl rfl) (hd 19 rfl) ?_
              refine Fz Try.f36 (hSg3) rfl Try.func36 rfl rfl (Aa rfl Ad) (.a1 (.a1 .b (.a1 (.o rfl (by simp) (by rw [List.drop_zero, List.take_length])) .a0)) .a0) (.cons (.a1 .b (.a1 .n .a0)) .nil) hL (fun y hy => by injection hy with hy; subst hy; rfl) (hd 20 rfl) ?_ (fun ch hp => by simp at hp)
              rintro _ ⟨⟩; refine Ac (Cm rfl rfl) (hd 21 rfl) <| Ab ?_
              refine Bu rfl (fun h3 => ?_) (fun h3 => ?_)
              · have hs : s ≠ 0 := fun e => h3 (Ex.2 e)
                have hq3 := euc (v := r) hs
                have hN3 := hC.next h0 hs hq3
                have hlyn3 := A5 hN3.by_
                have hqy3 : Bm ((wq 4 r s) * y) ≤ Bm w + 1 := G8 (by have h1 := hN3.by_; have h2 := hC.bx; omega)
                have hwl3 := Hi (k := 4) (v := r) hs
                have hlq3 := Bf (v := (wq 4 r s)) (by omega)
                have hlqy3 := Bf (v := ((wq 4 r s) * y)) (by omega)
                have hlR3 := A5 hN3.bs
                have hEu3 : SpecM Try.prog 39 [.a [.b (decide (r < 0)), .n false .u64 (lm r)], .a [.b (decide (s < 0)), .n false .u64 (lm s)]] [] (fun o G => o = .ret (.t [.a [.b (decide ((wq 4 r s) < 0)), .o 0 0 0 (lm (wq 4 r s)).length], .a [.b (decide ((r % s) < 0)), .o 1 0 0 (lm (r % s)).length], .i .i64 0]) ∧ G = [⟨79, 1, 0, true, A2 .u64 (lm (wq 4 r s))⟩, ⟨79, 1, 0, true, A2 .u64 (lm (r % s))⟩]) := by
                  have h := Gj (decide (r < 0)) (decide (s < 0)) (lm r) (lm s) r s (by omega) (by omega) (Cq _) (Cq _) (Cn _) (Cn _) (by omega) (by omega) hs
                  rwa [hq3] at h
                have hMu3 : Spec Try.prog 40 [.a [.b (decide ((wq 4 r s) < 0)), .n false .u64 (lm (wq 4 r s))], .a [.b (decide (y < 0)), .n false .u64 (lm y)]] (fun o => o = .ret (.t [.a [.b (decide (((wq 4 r s) * y) < 0)), .n true .u64 (lm ((wq 4 r s) * y))], .i .i64 0])) := Ns (wq 4 r s) y (by omega) (by omega) (by omega)
                have hSu3 : Spec Try.prog 42 [.a [.b (decide (x < 0)), .n false .u64 (lm x)], .a [.b (decide (((wq 4 r s) * y) < 0)), .n false .u64 (lm ((wq 4 r s) * y))]] (fun o => o = .ret (.t [.a [.b (decide ((x - wq 4 r s * y) < 0)), .n true .u64 (lm (x - wq 4 r s * y))], .i .i64 0])) := by
                  have h := Nr x ((wq 4 r s) * y) (by omega) (by omega) (by omega)
                  exact h
                refine Am <| Aw <| Af <| Cs (H' := [(oqf 0 v), (oqf 0 w), (oqm 0), (oqm 0), (oqo 1 8 r), (oqo 1 9 s), (oqt 0 x), (oqt 0 y), (oqr r), (oqr s)]) rfl <| Ag <| Ac (Ah Aq rfl rfl rfl rfl) (hd 23 rfl) <| Ac (Ah Aq rfl rfl rfl rfl) (hd 24 rfl) ?_
                refine Ds Try.f39 (hEu3) (fun o G ⟨_, h⟩ => h ▸ C1 Di (C1 Di Eg)) (fun y G ⟨hy, _⟩ => by injection hy with hy; subst hy; rfl) rfl Try.func39 rfl rfl (Aa rfl (Aa rfl Ad)) (.a1 (.a1 .b (.a1 (.o rfl (by simp) (by rw [List.drop_zero, List.take_length])) .a0)) (.a1 (.a1 .b (.a1 (.o rfl (by simp) (by rw [List.drop_zero, List.take_length])) .a0)) .a0)) (.cons (.a1 .b (.a1 .n .a0)) (.cons (.a1 .b (.a1 .n .a0)) .nil)) hL (hd 25 rfl) ?_ (fun ch G hp => by simp at hp)
                rintro y G ⟨hy, rfl⟩; injection hy with hy; subst hy
                show JO _ _ _ _ ((25, .t [.a [.b (decide ((wq 4 r s) < 0)), .o 10 0 0 (lm (wq 4 r s)).length], .a [.b (decide ((r % s) < 0)), .o 11 0 0 (lm (r % s)).length], .i .i64 0]) :: _) _ _
                refine zmv rfl (hd 22 rfl) <| Ac (Ak rfl rfl) (hd 26 rfl) <| Ok 26 rfl rfl (Nat.le_of_eq (Nat.zero_add _)) (by rw [List.drop_zero, List.take_length]) hL <| Ac (Ak rfl rfl) (hd 27 rfl) <| Ac (Ak rfl rfl) (hd 28 rfl) <| Ay (An (id := 12) At (by decide) rfl (by decide) rfl) (hd 10 rfl) <| Ay (An (id := 13) At (by decide) rfl (by decide) rfl) (hd 11 rfl) <| A1 (Ae rfl rfl rfl Au rfl rfl (zlb rfl)) <| A1 (Ae rfl rfl rfl Au rfl rfl (zlb rfl)) <| zas rfl (hd 12 rfl) <| Ab <| Af <| Cs (H' := [(oqf 0 v), (oqf 0 w), (oqm 0), (oqm 0), (oqo 1 8 r), (oqo 1 9 s), (oqt 0 x), (oqt 0 y), (oqr r), (oqr s), ⟨79, 1, 0, false, []⟩, (oqr (r % s)), (oqt 0 (wq 4 r s)), (oqo 0 11 (r % s))]) rfl ?_; refine Be (n := 4) _ rfl B2 ?_; refine Db (fun _ _ _ _ h => h) fun ops1 Q1 F0 hpan ho hq hF => ?_
                have S5_1111 : JA Try.prog ops1 0 #[true, true, true, true] Γ ([(29, (qo 9 s)), (30, (qo 11 (r % s)))] ++ F0) [(oqf 0 v), (oqf 0 w), (oqm 0), (oqm 0), (oqo 1 9 s), (oqo 1 11 (r % s)), (oqt 0 x), (oqt 0 y), (oqr r), (oqr s), ⟨79, 1, 0, false, []⟩, (oqr (r % s)), (oqt 0 (wq 4 r s)), (oqo 0 11 (r % s))] Q1 := by
                  subst ho; subst hq; subst hF; refine Bi (by kernel_rfl) <| Af <| Cs (H' := [(oqf 0 v), (oqf 0 w), (oqm 0), (oqm 0), (oqo 1 9 s), (oqo 1 11 (r % s)), (oqt 0 x), (oqt 0 y), (oqr r), (oqr s), ⟨79, 1, 0, false, []⟩, (oqr (r % s)), (oqt 0 (wq 4 r s)), (oqo 0 11 (r % s))]) rfl <| Ag <| Ac (Ah Aq rfl rfl rfl rfl) (hd 32 rfl) <| Ac (Ah Aq rfl rfl rfl rfl) (hd 33 rfl) ?_
                  refine Aj Try.f40 (hMu3) rfl Try.func40 rfl rfl (Aa rfl (Aa rfl Ad)) (.cons (.a1 .b (.a1 .n .a0)) (.cons (.a1 .b (.a1 .n .a0)) .nil)) (hd 34 rfl) ?_ (fun ch hp => by simp at hp)
                  rintro _ ⟨⟩; refine zmv rfl (hd 31 rfl) <| Ac (Ak rfl rfl) (hd 35 rfl) <| Ac (Ak rfl rfl) (hd 36 rfl) <| Ay (An (id := 14) At (by decide) rfl (by decide) rfl) (hd 13 rfl) <| A1 (Ae rfl rfl rfl Au rfl rfl (zlb rfl)) <| zas rfl (hd 14 rfl) <| Ab <| zsr <| Ac (Ah Aq rfl rfl rfl rfl) (hd 38 rfl) <| Ac (Ah Aq rfl rfl rfl rfl) (hd 39 rfl) ?_
                  refine Aj Try.f42 (hSu3) rfl Try.func42 rfl rfl (Aa rfl (Aa rfl Ad)) (.cons (.a1 .b (.a1 .n .a0)) (.cons (.a1 .b (.a1 .n .a0)) .nil)) (hd 40 rfl) ?_ (fun ch hp => by simp at hp)
                  rintro _ ⟨⟩; refine zmv rfl (hd 37 rfl) <| Ac (Ak rfl rfl) (hd 41 rfl) <| Ac (Ak rfl rfl) (hd 42 rfl) <| A1 (Ae rfl rfl rfl Au rfl rfl (zlb rfl)) <| Ab <| Cs (H' := [(oqf 0 v), (oqf 0 w), (oqm 0), (oqm 0), (oqo 1 9 s), (oqo 1 11 (r % s)), (oqt 0 x), (oqt 0 y), (oqr r), (oqr s), ⟨79, 1, 0, false, []⟩, (oqr (r % s)), (oqt 0 (wq 4 r s)), (oqo 0 11 (r % s)), (oqt 0 (x - wq 4 r s * y))]) rfl <| Be (n := 4) _ rfl B2 ?_; refine Db (fun _ _ _ _ h => h) fun ops1 Q1 F0 hpan ho hq hF => ?_
                  have S8_1111 : JA Try.prog ops1 0 #[true, true, true, true] Γ ([(43, (qt y)), (44, (qt (x - wq 4 r s * y)))] ++ F0) [(oqf 0 v), (oqf 0 w), (oqm 0), (oqm 0), (oqo 1 9 s), (oqo 1 11 (r % s)), (oqt 0 y), (oqt 0 (x - wq 4 r s * y)), (oqr r), (oqr s), ⟨79, 1, 0, false, []⟩, (oqr (r % s)), (oqt 0 (wq 4 r s)), (oqo 0 11 (r % s)), (oqt 0 (x - wq 4 r s * y))] Q1 := by
                    subst ho; subst hq; subst hF; refine Bi (by kernel_rfl) ?_
                    refine ⟨(s, r % s, y, x - wq 4 r s * y), [0, 1, 2, 3, 4, 5, 6, 7, 9, 11], ?_, ?_, (by decide), (by decide), (.cons rfl rfl (.cons rfl rfl (.cons rfl rfl (.cons rfl rfl (.cons rfl rfl (.cons rfl rfl (.cons rfl rfl (.cons rfl rfl (.cons rfl (D5 _ _ _) (.cons rfl (D5 _ _ _) .nil)))))))))), (Ba 63 rfl rfl (.v9 (.v9 (.v9 (.u .nil)))))⟩
                    · exact ⟨hN3, by omega, Int.emod_nonneg _ hs⟩
                    · show (r % s).natAbs < s.natAbs
                      have := Int.emod_lt r hs
                      have := Int.emod_nonneg r hs
                      omega
                  have S8_1110 : JA Try.prog ops1 1 #[true, true, true, false] Γ ([(43, (qt y)), (44, (qt (x - wq 4 r s * y)))] ++ F0) [(oqf 0 v), (oqf 0 w), (oqm 0), (oqm 0), (oqo 1 9 s), (oqo 1 11 (r % s)), (oqt 0 y), (oqt 0 y), (oqr r), (oqr s), ⟨79, 1, 0, false, []⟩, (oqr (r % s)), (oqt 0 (wq 4 r s)), (oqo 0 11 (r % s)), (oqt 0 (x - wq 4 r s * y))] Q1 := by
                    subst ho; subst hF
                    refine Bb 3 ?_ rfl (by kernel_rfl)
                    refine A7 (Ae rfl rfl rfl Au rfl rfl (zlb rfl)) rfl ?_
                    refine Ai S8_1111 2 (.cons rfl (.cons rfl .nil))
                  have S8_1100 : JA Try.prog ops1 2 #[true, true, false, false] Γ ([(43, (qt y)), (44, (qt (x - wq 4 r s * y)))] ++ F0) [(oqf 0 v), (oqf 0 w), (oqm 0), (oqm 0), (oqo 1 9 s), (oqo 1 11 (r % s)), (oqt 0 x), (oqt 0 y), (oqr r), (oqr s), ⟨79, 1, 0, false, []⟩, (oqr (r % s)), (oqt 0 (wq 4 r s)), (oqo 0 11 (r % s)), (oqt 0 (x - wq 4 r s * y))] Q1 := by
                    subst ho; subst hF
                    refine Bb 2 ?_ rfl (by kernel_rfl)
                    refine A7 (Ae rfl rfl rfl Au rfl rfl (zlb rfl)) rfl ?_
                    refine Ai S8_1110 2 (.cons rfl (.cons rfl .nil))
                  have S8_1010 : JA Try.prog ops1 2 #[true, false, true, false] Γ ([(43, (qt y))] ++ F0) [(oqf 0 v), (oqf 0 w), (oqm 0), (oqm 0), (oqo 1 9 s), (oqo 1 11 (r % s)), (oqt 0 y), (oqt 0 y), (oqr r), (oqr s), ⟨79, 1, 0, false, []⟩, (oqr (r % s)), (oqt 0 (wq 4 r s)), (oqo 0 11 (r % s)), (oqt 0 (x - wq 4 r s * y))] Q1 := by
                    subst ho; subst hF; refine Bz 1 [3] (Ao (Ah Aq rfl rfl rfl rfl) (hd 44 rfl)) rfl (by kernel_rfl) (by kernel_rfl) (by kernel_rfl) (by kernel_rfl) hpan ?_
                    refine Ai S8_1110 2 (.cons rfl (.cons rfl .nil))
                  have S8_1000 : JA Try.prog ops1 3 #[true, false, false, false] Γ ([(43, (qt y))] ++ F0) [(oqf 0 v), (oqf 0 w), (oqm 0), (oqm 0), (oqo 1 9 s), (oqo 1 11 (r % s)), (oqt 0 x), (oqt 0 y), (oqr r), (oqr s), ⟨79, 1, 0, false, []⟩, (oqr (r % s)), (oqt 0 (wq 4 r s)), (oqo 0 11 (r % s)), (oqt 0 (x - wq 4 r s * y))] Q1 := by
                    subst ho; subst hF
                    refine Ct 1 2 ?_ ?_ rfl rfl (by kernel_rfl)
                    · refine C4 (Ah Aq rfl rfl rfl rfl) (hd 44 rfl) ?_
                      refine Ai S8_1100 2 (.cons rfl (.cons rfl .nil))
                    · refine A7 (Ae rfl rfl rfl Au rfl rfl (zlb rfl)) rfl ?_
                      refine Ai S8_1010 1 (.cons rfl .nil)
                  have S8_0000 : JA Try.prog ops1 4 #[false, false, false, false] Γ ([] ++ F0) [(oqf 0 v), (oqf 0 w), (oqm 0), (oqm 0), (oqo 1 9 s), (oqo 1 11 (r % s)), (oqt 0 x), (oqt 0 y), (oqr r), (oqr s), ⟨79, 1, 0, false, []⟩, (oqr (r % s)), (oqt 0 (wq 4 r s)), (oqo 0 11 (r % s)), (oqt 0 (x - wq 4 r s * y))] Q1 := by
                    subst ho; subst hF; refine Bz 0 [2, 3] (Ao (Ah Aq rfl rfl rfl rfl) (hd 43 rfl)) rfl (by kernel_rfl) (by kernel_rfl) (by kernel_rfl) (by kernel_rfl) hpan ?_
                    refine Ai S8_1000 1 (.cons rfl .nil)
                  subst ho; subst hF
                  exact D2 (m := []) (by decide) rfl (Ba 0 rfl rfl .nil) S8_0000
                have S5_1110 : JA Try.prog ops1 1 #[true, true, true, false] Γ ([(29, (qo 9 s)), (30, (qo 11 (r % s)))] ++ F0) [(oqf 0 v), (oqf 0 w), (oqm 0), (oqm 0), (oqo 1 9 s), (oqo 1 9 s), (oqt 0 x), (oqt 0 y), (oqr r), (oqr s), ⟨79, 1, 0, false, []⟩, (oqr (r % s)), (oqt 0 (wq 4 r s)), (oqo 0 11 (r % s))] Q1 := by
                  subst ho; subst hF
                  refine Bb 3 ?_ rfl (by kernel_rfl)
                  refine A7 (Ae rfl rfl rfl Au rfl rfl (zlb rfl)) rfl ?_
                  refine Ai S5_1111 2 (.cons rfl (.cons rfl .nil))
                have S5_1100 : JA Try.prog ops1 2 #[true, true, false, false] Γ ([(29, (qo 9 s)), (30, (qo 11 (r % s)))] ++ F0) [(oqf 0 v), (oqf 0 w), (oqm 0), (oqm 0), (oqo 1 8 r), (oqo 1 9 s), (oqt 0 x), (oqt 0 y), (oqr r), (oqr s), ⟨79, 1, 0, false, []⟩, (oqr (r % s)), (oqt 0 (wq 4 r s)), (oqo 0 11 (r % s))] Q1 := by
                  subst ho; subst hF
                  refine Bb 2 ?_ rfl (by kernel_rfl)
                  refine A7 (Ae rfl rfl rfl Au rfl rfl (zlb rfl)) rfl ?_
                  refine Ai S5_1110 2 (.cons rfl (.cons rfl .nil))
                have S5_1010 : JA Try.prog ops1 2 #[true, false, true, false] Γ ([(29, (qo 9 s))] ++ F0) [(oqf 0 v), (oqf 0 w), (oqm 0), (oqm 0), (oqo 1 9 s), (oqo 1 9 s), (oqt 0 x), (oqt 0 y), (oqr r), (oqr s), ⟨79, 1, 0, false, []⟩, (oqr (r % s)), (oqt 0 (wq 4 r s)), (oqo 0 11 (r % s))] Q1 := by
                  subst ho; subst hF; refine Bz 1 [3] (Ao (Ah Aq rfl rfl rfl rfl) (hd 30 rfl)) rfl (by kernel_rfl) (by kernel_rfl) (by kernel_rfl) (by kernel_rfl) hpan ?_
                  refine Ai S5_1110 2 (.cons rfl (.cons rfl .nil))
                have S5_1000 : JA Try.prog ops1 3 #[true, false, false, false] Γ ([(29, (qo 9 s))] ++ F0) [(oqf 0 v), (oqf 0 w), (oqm 0), (oqm 0), (oqo 1 8 r), (oqo 1 9 s), (oqt 0 x), (oqt 0 y), (oqr r), (oqr s), ⟨79, 1, 0, false, []⟩, (oqr (r % s)), (oqt 0 (wq 4 r s)), (oqo 0 11 (r % s))] Q1 := by
                  subst ho; subst hF
                  refine Ct 1 2 ?_ ?_ rfl rfl (by kernel_rfl)
                  · refine C4 (Ah Aq rfl rfl rfl rfl) (hd 30 rfl) ?_
                    refine Ai S5_1100 2 (.cons rfl (.cons rfl .nil))
                  · refine A7 (Ae rfl rfl rfl Au rfl rfl (zlb rfl)) rfl ?_
                    refine Ai S5_1010 1 (.cons rfl .nil)
                have S5_0000 : JA Try.prog ops1 4 #[false, false, false, false] Γ ([] ++ F0) [(oqf 0 v), (oqf 0 w), (oqm 0), (oqm 0), (oqo 1 8 r), (oqo 1 9 s), (oqt 0 x), (oqt 0 y), (oqr r), (oqr s), ⟨79, 1, 0, false, []⟩, (oqr (r % s)), (oqt 0 (wq 4 r s)), (oqo 0 11 (r % s))] Q1 := by
                  subst ho; subst hF; refine Bz 0 [2, 3] (Ao (Ah Aq rfl rfl rfl rfl) (hd 29 rfl)) rfl (by kernel_rfl) (by kernel_rfl) (by kernel_rfl) (by kernel_rfl) hpan ?_
                  refine Ai S5_1000 1 (.cons rfl .nil)
                subst ho; subst hF
                exact D2 (m := []) (by decide) rfl (Ba 0 rfl rfl .nil) S5_0000
              · have hs : s = 0 := Ex.1 (Decidable.not_not.1 h3)
                subst hs
                have hSr : Spec Try.prog 36 [.a [.b (decide (r < 0)), .n false .u64 (lm r)]] (fun o => o = .ret (.i .i64 (Cb r))) := Ec r (by omega)
                refine By <| Af <| zsr <| Ac (Ah Aq rfl rfl rfl rfl) (hd 45 rfl) ?_
                refine Fz Try.f36 (hSr) rfl Try.func36 rfl rfl (Aa rfl Ad) (.a1 (.a1 .b (.a1 (.o rfl (by simp) (by rw [List.drop_zero, List.take_length])) .a0)) .a0) (.cons (.a1 .b (.a1 .n .a0)) .nil) hL (fun y hy => by injection hy with hy; subst hy; rfl) (hd 46 rfl) ?_ (fun ch hp => by simp at hp)
                rintro _ ⟨⟩; refine Ac (Cd (Ch rfl rfl) (by rcases F4 (x := r) with ⟨h9, e9⟩ | ⟨h9, e9⟩ | ⟨h9, e9⟩ <;> omega)) (hd 47 rfl) <| Ab <| Bl rfl <| Am <| Af <| Be (n := 4) _ rfl B2 ?_; refine Db (fun _ _ _ _ h => h) fun ops1 Q1 F0 hpan ho hq hF => ?_
                have S11_1111 : JA Try.prog ops1 0 #[true, true, true, true] Γ ([(52, (qo 8 r)), (53, (qt x))] ++ F0) [(oqf 0 v), (oqf 0 w), (oqo 0 8 r), (oqt 0 x), (oqo 1 8 r), (oqo 1 9 0), (oqt 0 x), (oqt 0 y), (oqr r), (oqr 0)] Q1 := by
                  subst ho; subst hq; subst hF; refine Bi (by kernel_rfl) <| As ?_
                  refine ⟨[8], _, (.t [.a [.b (decide (r < 0)), .o 0 0 0 (lm r).length], .a [.b (decide (x < 0)), .n true .u64 (lm x)]]), (.cons (ResV.cell Aq rfl rfl rfl rfl) (.cons (ResV.cell Aq rfl rfl rfl rfl) .nil)), rfl, rfl, (by decide), (by first | exact Al Bc Ar | exact Al rfl Ar), ?_⟩
                  exact ⟨r, x, ⟨rfl, rfl⟩, hC.pos (by omega)⟩
                have S11_1110 : JA Try.prog ops1 1 #[true, true, true, false] Γ ([(52, (qo 8 r)), (53, (qt x))] ++ F0) [(oqf 0 v), (oqf 0 w), (oqo 0 8 r), (oqm 0), (oqo 1 8 r), (oqo 1 9 0), (oqt 0 x), (oqt 0 y), (oqr r), (oqr 0)] Q1 := by
                  subst ho; subst hF
                  refine Bb 3 ?_ rfl (by kernel_rfl)
                  refine A7 (Ae rfl rfl rfl Au rfl rfl (zlb rfl)) rfl ?_
                  refine Ai S11_1111 2 (.cons rfl (.cons rfl .nil))
                have S11_1100 : JA Try.prog ops1 2 #[true, true, false, false] Γ ([(52, (qo 8 r)), (53, (qt x))] ++ F0) [(oqf 0 v), (oqf 0 w), (oqm 0), (oqm 0), (oqo 1 8 r), (oqo 1 9 0), (oqt 0 x), (oqt 0 y), (oqr r), (oqr 0)] Q1 := by
                  subst ho; subst hF
                  refine Bb 2 ?_ rfl (by kernel_rfl)
                  refine A7 (Ae rfl rfl rfl Au rfl rfl (zlb rfl)) rfl ?_
                  refine Ai S11_1110 2 (.cons rfl (.cons rfl .nil))
                have S11_1010 : JA Try.prog ops1 2 #[true, false, true, false] Γ ([(52, (qo 8 r))] ++ F0) [(oqf 0 v), (oqf 0 w), (oqo 0 8 r), (oqm 0), (oqo 1 8 r), (oqo 1 9 0), (oqt 0 x), (oqt 0 y), (oqr r), (oqr 0)] Q1 := by
                  subst ho; subst hF; refine Bz 1 [3] (Ao (Ah Aq rfl rfl rfl rfl) (hd 53 rfl)) rfl (by kernel_rfl) (by kernel_rfl) (by kernel_rfl) (by kernel_rfl) hpan ?_
                  refine Ai S11_1110 2 (.cons rfl (.cons rfl .nil))
                have S11_1000 : JA Try.prog ops1 3 #[true, false, false, false] Γ ([(52, (qo 8 r))] ++ F0) [(oqf 0 v), (oqf 0 w), (oqm 0), (oqm 0), (oqo 1 8 r), (oqo 1 9 0), (oqt 0 x), (oqt 0 y), (oqr r), (oqr 0)] Q1 := by
                  subst ho; subst hF
                  refine Ct 1 2 ?_ ?_ rfl rfl (by kernel_rfl)
                  · refine C4 (Ah Aq rfl rfl rfl rfl) (hd 53 rfl) ?_
                    refine Ai S11_1100 2 (.cons rfl (.cons rfl .nil))
                  · refine A7 (Ae rfl rfl rfl Au rfl rfl (zlb rfl)) rfl ?_
                    refine Ai S11_1010 1 (.cons rfl .nil)
                have S11_0000 : JA Try.prog ops1 4 #[false, false, false, false] Γ ([] ++ F0) [(oqf 0 v), (oqf 0 w), (oqm 0), (oqm 0), (oqo 1 8 r), (oqo 1 9 0), (oqt 0 x), (oqt 0 y), (oqr r), (oqr 0)] Q1 := by
                  subst ho; subst hF; refine Bz 0 [2, 3] (Ao (Ah Aq rfl rfl rfl rfl) (hd 52 rfl)) rfl (by kernel_rfl) (by kernel_rfl) (by kernel_rfl) (by kernel_rfl) hpan ?_
                  refine Ai S11_1000 1 (.cons rfl .nil)
                subst ho; subst hF
                exact D2 (m := []) (by decide) rfl (Ba 0 rfl rfl .nil) S11_0000
          have S8_1110 : JA Try.prog ops1 1 #[true, true, true, false] Γ ([(43, (qt y1)), (44, (qt y2))] ++ F0) [(oqf 0 v), (oqf 0 w), (oqm 0), (oqm 0), (oqo 1 9 s1), (oqo 1 14 s2), (oqt 0 y1), (oqt 0 y1), ⟨79, 1, 0, false, []⟩, (oqr s1), (oqt 0 (wq 4 v w)), (oqo 0 9 s1), (oqt 0 y1), ⟨79, 1, 0, false, []⟩, (oqr s2), (oqt 0 (wq 4 w s1)), (oqo 0 14 s2), (oqt 0 y2)] Q1 := by
            subst ho; subst hF
            refine Bb 3 ?_ rfl (by kernel_rfl)
            refine A7 (Ae rfl rfl rfl Au rfl rfl (zlb rfl)) rfl ?_
            refine Ai S8_1111 2 (.cons rfl (.cons rfl .nil))
          have S8_1100 : JA Try.prog ops1 2 #[true, true, false, false] Γ ([(43, (qt y1)), (44, (qt y2))] ++ F0) [(oqf 0 v), (oqf 0 w), (oqm 0), (oqm 0), (oqo 1 9 s1), (oqo 1 14 s2), (oqt 0 0), (oqt 0 y1), ⟨79, 1, 0, false, []⟩, (oqr s1), (oqt 0 (wq 4 v w)), (oqo 0 9 s1), (oqt 0 y1), ⟨79, 1, 0, false, []⟩, (oqr s2), (oqt 0 (wq 4 w s1)), (oqo 0 14 s2), (oqt 0 y2)] Q1 := by
            subst ho; subst hF
            refine Bb 2 ?_ rfl (by kernel_rfl)
            refine A7 (Ae rfl rfl rfl Au rfl rfl (zlb rfl)) rfl ?_
            refine Ai S8_1110 2 (.cons rfl (.cons rfl .nil))
          have S8_1010 : JA Try.prog ops1 2 #[true, false, true, false] Γ ([(43, (qt y1))] ++ F0) [(oqf 0 v), (oqf 0 w), (oqm 0), (oqm 0), (oqo 1 9 s1), (oqo 1 14 s2), (oqt 0 y1), (oqt 0 y1), ⟨79, 1, 0, false, []⟩, (oqr s1), (oqt 0 (wq 4 v w)), (oqo 0 9 s1), (oqt 0 y1), ⟨79, 1, 0, false, []⟩, (oqr s2), (oqt 0 (wq 4 w s1)), (oqo 0 14 s2), (oqt 0 y2)] Q1 := by
            subst ho; subst hF; refine Bz 1 [3] (Ao (Ah Aq rfl rfl rfl rfl) (hd 44 rfl)) rfl (by kernel_rfl) (by kernel_rfl) (by kernel_rfl) (by kernel_rfl) hpan ?_
            refine Ai S8_1110 2 (.cons rfl (.cons rfl .nil))
          have S8_1000 : JA Try.prog ops1 3 #[true, false, false, false] Γ ([(43, (qt y1))] ++ F0) [(oqf 0 v), (oqf 0 w), (oqm 0), (oqm 0), (oqo 1 9 s1), (oqo 1 14 s2), (oqt 0 0), (oqt 0 y1), ⟨79, 1, 0, false, []⟩, (oqr s1), (oqt 0 (wq 4 v w)), (oqo 0 9 s1), (oqt 0 y1), ⟨79, 1, 0, false, []⟩, (oqr s2), (oqt 0 (wq 4 w s1)), (oqo 0 14 s2), (oqt 0 y2)] Q1 := by
            subst ho; subst hF
            refine Ct 1 2 ?_ ?_ rfl rfl (by kernel_rfl)
            · refine C4 (Ah Aq rfl rfl rfl rfl) (hd 44 rfl) ?_
              refine Ai S8_1100 2 (.cons rfl (.cons rfl .nil))
            · refine A7 (Ae rfl rfl rfl Au rfl rfl (zlb rfl)) rfl ?_
              refine Ai S8_1010 1 (.cons rfl .nil)
          have S8_0000 : JA Try.prog ops1 4 #[false, false, false, false] Γ ([] ++ F0) [(oqf 0 v), (oqf 0 w), (oqm 0), (oqm 0), (oqo 1 9 s1), (oqo 1 14 s2), (oqt 0 0), (oqt 0 y1), ⟨79, 1, 0, false, []⟩, (oqr s1), (oqt 0 (wq 4 v w)), (oqo 0 9 s1), (oqt 0 y1), ⟨79, 1, 0, false, []⟩, (oqr s2), (oqt 0 (wq 4 w s1)), (oqo 0 14 s2), (oqt 0 y2)] Q1 := by
            subst ho; subst hF; refine Bz 0 [2, 3] (Ao (Ah Aq rfl rfl rfl rfl) (hd 43 rfl)) rfl (by kernel_rfl) (by kernel_rfl) (by kernel_rfl) (by kernel_rfl) hpan ?_
            refine Ai S8_1000 1 (.cons rfl .nil)
          subst ho; subst hF
          exact D2 (m := []) (by decide) rfl (Ba 0 rfl rfl .nil) S8_0000
        have S5_1110 : JA Try.prog ops1 1 #[true, true, true, false] Γ ([(29, (qo 9 s1)), (30, (qo 14 s2))] ++ F0) [(oqf 0 v), (oqf 0 w), (oqm 0), (oqm 0), (oqo 1 9 s1), (oqo 1 9 s1), (oqt 0 0), (oqt 0 y1), ⟨79, 1, 0, false, []⟩, (oqr s1), (oqt 0 (wq 4 v w)), (oqo 0 9 s1), (oqt 0 y1), ⟨79, 1, 0, false, []⟩, (oqr s2), (oqt 0 (wq 4 w s1)), (oqo 0 14 s2)] Q1 := by
          subst ho; subst hF
          refine Bb 3 ?_ rfl (by kernel_rfl)
          refine A7 (Ae rfl rfl rfl Au rfl rfl (zlb rfl)) rfl ?_
          refine Ai S5_1111 2 (.cons rfl (.cons rfl .nil))
        have S5_1100 : JA Try.prog ops1 2 #[true, true, false, false] Γ ([(29, (qo 9 s1)), (30, (qo 14 s2))] ++ F0) [(oqf 0 v), (oqf 0 w), (oqm 0), (oqm 0), (oqf 1 w), (oqo 1 9 s1), (oqt 0 0), (oqt 0 y1), ⟨79, 1, 0, false, []⟩, (oqr s1), (oqt 0 (wq 4 v w)), (oqo 0 9 s1), (oqt 0 y1), ⟨79, 1, 0, false, []⟩, (oqr s2), (oqt 0 (wq 4 w s1)), (oqo 0 14 s2)] Q1 := by
          subst ho; subst hF
          refine Bb 2 ?_ rfl (by kernel_rfl)
          refine A7 (Ae rfl rfl rfl Au rfl rfl (zlb rfl)) rfl ?_
          refine Ai S5_1110 2 (.cons rfl (.cons rfl .nil))
        have S5_1010 : JA Try.prog ops1 2 #[true, false, true, false] Γ ([(29, (qo 9 s1))] ++ F0) [(oqf 0 v), (oqf 0 w), (oqm 0), (oqm 0), (oqo 1 9 s1), (oqo 1 9 s1), (oqt 0 0), (oqt 0 y1), ⟨79, 1, 0, false, []⟩, (oqr s1), (oqt 0 (wq 4 v w)), (oqo 0 9 s1), (oqt 0 y1), ⟨79, 1, 0, false, []⟩, (oqr s2), (oqt 0 (wq 4 w s1)), (oqo 0 14 s2)] Q1 := by
          subst ho; subst hF; refine Bz 1 [3] (Ao (Ah Aq rfl rfl rfl rfl) (hd 30 rfl)) rfl (by kernel_rfl) (by kernel_rfl) (by kernel_rfl) (by kernel_rfl) hpan ?_
          refine Ai S5_1110 2 (.cons rfl (.cons rfl .nil))
        have S5_1000 : JA Try.prog ops1 3 #[true, false, false, false] Γ ([(29, (qo 9 s1))] ++ F0) [(oqf 0 v), (oqf 0 w), (oqm 0), (oqm 0), (oqf 1 w), (oqo 1 9 s1), (oqt 0 0), (oqt 0 y1), ⟨79, 1, 0, false, []⟩, (oqr s1), (oqt 0 (wq 4 v w)), (oqo 0 9 s1), (oqt 0 y1), ⟨79, 1, 0, false, []⟩, (oqr s2), (oqt 0 (wq 4 w s1)), (oqo 0 14 s2)] Q1 := by
          subst ho; subst hF
          refine Ct 1 2 ?_ ?_ rfl rfl (by kernel_rfl)
          · refine C4 (Ah Aq rfl rfl rfl rfl) (hd 30 rfl) ?_
            refine Ai S5_1100 2 (.cons rfl (.cons rfl .nil))
          · refine A7 (Ae rfl rfl rfl Au rfl rfl (zlb rfl)) rfl ?_
            refine Ai S5_1010 1 (.cons rfl .nil)
        have S5_0000 : JA Try.prog ops1 4 #[false, false, false, false] Γ ([] ++ F0) [(oqf 0 v), (oqf 0 w), (oqm 0), (oqm 0), (oqf 1 w), (oqo 1 9 s1), (oqt 0 0), (oqt 0 y1), ⟨79, 1, 0, false, []⟩, (oqr s1), (oqt 0 (wq 4 v w)), (oqo 0 9 s1), (oqt 0 y1), ⟨79, 1, 0, false, []⟩, (oqr s2), (oqt 0 (wq 4 w s1)), (oqo 0 14 s2)] Q1 := by
          subst ho; subst hF; refine Bz 0 [2, 3] (Ao (Ah Aq rfl rfl rfl rfl) (hd 29 rfl)) rfl (by kernel_rfl) (by kernel_rfl) (by kernel_rfl) (by kernel_rfl) hpan ?_
          refine Ai S5_1000 1 (.cons rfl .nil)
        subst ho; subst hF
        exact D2 (m := []) (by decide) rfl (Ba 0 rfl rfl .nil) S5_0000
      have S8_1110 : JA Try.prog ops1 1 #[true, true, true, false] Γ ([(43, (qt 0)), (44, (qt y1))] ++ F0) [(oqf 0 v), (oqf 0 w), (oqm 0), (oqm 0), (oqf 1 w), (oqo 1 9 s1), (oqt 0 0), (oqt 0 0), ⟨79, 1, 0, false, []⟩, (oqr s1), (oqt 0 (wq 4 v w)), (oqo 0 9 s1), (oqt 0 y1)] Q1 := by
        subst ho; subst hF
        refine Bb 3 ?_ rfl (by kernel_rfl)
        refine A7 (Ae rfl rfl rfl Au rfl rfl (zlb rfl)) rfl ?_
        refine Ai S8_1111 2 (.cons rfl (.cons rfl .nil))
      have S8_1100 : JA Try.prog ops1 2 #[true, true, false, false] Γ ([(43, (qt 0)), (44, (qt y1))] ++ F0) [(oqf 0 v), (oqf 0 w), (oqm 0), (oqm 0), (oqf 1 w), (oqo 1 9 s1), (oqt 0 1), (oqt 0 0), ⟨79, 1, 0, false, []⟩, (oqr s1), (oqt 0 (wq 4 v w)), (oqo 0 9 s1), (oqt 0 y1)] Q1 := by
        subst ho; subst hF
        refine Bb 2 ?_ rfl (by kernel_rfl)
        refine A7 (Ae rfl rfl rfl Au rfl rfl (zlb rfl)) rfl ?_
        refine Ai S8_1110 2 (.cons rfl (.cons rfl .nil))
      have S8_1010 : JA Try.prog ops1 2 #[true, false, true, false] Γ ([(43, (qt 0))] ++ F0) [(oqf 0 v), (oqf 0 w), (oqm 0), (oqm 0), (oqf 1 w), (oqo 1 9 s1), (oqt 0 0), (oqt 0 0), ⟨79, 1, 0, false, []⟩, (oqr s1), (oqt 0 (wq 4 v w)), (oqo 0 9 s1), (oqt 0 y1)] Q1 := by
        subst ho; subst hF; refine Bz 1 [3] (Ao (Ah Aq rfl rfl rfl rfl) (hd 44 rfl)) rfl (by kernel_rfl) (by kernel_rfl) (by kernel_rfl) (by kernel_rfl) hpan ?_
        refine Ai S8_1110 2 (.cons rfl (.cons rfl .nil))
      have S8_1000 : JA Try.prog ops1 3 #[true, false, false, false] Γ ([(43, (qt 0))] ++ F0) [(oqf 0 v), (oqf 0 w), (oqm 0), (oqm 0), (oqf 1 w), (oqo 1 9 s1), (oqt 0 1), (oqt 0 0), ⟨79, 1, 0, false, []⟩, (oqr s1), (oqt 0 (wq 4 v w)), (oqo 0 9 s1), (oqt 0 y1)] Q1 := by
        subst ho; subst hF
        refine Ct 1 2 ?_ ?_ rfl rfl (by kernel_rfl)
        · refine C4 (Ah Aq rfl rfl rfl rfl) (hd 44 rfl) ?_
          refine Ai S8_1100 2 (.cons rfl (.cons rfl .nil))
        · refine A7 (Ae rfl rfl rfl Au rfl rfl (zlb rfl)) rfl ?_
          refine Ai S8_1010 1 (.cons rfl .nil)
      have S8_0000 : JA Try.prog ops1 4 #[false, false, false, false] Γ ([] ++ F0) [(oqf 0 v), (oqf 0 w), (oqm 0), (oqm 0), (oqf 1 w), (oqo 1 9 s1), (oqt 0 1), (oqt 0 0), ⟨79, 1, 0, false, []⟩, (oqr s1), (oqt 0 (wq 4 v w)), (oqo 0 9 s1), (oqt 0 y1)] Q1 := by
        subst ho; subst hF; refine Bz 0 [2, 3] (Ao (Ah Aq rfl rfl rfl rfl) (hd 43 rfl)) rfl (by kernel_rfl) (by kernel_rfl) (by kernel_rfl) (by kernel_rfl) hpan ?_
        refine Ai S8_1000 1 (.cons rfl .nil)
      subst ho; subst hF
      exact D2 (m := []) (by decide) rfl (Ba 0 rfl rfl .nil) S8_0000
    have S5_1110 : JA Try.prog ops1 1 #[true, true, true, false] Γ ([(29, (qf w)), (30, (qo 9 s1))] ++ F0) [(oqf 0 v), (oqf 0 w), (oqm 0), (oqm 0), (oqf 1 w), (oqf 1 w), (oqt 0 1), (oqt 0 0), ⟨79, 1, 0, false, []⟩, (oqr s1), (oqt 0 (wq 4 v w)), (oqo 0 9 s1)] Q1 := by
      subst ho; subst hF
      refine Bb 3 ?_ rfl (by kernel_rfl)
      refine A7 (Ae rfl rfl rfl Au rfl rfl (zlb rfl)) rfl ?_
      refine Ai S5_1111 2 (.cons rfl (.cons rfl .nil))
    have S5_1100 : JA Try.prog ops1 2 #[true, true, false, false] Γ ([(29, (qf w)), (30, (qo 9 s1))] ++ F0) [(oqf 0 v), (oqf 0 w), (oqm 0), (oqm 0), (oqf 1 v), (oqf 1 w), (oqt 0 1), (oqt 0 0), ⟨79, 1, 0, false, []⟩, (oqr s1), (oqt 0 (wq 4 v w)), (oqo 0 9 s1)] Q1 := by
      subst ho; subst hF
      refine Bb 2 ?_ rfl (by kernel_rfl)
      refine A7 (Ae rfl rfl rfl Au rfl rfl (zlb rfl)) rfl ?_
      refine Ai S5_1110 2 (.cons rfl (.cons rfl .nil))
    have S5_1010 : JA Try.prog ops1 2 #[true, false, true, false] Γ ([(29, (qf w))] ++ F0) [(oqf 0 v), (oqf 0 w), (oqm 0), (oqm 0), (oqf 1 w), (oqf 1 w), (oqt 0 1), (oqt 0 0), ⟨79, 1, 0, false, []⟩, (oqr s1), (oqt 0 (wq 4 v w)), (oqo 0 9 s1)] Q1 := by
      subst ho; subst hF; refine Bz 1 [3] (Ao (Ah Aq rfl rfl rfl rfl) (hd 30 rfl)) rfl (by kernel_rfl) (by kernel_rfl) (by kernel_rfl) (by kernel_rfl) hpan ?_
      refine Ai S5_1110 2 (.cons rfl (.cons rfl .nil))
    have S5_1000 : JA Try.prog ops1 3 #[true, false, false, false] Γ ([(29, (qf w))] ++ F0) [(oqf 0 v), (oqf 0 w), (oqm 0), (oqm 0), (oqf 1 v), (oqf 1 w), (oqt 0 1), (oqt 0 0), ⟨79, 1, 0, false, []⟩, (oqr s1), (oqt 0 (wq 4 v w)), (oqo 0 9 s1)] Q1 := by
      subst ho; subst hF
      refine Ct 1 2 ?_ ?_ rfl rfl (by kernel_rfl)
      · refine C4 (Ah Aq rfl rfl rfl rfl) (hd 30 rfl) ?_
        refine Ai S5_1100 2 (.cons rfl (.cons rfl .nil))
      · refine A7 (Ae rfl rfl rfl Au rfl rfl (zlb rfl)) rfl ?_
        refine Ai S5_1010 1 (.cons rfl .nil)
    have S5_0000 : JA Try.prog ops1 4 #[false, false, false, false] Γ ([] ++ F0) [(oqf 0 v), (oqf 0 w), (oqm 0), (oqm 0), (oqf 1 v), (oqf 1 w), (oqt 0 1), (oqt 0 0), ⟨79, 1, 0, false, []⟩, (oqr s1), (oqt 0 (wq 4 v w)), (oqo 0 9 s1)] Q1 := by
      subst ho; subst hF; refine Bz 0 [2, 3] (Ao (Ah Aq rfl rfl rfl rfl) (hd 29 rfl)) rfl (by kernel_rfl) (by kernel_rfl) (by kernel_rfl) (by kernel_rfl) hpan ?_
      refine Ai S5_1000 1 (.cons rfl .nil)
    subst ho; subst hF
    exact D2 (m := []) (by decide) rfl (Ba 0 rfl rfl .nil) S5_0000
  have S1_111110 : JA Try.prog ops1 1 #[true, true, true, true, true, false] Γ ([(6, .p 4 1 0), (7, .p 5 1 0), (15, (qf v)), (16, (qf w))] ++ F0) [(oqf 0 v), (oqf 0 w), (oqm 0), (oqm 0), (oqf 1 v), (oqm 1)] Q1 := by
    subst ho; subst hF
    refine Bb 5 ?_ rfl (by kernel_rfl)
    refine A7 (Ae rfl rfl rfl Au rfl rfl (zlb rfl)) rfl ?_
    refine Ai S1_111111 4 (.cons rfl (.cons rfl (.cons rfl (.cons rfl .nil))))
  have S1_111100 : JA Try.prog ops1 2 #[true, true, true, true, false, false] Γ ([(6, .p 4 1 0), (7, .p 5 1 0), (15, (qf v)), (16, (qf w))] ++ F0) [(oqf 0 v), (oqf 0 w), (oqm 0), (oqm 0), (oqm 1), (oqm 1)] Q1 := by
    subst ho; subst hF
    refine Bb 4 ?_ rfl (by kernel_rfl)
    refine A7 (Ae rfl rfl rfl Au rfl rfl (zlb rfl)) rfl ?_
    refine Ai S1_111110 4 (.cons rfl (.cons rfl (.cons rfl (.cons rfl .nil))))
  have S1_111000 : JA Try.prog ops1 3 #[true, true, true, false, false, false] Γ ([(6, .p 4 1 0), (15, (qf v)), (16, (qf w))] ++ F0) [(oqf 0 v), (oqf 0 w), (oqm 0), (oqm 0), (oqm 1), oqh] Q1 := by
    subst ho; subst hF
    refine Bb 3 ?_ rfl (by kernel_rfl)
    refine Cw (A6 (id := 5) At (by decide) rfl (by decide) rfl) (hd 7 rfl) ?_
    refine Ai S1_111100 4 (.cons rfl (.cons rfl (.cons rfl (.cons rfl .nil))))
  have S1_110100 : JA Try.prog ops1 3 #[true, true, false, true, false, false] Γ ([(7, .p 5 1 0), (15, (qf v)), (16, (qf w))] ++ F0) [(oqf 0 v), (oqf 0 w), (oqm 0), (oqm 0), oqh, (oqm 1)] Q1 := by
    subst ho; subst hF
    refine Bb 2 ?_ rfl (by kernel_rfl)
    refine Cw (A6 (id := 4) At (by decide) rfl (by decide) rfl) (hd 6 rfl) ?_
    refine Ai S1_111100 4 (.cons rfl (.cons rfl (.cons rfl (.cons rfl .nil))))
  have S1_110000 : JA Try.prog ops1 4 #[true, true, false, false, false, false] Γ ([(15, (qf v)), (16, (qf w))] ++ F0) [(oqf 0 v), (oqf 0 w), (oqm 0), (oqm 0), oqh, oqh] Q1 := by
    subst ho; subst hF
    refine Ct 2 3 ?_ ?_ rfl rfl (by kernel_rfl)
    · refine Cw (A6 (id := 4) At (by decide) rfl (by decide) rfl) (hd 6 rfl) ?_
      refine Ai S1_111000 3 (.cons rfl (.cons rfl (.cons rfl .nil)))
    · refine Cw (A6 (id := 5) At (by decide) rfl (by decide) rfl) (hd 7 rfl) ?_
      refine Ai S1_110100 3 (.cons rfl (.cons rfl (.cons rfl .nil)))
  have S1_101110 : JA Try.prog ops1 2 #[true, false, true, true, true, false] Γ ([(6, .p 4 1 0), (7, .p 5 1 0), (15, (qf v))] ++ F0) [(oqf 0 v), (oqf 0 w), (oqm 0), (oqm 0), (oqf 1 v), (oqm 1)] Q1 := by
    subst ho; subst hF; refine Bz 1 [5] (Ao (Ah Aq rfl rfl rfl rfl) (hd 16 rfl)) rfl (by kernel_rfl) (by kernel_rfl) (by kernel_rfl) (by kernel_rfl) hpan ?_
    refine Ai S1_111110 4 (.cons rfl (.cons rfl (.cons rfl (.cons rfl .nil))))
  have S1_101100 : JA Try.prog ops1 3 #[true, false, true, true, false, false] Γ ([(6, .p 4 1 0), (7, .p 5 1 0), (15, (qf v))] ++ F0) [(oqf 0 v), (oqf 0 w), (oqm 0), (oqm 0), (oqm 1), (oqm 1)] Q1 := by
    subst ho; subst hF
    refine Ct 1 4 ?_ ?_ rfl rfl (by kernel_rfl)
    · refine C4 (Ah Aq rfl rfl rfl rfl) (hd 16 rfl) ?_
      refine Ai S1_111100 4 (.cons rfl (.cons rfl (.cons rfl (.cons rfl .nil))))
    · refine A7 (Ae rfl rfl rfl Au rfl rfl (zlb rfl)) rfl ?_
      refine Ai S1_101110 3 (.cons rfl (.cons rfl (.cons rfl .nil)))
  have S1_101000 : JA Try.prog ops1 4 #[true, false, true, false, false, false] Γ ([(6, .p 4 1 0), (15, (qf v))] ++ F0) [(oqf 0 v), (oqf 0 w), (oqm 0), (oqm 0), (oqm 1), oqh] Q1 := by
    subst ho; subst hF
    refine Ct 1 3 ?_ ?_ rfl rfl (by kernel_rfl)
    · refine C4 (Ah Aq rfl rfl rfl rfl) (hd 16 rfl) ?_
      refine Ai S1_111000 3 (.cons rfl (.cons rfl (.cons rfl .nil)))
    · refine Cw (A6 (id := 5) At (by decide) rfl (by decide) rfl) (hd 7 rfl) ?_
      refine Ai S1_101100 3 (.cons rfl (.cons rfl (.cons rfl .nil)))
  have S1_100100 : JA Try.prog ops1 4 #[true, false, false, true, false, false] Γ ([(7, .p 5 1 0), (15, (qf v))] ++ F0) [(oqf 0 v), (oqf 0 w), (oqm 0), (oqm 0), oqh, (oqm 1)] Q1 := by
    subst ho; subst hF
    refine Ct 1 2 ?_ ?_ rfl rfl (by kernel_rfl)
    · refine C4 (Ah Aq rfl rfl rfl rfl) (hd 16 rfl) ?_
      refine Ai S1_110100 3 (.cons rfl (.cons rfl (.cons rfl .nil)))
    · refine Cw (A6 (id := 4) At (by decide) rfl (by decide) rfl) (hd 6 rfl) ?_
      refine Ai S1_101100 3 (.cons rfl (.cons rfl (.cons rfl .nil)))
  have S1_100000 : JA Try.prog ops1 5 #[true, false, false, false, false, false] Γ ([(15, (qf v))] ++ F0) [(oqf 0 v), (oqf 0 w), (oqm 0), (oqm 0), oqh, oqh] Q1 := by
    subst ho; subst hF
    refine Rc 1 2 3 ?_ ?_ ?_ rfl rfl rfl (by kernel_rfl)
    · refine C4 (Ah Aq rfl rfl rfl rfl) (hd 16 rfl) ?_
      refine Ai S1_110000 2 (.cons rfl (.cons rfl .nil))
    · refine Cw (A6 (id := 4) At (by decide) rfl (by decide) rfl) (hd 6 rfl) ?_
      refine Ai S1_101000 2 (.cons rfl (.cons rfl .nil))
    · refine Cw (A6 (id := 5) At (by decide) rfl (by decide) rfl) (hd 7 rfl) ?_
      refine Ai S1_100100 2 (.cons rfl (.cons rfl .nil))
  have S1_000000 : JA Try.prog ops1 6 #[false, false, false, false, false, false] Γ ([] ++ F0) [(oqf 0 v), (oqf 0 w), (oqm 0), (oqm 0), oqh, oqh] Q1 := by
    subst ho; subst hF; refine Bz 0 [4, 5] (Ao (Ah Aq rfl rfl rfl rfl) (hd 15 rfl)) rfl (by kernel_rfl) (by kernel_rfl) (by kernel_rfl) (by kernel_rfl) hpan ?_
    refine Ai S1_100000 1 (.cons rfl .nil)
  subst ho; subst hF
  exact D2 (m := []) (by decide) rfl (Ba 0 rfl rfl .nil) S1_000000

theorem Aaw  : Spec Try.prog 63 [.i .u64 0] (fun o => o = .ret (.c (.slice none 0 0))) := by
  refine Az [(0, .i .u64 0)] rfl Try.func63 rfl (zlb rfl) fun Γ hN hds hL hR => ?_
  have hd := B5 7 hN
  refine zsr <| zas rfl (hd 2 rfl) <| Ab <| Af <| zsr <| zmv rfl (hd 3 rfl) <| Ac (Ft (Dy rfl rfl) rfl) (hd 4 rfl) <| Ab <| Dm rfl <| Af <| Ag ?_; refine zas rfl (hd 2 rfl) <| Ab <| As ?_
  refine ⟨_, _, (.cons rfl .nil), .c, ?_⟩
  exact rfl

theorem Ae3  : Spec Try.prog 35 [.i .i64 0] (fun o => o = .ret (.a [.b false, .c (.slice none 0 0)])) := by
  refine Az [(0, .i .i64 0)] rfl Try.func35 rfl (zlb rfl) fun Γ hN hds hL hR => ?_
  have hd := B5 14 hN
  refine zsr <| Ay (An (id := 0) At (by decide) rfl (by decide) rfl) (hd 2 rfl) <| Ab <| Af <| zsr <| zmv rfl (hd 3 rfl) <| Ac (Cd (Ch rfl rfl) (by decide)) (hd 4 rfl) <| Ab <| Bl rfl <| Am <| Af ?_; refine Ag <| zmv rfl (hd 10 rfl) <| Ac (B0 (D1 Mt H7 rfl (r := 0) rfl) (show V.i .u64 _ = V.i .u64 0 from rfl)) (hd 11 rfl) ?_
  refine Aj Try.f63 (Aaw) rfl Try.func63 rfl rfl (Aa rfl Ad) (.cons .i .nil) (hd 12 rfl) ?_ (fun ch hp => by simp at hp)
  rintro _ ⟨⟩; refine Ac (B3 (is := [1]) (xs := [.tmp 12]) At F1 rfl (Aa rfl Ad) rfl (by first | (simp [Ck, cellsV]; done) | (simp [Ck, cellsV, old]; done)) (Cj rfl) rfl) (hd 13 rfl) <| A1 (Ae rfl rfl rfl Au rfl rfl (zlb rfl)) <| Ab <| As ?_
  refine ⟨_, _, (.cons (ResV.cell Aq rfl rfl rfl rfl) .nil), (.a1 .b (.a1 .c .a0)), ?_⟩
  exact rfl

theorem Ot (s t : Bool) (a b : List Int) (hla : a.length < 4294967296) (hlb : b.length < 4294967296) (ua : A3 a) (ub : A3 b) (hf : Bm (sv s a - sv t b) ≤ 67108864) : SpecM Try.prog 42 [.a [.b s, .n false .u64 a], .a [.b t, .n false .u64 b]] [] (fun o G => o = .ret (.t [.a [.b (decide ((sv s a - sv t b) < 0)), .o 0 0 0 (lm (sv s a - sv t b)).length], .i .i64 0]) ∧ G = [⟨79, 1, 0, true, A2 .u64 (lm (sv s a - sv t b))⟩]) :=
  (Adp s t a b hla hlb ua ub).mono fun o G ⟨s2, r, e, ho, hG, hR⟩ => by
    rcases hR with ⟨_, h1, h2, h3⟩ | ⟨h, _⟩
    · subst h1; subst h2; subst h3; exact ⟨ho, hG⟩
    · omega

theorem Q6 (v w : Int) (ha : Bm v ≤ 67108800) (hb : Bm w ≤ 67108800) (h0 : w ≠ 0) (hdv : w ∣ v) (hw0 : 0 < w) : SpecM Try.prog 37 [.a [.b (decide (v < 0)), .n false .u64 (lm v)], .a [.b (decide (w < 0)), .o 0 0 0 (lm w).length]] ([⟨79, 1, 0, true, A2 .u64 (lm w)⟩]) (fun o G => o = .ret (.t [.a [.b (decide (w < 0)), .o 0 0 0 (lm w).length], .a [.b false, .c (.slice none 0 0)]]) ∧ G = [⟨79, 1, 0, true, A2 .u64 (lm w)⟩]) := by
  refine Jq [(0, .a [.b (decide (v < 0)), .n false .u64 (lm v)]), (1, .a [.b (decide (w < 0)), .o 0 0 0 (lm w).length])] rfl (1) rfl Try.func37 rfl (zlb rfl) fun Γ hN hds => ?_
  have hd := B5 54 hN
  have hC1 := Aaz (a := v) (b := w) h0
  obtain ⟨y1, ey1⟩ : ∃ y1 : Int, y1 = 1 - wq 4 v w * 0 := ⟨_, rfl⟩
  obtain ⟨s1, es1⟩ : ∃ s1 : Int, s1 = v % w := ⟨_, rfl⟩
  have hlr1 : Bm v ≤ 67108800 := Ha hC1.br (by omega) (by omega)
  have hls1 : Bm w ≤ 67108800 := Nat.le_trans (A5 hC1.bs) (by omega)
  have hly1 := A5 hC1.by_
  have hlx1 := A5 hC1.bx
  have hmr1 := Bf (v := v) (by omega)
  have hms1 := Bf (v := w) (by omega)
  have hmy1 := Bf (v := 0) (by omega)
  have hmx1 := Bf (v := 1) (by omega)
  have hq1 := euc (v := v) h0
  have hN1 := hC1.next h0 h0 hq1
  rw [← es1, ← ey1] at hN1
  have hlyn1 := A5 hN1.by_
  have hqy1 : Bm ((wq 4 v w) * 0) ≤ Bm w + 1 := G8 (by have h1 := hN1.by_; have h2 := hC1.bx; rw [ey1] at h1; omega)
  have hwl1 := Hi (k := 4) (v := v) h0
  have hlq1 := Bf (v := (wq 4 v w)) (by omega)
  have hlqy1 := Bf (v := ((wq 4 v w) * 0)) (by omega)
  have hlR1 := A5 hN1.bs
  have hSg1 : Spec Try.prog 36 [.a [.b (decide (w < 0)), .n false .u64 (lm w)]] (fun o => o = .ret (.i .i64 (Cb w))) := Ec w (by omega)
  have hs1 : s1 = 0 := by rw [es1]; exact Int.emod_eq_zero_of_dvd hdv
  subst hs1
  have hSz : Spec Try.prog 36 [.a [.b (decide (0 < 0)), .n false .u64 (lm 0)]] (fun o => o = .ret (.i .i64 (Cb 0))) := Ec 0 (by rw [Xt]; decide)
  have hSr : Spec Try.prog 36 [.a [.b (decide (w < 0)), .n false .u64 (lm w)]] (fun o => o = .ret (.i .i64 (Cb w))) := Ec w (by omega)
  have hw1 : 0 < (lm w).length := Nat.pos_of_ne_zero fun e => Nb h0 (List.eq_nil_of_length_eq_zero e)
  have hEu1 : SpecM Try.prog 39 [.a [.b (decide (v < 0)), .n false .u64 (lm v)], .a [.b (decide (w < 0)), .n false .u64 (lm w)]] [] (fun o G => o = .ret (.t [.a [.b (decide ((wq 4 v w) < 0)), .o 0 0 0 (lm (wq 4 v w)).length], .a [.b (decide (0 < 0)), .o 1 0 0 (lm 0).length], .i .i64 0]) ∧ G = [⟨79, 1, 0, true, A2 .u64 (lm (wq 4 v w))⟩, ⟨79, 1, 0, true, A2 .u64 (lm 0)⟩]) := by
    have h := Gj (decide (v < 0)) (decide (w < 0)) (lm v) (lm w) v w (by omega) (by omega) (Cq _) (Cq _) (Cn _) (Cn _) (by omega) (by omega) h0
    rwa [hq1, ← es1] at h
  have hMu1 : SpecM Try.prog 40 [.a [.b (decide ((wq 4 v w) < 0)), .n false .u64 (lm (wq 4 v w))], .a [.b false, .n false .u64 []]] [] (fun o G => o = .ret (.t [.a [.b (decide (((wq 4 v w) * 0) < 0)), .o 0 0 0 (lm ((wq 4 v w) * 0)).length], .i .i64 0]) ∧ G = [⟨79, 1, 0, true, A2 .u64 (lm ((wq 4 v w) * 0))⟩]) := by
    have h := Ov (decide ((wq 4 v w) < 0)) false (lm (wq 4 v w)) [] (by omega) (by decide) (Cq _) (fun x hx => by cases hx) (by rw [Cn]; exact Nat.le_trans hqy1 (by omega))
    rwa [Cn, show sv false [] = 0 from rfl] at h
  have hSu1 : SpecM Try.prog 42 [.a [.b (decide (1 < 0)), .n false .u64 (lm 1)], .a [.b (decide (((wq 4 v w) * 0) < 0)), .n false .u64 (lm ((wq 4 v w) * 0))]] [] (fun o G => o = .ret (.t [.a [.b (decide (y1 < 0)), .o 0 0 0 (lm y1).length], .i .i64 0]) ∧ G = [⟨79, 1, 0, true, A2 .u64 (lm y1)⟩]) := by
    have h := Ot (decide ((1 : Int) < 0)) (decide (((wq 4 v w) * 0) < 0)) (lm 1) (lm ((wq 4 v w) * 0)) (by omega) (by omega) (Cq _) (Cq _) (by rw [Cn, Cn, ← ey1]; exact Nat.le_trans hlyn1 (by omega))
    rwa [Cn, Cn, ← ey1] at h
  have hOz : Spec Try.prog 35 [.i .i64 0] (fun o => o = .ret (.a [.b false, .c (.slice none 0 0)])) := Ae3
  refine zsr <| Ay (Br (id := 1) (n := 2) rfl rfl rfl (by decide) rfl) (hd 2 rfl) <| Ay (Br (id := 2) (n := 2) rfl rfl rfl (by decide) rfl) (hd 3 rfl) <| Ay (An (id := 3) At (by decide) rfl (by decide) rfl) (hd 4 rfl) <| Ay (An (id := 4) At (by decide) rfl (by decide) rfl) (hd 5 rfl) <| Ab <| Af <| G0 2 _ <| Be (n := 6) _ rfl B2 ?_; refine Db (fun _ _ _ _ h => h) fun ops1 Q1 F0 hpan ho hq hF => ?_
  have S1_111111 : JA Try.prog ops1 0 #[true, true, true, true, true, true] Γ ([(6, .p 5 1 0), (7, .p 6 1 0), (15, (qf v)), (16, (qo 0 w))] ++ F0) [(oqr w), (oqf 0 v), (oqo 0 0 w), (oqm 0), (oqm 0), (oqf 1 v), (oqo 1 0 w)] Q1 := by
    subst ho; subst hq; subst hF; refine Bi (by kernel_rfl) <| Af <| Ag ?_
    refine Aj Try.f35 (Wz 1 (by unfold inI; omega)) rfl Try.func35 rfl rfl (Aa rfl Ad) (.cons .i .nil) (hd 17 rfl) ?_ (fun ch hp => by simp at hp)
    rintro y hy; injection hy with hy; subst hy
    refine Aj Try.f35 (hOz) rfl Try.func35 rfl rfl (Aa rfl Ad) (.cons .i .nil) (hd 18 rfl) ?_ (fun ch hp => by simp at hp)
    rintro _ ⟨⟩; refine Ay (An (id := 7) At (by decide) rfl (by decide) rfl) (hd 8 rfl) <| Ay (An (id := 8) At (by decide) rfl (by decide) rfl) (hd 9 rfl) <| A1 (Ae rfl rfl rfl Au rfl rfl (zlb rfl)) <| A1 (Ae rfl rfl rfl Au rfl rfl (zlb rfl)) <| Ab <| Af <| Aw <| Km 2 <| He (n := 1) <| Af <| zsr <| Ac (Ah Aq rfl rfl rfl rfl) (hd 19 rfl) ?_
    refine Kl Try.f36 (hSg1) rfl Try.func36 rfl rfl (Aa rfl Ad) (.a1 (.a1 .b (.a1 (.o rfl (by simp) (by rw [List.drop_zero, List.take_length])) .a0)) .a0) (.cons (.a1 .b (.a1 .n .a0)) .nil) (fun y hy => by injection hy with hy; subst hy; rfl) (hd 20 rfl) ?_ (fun ch hp => by simp at hp)
    rintro _ ⟨⟩; refine Ac (Ft (Cm rfl rfl) (fun h => h0 (Ex.1 h))) (hd 21 rfl) <| Ab <| Dm rfl <| Am <| Aw <| zsr <| Ac (Ah Aq rfl rfl rfl rfl) (hd 23 rfl) <| Ac (Ah Aq rfl rfl rfl rfl) (hd 24 rfl) ?_
    refine Jd Try.f39 (hEu1) (fun o G ⟨_, h⟩ => h ▸ C1 Di (C1 Di Eg)) (fun y G ⟨hy, _⟩ => by injection hy with hy; subst hy; rfl) rfl Try.func39 rfl rfl (Aa rfl (Aa rfl Ad)) (.a1 (.a1 .b (.a1 .n .a0)) (.a1 (.a1 .b (.a1 (.o rfl (by simp) (by rw [List.drop_zero, List.take_length])) .a0)) .a0)) (.cons (.a1 .b (.a1 .n .a0)) (.cons (.a1 .b (.a1 .n .a0)) .nil)) (hd 25 rfl) ?_ (fun ch G hp => by simp at hp)
    rintro y G ⟨hy, rfl⟩; injection hy with hy; subst hy
    show JO _ _ _ _ ((25, .t [.a [.b (decide ((wq 4 v w) < 0)), .o 9 0 0 (lm (wq 4 v w)).length], .a [.b (decide (0 < 0)), .o 10 0 0 (lm 0).length], .i .i64 0]) :: _) _ _
    refine zmv rfl (hd 22 rfl) <| Ac (Ak rfl rfl) (hd 26 rfl) <| Ac (Ak rfl rfl) (hd 27 rfl) <| Ac (Ak rfl rfl) (hd 28 rfl) <| Ay (An (id := 11) At (by decide) rfl (by decide) rfl) (hd 10 rfl) <| Ay (An (id := 12) At (by decide) rfl (by decide) rfl) (hd 11 rfl) <| A1 (Ae rfl rfl rfl Au rfl rfl (zlb rfl)) <| A1 (Ae rfl rfl rfl Au rfl rfl (zlb rfl)) <| zas rfl (hd 12 rfl) <| Ab <| Af <| Cs (H' := [(oqr w), (oqf 0 v), (oqo 0 0 w), (oqm 0), (oqm 0), (oqf 1 v), (oqo 1 0 w), (oqt 0 1), (oqm 0), (oqr (wq 4 v w)), (oqr 0), (oqo 0 9 (wq 4 v w)), (oqo 0 10 0)]) rfl <| Be (n := 4) _ rfl B2 ?_; refine Db (fun _ _ _ _ h => h) fun ops1 Q1 F0 hpan ho hq hF => ?_
    have S5_1111 : JA Try.prog ops1 0 #[true, true, true, true] Γ ([(29, (qo 0 w)), (30, (qo 10 0))] ++ F0) [(oqr w), (oqf 0 v), (oqo 0 0 w), (oqm 0), (oqm 0), (oqo 1 0 w), (oqo 1 10 0), (oqt 0 1), (oqm 0), (oqr (wq 4 v w)), (oqr 0), (oqo 0 9 (wq 4 v w)), (oqo 0 10 0)] Q1 := by
      subst ho; subst hq; subst hF; refine Bi (by kernel_rfl) <| Af <| Cs (H' := [(oqr w), (oqf 0 v), (oqo 0 0 w), (oqm 0), (oqm 0), (oqo 1 0 w), (oqo 1 10 0), (oqt 0 1), (oqm 0), (oqr (wq 4 v w)), (oqr 0), (oqo 0 9 (wq 4 v w)), (oqo 0 10 0)]) rfl <| Ag <| Ac (Ah Aq rfl rfl rfl rfl) (hd 32 rfl) <| Ac (Ah Aq rfl rfl rfl rfl) (hd 33 rfl) ?_
      refine Jd Try.f40 (hMu1) (fun o G ⟨_, h⟩ => h ▸ C1 Di Eg) (fun y G ⟨hy, _⟩ => by injection hy with hy; subst hy; rfl) rfl Try.func40 rfl rfl (Aa rfl (Aa rfl Ad)) (.a1 (.a1 .b (.a1 (.o rfl (by simp) (by rw [List.drop_zero, List.take_length])) .a0)) (.a1 (.a1 .b (.a1 (.nil (fr := false) (k := .u64)) .a0)) .a0)) (.cons (.a1 .b (.a1 .n .a0)) (.cons (.a1 .b (.a1 .n .a0)) .nil)) (hd 34 rfl) ?_ (fun ch G hp => by simp at hp)
      rintro y G ⟨hy, rfl⟩; injection hy with hy; subst hy
      show JO _ _ _ _ ((34, .t [.a [.b (decide (((wq 4 v w) * 0) < 0)), .o 13 0 0 (lm ((wq 4 v w) * 0)).length], .i .i64 0]) :: _) _ _
      refine zmv rfl (hd 31 rfl) <| Ac (Ak rfl rfl) (hd 35 rfl) <| Ac (Ak rfl rfl) (hd 36 rfl) <| Ay (An (id := 14) At (by decide) rfl (by decide) rfl) (hd 13 rfl) <| A1 (Ae rfl rfl rfl Au rfl rfl (zlb rfl)) <| zas rfl (hd 14 rfl) <| Ab <| zsr <| Ac (Ah Aq rfl rfl rfl rfl) (hd 38 rfl) <| Ac (Ah Aq rfl rfl rfl rfl) (hd 39 rfl) ?_
      refine Jd Try.f42 (hSu1) (fun o G ⟨_, h⟩ => h ▸ C1 Di Eg) (fun y G ⟨hy, _⟩ => by injection hy with hy; subst hy; rfl) rfl Try.func42 rfl rfl (Aa rfl (Aa rfl Ad)) (.a1 (.a1 .b (.a1 .n .a0)) (.a1 (.a1 .b (.a1 (.o rfl (by simp) (by rw [List.drop_zero, List.take_length])) .a0)) .a0)) (.cons (.a1 .b (.a1 .n .a0)) (.cons (.a1 .b (.a1 .n .a0)) .nil)) (hd 40 rfl) ?_ (fun ch G hp => by simp at hp)
      rintro y G ⟨hy, rfl⟩; injection hy with hy; subst hy
      show JO _ _ _ _ ((40, .t [.a [.b (decide (y1 < 0)), .o 15 0 0 (lm y1).length], .i .i64 0]) :: _) _ _
      refine zmv rfl (hd 37 rfl) <| Ac (Ak rfl rfl) (hd 41 rfl) <| Ac (Ak rfl rfl) (hd 42 rfl) <| A1 (Ae rfl rfl rfl Au rfl rfl (zlb rfl)) <| Ab <| Cs (H' := [(oqr w), (oqf 0 v), (oqo 0 0 w), (oqm 0), (oqm 0), (oqo 1 0 w), (oqo 1 10 0), (oqt 0 1), (oqm 0), (oqr (wq 4 v w)), (oqr 0), (oqo 0 9 (wq 4 v w)), (oqo 0 10 0), (oqr ((wq 4 v w) * 0)), (oqo 0 15 y1), (oqr y1)]) rfl <| Be (n := 4) _ rfl B2 ?_; refine Db (fun _ _ _ _ h => h) fun ops1 Q1 F0 hpan ho hq hF => ?_
      have S8_1111 : JA Try.prog ops1 0 #[true, true, true, true] Γ ([(43, .a [.b false, .c (.slice none 0 0)]), (44, (qo 15 y1))] ++ F0) [(oqr w), (oqf 0 v), (oqo 0 0 w), (oqm 0), (oqm 0), (oqo 1 0 w), (oqo 1 10 0), (oqm 0), (oqo 0 15 y1), (oqr (wq 4 v w)), (oqr 0), (oqo 0 9 (wq 4 v w)), (oqo 0 10 0), (oqr ((wq 4 v w) * 0)), (oqo 0 15 y1), (oqr y1)] Q1 := by
        subst ho; subst hq; subst hF; refine Bi (by kernel_rfl) <| He (n := 0) <| Af <| zsr <| Ac (Ah Aq rfl rfl rfl rfl) (hd 19 rfl) ?_
        refine Kl Try.f36 (hSz) rfl Try.func36 rfl rfl (Aa rfl Ad) (.a1 (.a1 .b (.a1 (.o rfl (by simp) (by rw [List.drop_zero, List.take_length])) .a0)) .a0) (.cons (.a1 .b (.a1 .n .a0)) .nil) (fun y hy => by injection hy with hy; subst hy; rfl) (hd 20 rfl) ?_ (fun ch hp => by simp at hp)
        rintro _ ⟨⟩; refine Ac (Cd (Cm rfl rfl) (fun h => h (Ex.2 rfl))) (hd 21 rfl) <| Ab <| Bl rfl <| By <| Af <| Af <| Cs (H' := [(oqr w), (oqf 0 v), (oqo 0 0 w), (oqm 0), (oqm 0), (oqo 1 0 w), (oqo 1 10 0), (oqm 0), (oqo 0 15 y1), (oqr (wq 4 v w)), (oqr 0), (oqo 0 9 (wq 4 v w)), (oqo 0 10 0), (oqr ((wq 4 v w) * 0)), (oqo 0 15 y1), (oqr y1)]) rfl <| Ag <| Ac (Ah Aq rfl rfl rfl rfl) (hd 45 rfl) ?_
        refine Kl Try.f36 (hSr) rfl Try.func36 rfl rfl (Aa rfl Ad) (.a1 (.a1 .b (.a1 (.o rfl (by simp) (by rw [List.drop_zero, List.take_length])) .a0)) .a0) (.cons (.a1 .b (.a1 .n .a0)) .nil) (fun y hy => by injection hy with hy; subst hy; rfl) (hd 46 rfl) ?_ (fun ch hp => by simp at hp)
        rintro _ ⟨⟩; refine Ac (Cd (Ch rfl rfl) (by rcases F4 (x := w) with ⟨h9, e9⟩ | ⟨h9, e9⟩ | ⟨h9, e9⟩ <;> omega)) (hd 47 rfl) <| Ab <| Bl rfl <| Am <| Af <| Be (n := 4) _ rfl B2 ?_; refine Db (fun _ _ _ _ h => h) fun ops1 Q1 F0 hpan ho hq hF => ?_
        have S11_1111 : JA Try.prog ops1 0 #[true, true, true, true] Γ ([(52, (qo 0 w)), (53, .a [.b false, .c (.slice none 0 0)])] ++ F0) [(oqr w), (oqf 0 v), (oqo 0 0 w), (oqo 0 0 w), (oqm 0), (oqo 1 0 w), (oqo 1 10 0), (oqm 0), (oqo 0 15 y1), (oqr (wq 4 v w)), (oqr 0), (oqo 0 9 (wq 4 v w)), (oqo 0 10 0), (oqr ((wq 4 v w) * 0)), (oqo 0 15 y1), (oqr y1)] Q1 := by
          subst ho; subst hq; subst hF; refine Bi (by kernel_rfl) <| As ?_
          refine ⟨_, (.cons (ResV.cell Aq rfl rfl rfl rfl) (.cons (ResV.cell Aq rfl rfl rfl rfl) .nil)), rfl, (.cons Bc .nil), ?_⟩
          exact ⟨rfl, rfl⟩
        have S11_1110 : JA Try.prog ops1 1 #[true, true, true, false] Γ ([(52, (qo 0 w)), (53, .a [.b false, .c (.slice none 0 0)])] ++ F0) [(oqr w), (oqf 0 v), (oqo 0 0 w), (oqo 0 0 w), (oqm 0), (oqo 1 0 w), (oqo 1 10 0), (oqm 0), (oqo 0 15 y1), (oqr (wq 4 v w)), (oqr 0), (oqo 0 9 (wq 4 v w)), (oqo 0 10 0), (oqr ((wq 4 v w) * 0)), (oqo 0 15 y1), (oqr y1)] Q1 := by
          subst ho; subst hF
          refine Bb 3 ?_ rfl (by kernel_rfl)
          refine A7 (Ae rfl rfl rfl Au rfl rfl (zlb rfl)) rfl ?_
          refine Ai S11_1111 2 (.cons rfl (.cons rfl .nil))
        have S11_1100 : JA Try.prog ops1 2 #[true, true, false, false] Γ ([(52, (qo 0 w)), (53, .a [.b false, .c (.slice none 0 0)])] ++ F0) [(oqr w), (oqf 0 v), (oqo 0 0 w), (oqm 0), (oqm 0), (oqo 1 0 w), (oqo 1 10 0), (oqm 0), (oqo 0 15 y1), (oqr (wq 4 v w)), (oqr 0), (oqo 0 9 (wq 4 v w)), (oqo 0 10 0), (oqr ((wq 4 v w) * 0)), (oqo 0 15 y1), (oqr y1)] Q1 := by
          subst ho; subst hF
          refine Bb 2 ?_ rfl (by kernel_rfl)
          refine A7 (Ae rfl rfl rfl Au rfl rfl (zlb rfl)) rfl ?_
          refine Ai S11_1110 2 (.cons rfl (.cons rfl .nil))
        have S11_1010 : JA Try.prog ops1 2 #[true, false, true, false] Γ ([(52, (qo 0 w))] ++ F0) [(oqr w), (oqf 0 v), (oqo 0 0 w), (oqo 0 0 w), (oqm 0), (oqo 1 0 w), (oqo 1 10 0), (oqm 0), (oqo 0 15 y1), (oqr (wq 4 v w)), (oqr 0), (oqo 0 9 (wq 4 v w)), (oqo 0 10 0), (oqr ((wq 4 v w) * 0)), (oqo 0 15 y1), (oqr y1)] Q1 := by
          subst ho; subst hF; refine Bz 1 [3] (Ao (Ah Aq rfl rfl rfl rfl) (hd 53 rfl)) rfl (by kernel_rfl) (by kernel_rfl) (by kernel_rfl) (by kernel_rfl) hpan ?_
          refine Ai S11_1110 2 (.cons rfl (.cons rfl .nil))
        have S11_1000 : JA Try.prog ops1 3 #[true, false, false, false] Γ ([(52, (qo 0 w))] ++ F0) [(oqr w), (oqf 0 v), (oqo 0 0 w), (oqm 0), (oqm 0), (oqo 1 0 w), (oqo 1 10 0), (oqm 0), (oqo 0 15 y1), (oqr (wq 4 v w)), (oqr 0), (oqo 0 9 (wq 4 v w)), (oqo 0 10 0), (oqr ((wq 4 v w) * 0)), (oqo 0 15 y1), (oqr y1)] Q1 := by
          subst ho; subst hF
          refine Ct 1 2 ?_ ?_ rfl rfl (by kernel_rfl)
          · refine C4 (Ah Aq rfl rfl rfl rfl) (hd 53 rfl) ?_
            refine Ai S11_1100 2 (.cons rfl (.cons rfl .nil))
          · refine A7 (Ae rfl rfl rfl Au rfl rfl (zlb rfl)) rfl ?_
            refine Ai S11_1010 1 (.cons rfl .nil)
        have S11_0000 : JA Try.prog ops1 4 #[false, false, false, false] Γ ([] ++ F0) [(oqr w), (oqf 0 v), (oqo 0 0 w), (oqm 0), (oqm 0), (oqo 1 0 w), (oqo 1 10 0), (oqm 0), (oqo 0 15 y1), (oqr (wq 4 v w)), (oqr 0), (oqo 0 9 (wq 4 v w)), (oqo 0 10 0), (oqr ((wq 4 v w) * 0)), (oqo 0 15 y1), (oqr y1)] Q1 := by
          subst ho; subst hF; refine Bz 0 [2, 3] (Ao (Ah Aq rfl rfl rfl rfl) (hd 52 rfl)) rfl (by kernel_rfl) (by kernel_rfl) (by kernel_rfl) (by kernel_rfl) hpan ?_
          refine Ai S11_1000 1 (.cons rfl .nil)
        subst ho; subst hF
        exact D2 (m := []) (by decide) rfl (Ba 0 rfl rfl .nil) S11_0000
      have S8_1110 : JA Try.prog ops1 1 #[true, true, true, false] Γ ([(43, .a [.b false, .c (.slice none 0 0)]), (44, (qo 15 y1))] ++ F0) [(oqr w), (oqf 0 v), (oqo 0 0 w), (oqm 0), (oqm 0), (oqo 1 0 w), (oqo 1 10 0), (oqm 0), (oqm 0), (oqr (wq 4 v w)), (oqr 0), (oqo 0 9 (wq 4 v w)), (oqo 0 10 0), (oqr ((wq 4 v w) * 0)), (oqo 0 15 y1), (oqr y1)] Q1 := by
        subst ho; subst hF
        refine Bb 3 ?_ rfl (by kernel_rfl)
        refine A7 (Ae rfl rfl rfl Au rfl rfl (zlb rfl)) rfl ?_
        refine Ai S8_1111 2 (.cons rfl (.cons rfl .nil))
      have S8_1100 : JA Try.prog ops1 2 #[true, true, false, false] Γ ([(43, .a [.b false, .c (.slice none 0 0)]), (44, (qo 15 y1))] ++ F0) [(oqr w), (oqf 0 v), (oqo 0 0 w), (oqm 0), (oqm 0), (oqo 1 0 w), (oqo 1 10 0), (oqt 0 1), (oqm 0), (oqr (wq 4 v w)), (oqr 0), (oqo 0 9 (wq 4 v w)), (oqo 0 10 0), (oqr ((wq 4 v w) * 0)), (oqo 0 15 y1), (oqr y1)] Q1 := by
        subst ho; subst hF
        refine Bb 2 ?_ rfl (by kernel_rfl)
        refine A7 (Ae rfl rfl rfl Au rfl rfl (zlb rfl)) rfl ?_
        refine Ai S8_1110 2 (.cons rfl (.cons rfl .nil))
      have S8_1010 : JA Try.prog ops1 2 #[true, false, true, false] Γ ([(43, .a [.b false, .c (.slice none 0 0)])] ++ F0) [(oqr w), (oqf 0 v), (oqo 0 0 w), (oqm 0), (oqm 0), (oqo 1 0 w), (oqo 1 10 0), (oqm 0), (oqm 0), (oqr (wq 4 v w)), (oqr 0), (oqo 0 9 (wq 4 v w)), (oqo 0 10 0), (oqr ((wq 4 v w) * 0)), (oqo 0 15 y1), (oqr y1)] Q1 := by
        subst ho; subst hF; refine Bz 1 [3] (Ao (Ah Aq rfl rfl rfl rfl) (hd 44 rfl)) rfl (by kernel_rfl) (by kernel_rfl) (by kernel_rfl) (by kernel_rfl) hpan ?_
        refine Ai S8_1110 2 (.cons rfl (.cons rfl .nil))
      have S8_1000 : JA Try.prog ops1 3 #[true, false, false, false] Γ ([(43, .a [.b false, .c (.slice none 0 0)])] ++ F0) [(oqr w), (oqf 0 v), (oqo 0 0 w), (oqm 0), (oqm 0), (oqo 1 0 w), (oqo 1 10 0), (oqt 0 1), (oqm 0), (oqr (wq 4 v w)), (oqr 0), (oqo 0 9 (wq 4 v w)), (oqo 0 10 0), (oqr ((wq 4 v w) * 0)), (oqo 0 15 y1), (oqr y1)] Q1 := by
        subst ho; subst hF
        refine Ct 1 2 ?_ ?_ rfl rfl (by kernel_rfl)
        · refine C4 (Ah Aq rfl rfl rfl rfl) (hd 44 rfl) ?_
          refine Ai S8_1100 2 (.cons rfl (.cons rfl .nil))
        · refine A7 (Ae rfl rfl rfl Au rfl rfl (zlb rfl)) rfl ?_
          refine Ai S8_1010 1 (.cons rfl .nil)
      have S8_0000 : JA Try.prog ops1 4 #[false, false, false, false] Γ ([] ++ F0) [(oqr w), (oqf 0 v), (oqo 0 0 w), (oqm 0), (oqm 0), (oqo 1 0 w), (oqo 1 10 0), (oqt 0 1), (oqm 0), (oqr (wq 4 v w)), (oqr 0), (oqo 0 9 (wq 4 v w)), (oqo 0 10 0), (oqr ((wq 4 v w) * 0)), (oqo 0 15 y1), (oqr y1)] Q1 := by
        subst ho; subst hF; refine Bz 0 [2, 3] (Ao (Ah Aq rfl rfl rfl rfl) (hd 43 rfl)) rfl (by kernel_rfl) (by kernel_rfl) (by kernel_rfl) (by kernel_rfl) hpan ?_
        refine Ai S8_1000 1 (.cons rfl .nil)
      subst ho; subst hF
      exact D2 (m := []) (by decide) rfl (Ba 0 rfl rfl .nil) S8_0000
    have S5_1110 : JA Try.prog ops1 1 #[true, true, true, false] Γ ([(29, (qo 0 w)), (30, (qo 10 0))] ++ F0) [(oqr w), (oqf 0 v), (oqo 0 0 w), (oqm 0), (oqm 0), (oqo 1 0 w), (oqo 1 0 w), (oqt 0 1), (oqm 0), (oqr (wq 4 v w)), (oqr 0), (oqo 0 9 (wq 4 v w)), (oqo 0 10 0)] Q1 := by
      subst ho; subst hF
      refine Bb 3 ?_ rfl (by kernel_rfl)
      refine A7 (Ae rfl rfl rfl Au rfl rfl (zlb rfl)) rfl ?_
      refine Ai S5_1111 2 (.cons rfl (.cons rfl .nil))
    have S5_1100 : JA Try.prog ops1 2 #[true, true, false, false] Γ ([(29, (qo 0 w)), (30, (qo 10 0))] ++ F0) [(oqr w), (oqf 0 v), (oqo 0 0 w), (oqm 0), (oqm 0), (oqf 1 v), (oqo 1 0 w), (oqt 0 1), (oqm 0), (oqr (wq 4 v w)), (oqr 0), (oqo 0 9 (wq 4 v w)), (oqo 0 10 0)] Q1 := by
      subst ho; subst hF
      refine Bb 2 ?_ rfl (by kernel_rfl)
      refine A7 (Ae rfl rfl rfl Au rfl rfl (zlb rfl)) rfl ?_
      refine Ai S5_1110 2 (.cons rfl (.cons rfl .nil))
    have S5_1010 : JA Try.prog ops1 2 #[true, false, true, false] Γ ([(29, (qo 0 w))] ++ F0) [(oqr w), (oqf 0 v), (oqo 0 0 w), (oqm 0), (oqm 0), (oqo 1 0 w), (oqo 1 0 w), (oqt 0 1), (oqm 0), (oqr (wq 4 v w)), (oqr 0), (oqo 0 9 (wq 4 v w)), (oqo 0 10 0)] Q1 := by
      subst ho; subst hF; refine Bz 1 [3] (Ao (Ah Aq rfl rfl rfl rfl) (hd 30 rfl)) rfl (by kernel_rfl) (by kernel_rfl) (by kernel_rfl) (by kernel_rfl) hpan ?_
      refine Ai S5_1110 2 (.cons rfl (.cons rfl .nil))
    have S5_1000 : JA Try.prog ops1 3 #[true, false, false, false] Γ ([(29, (qo 0 w))] ++ F0) [(oqr w), (oqf 0 v), (oqo 0 0 w), (oqm 0), (oqm 0), (oqf 1 v), (oqo 1 0 w), (oqt 0 1), (oqm 0), (oqr (wq 4 v w)), (oqr 0), (oqo 0 9 (wq 4 v w)), (oqo 0 10 0)] Q1 := by
      subst ho; subst hF
      refine Ct 1 2 ?_ ?_ rfl rfl (by kernel_rfl)
      · refine C4 (Ah Aq rfl rfl rfl rfl) (hd 30 rfl) ?_
        refine Ai S5_1100 2 (.cons rfl (.cons rfl .nil))
      · refine A7 (Ae rfl rfl rfl Au rfl rfl (zlb rfl)) rfl ?_
        refine Ai S5_1010 1 (.cons rfl .nil)
    have S5_0000 : JA Try.prog ops1 4 #[false, false, false, false] Γ ([] ++ F0) [(oqr w), (oqf 0 v), (oqo 0 0 w), (oqm 0), (oqm 0), (oqf 1 v), (oqo 1 0 w), (oqt 0 1), (oqm 0), (oqr (wq 4 v w)), (oqr 0), (oqo 0 9 (wq 4 v w)), (oqo 0 10 0)] Q1 := by
      subst ho; subst hF; refine Bz 0 [2, 3] (Ao (Ah Aq rfl rfl rfl rfl) (hd 29 rfl)) rfl (by kernel_rfl) (by kernel_rfl) (by kernel_rfl) (by kernel_rfl) hpan ?_
      refine Ai S5_1000 1 (.cons rfl .nil)
    subst ho; subst hF
    exact D2 (m := []) (by decide) rfl (Ba 0 rfl rfl .nil) S5_0000
  have S1_111110 : JA Try.prog ops1 1 #[true, true, true, true, true, false] Γ ([(6, .p 5 1 0), (7, .p 6 1 0), (15, (qf v)), (16, (qo 0 w))] ++ F0) [(oqr w), (oqf 0 v), (oqo 0 0 w), (oqm 0), (oqm 0), (oqf 1 v), (oqm 1)] Q1 := by
    subst ho; subst hF
    refine Bb 5 ?_ rfl (by kernel_rfl)
    refine A7 (Ae rfl rfl rfl Au rfl rfl (zlb rfl)) rfl ?_
    refine Ai S1_111111 4 (.cons rfl (.cons rfl (.cons rfl (.cons rfl .nil))))
  have S1_111100 : JA Try.prog ops1 2 #[true, true, true, true, false, false] Γ ([(6, .p 5 1 0), (7, .p 6 1 0), (15, (qf v)), (16, (qo 0 w))] ++ F0) [(oqr w), (oqf 0 v), (oqo 0 0 w), (oqm 0), (oqm 0), (oqm 1), (oqm 1)] Q1 := by
    subst ho; subst hF
    refine Bb 4 ?_ rfl (by kernel_rfl)
    refine A7 (Ae rfl rfl rfl Au rfl rfl (zlb rfl)) rfl ?_
    refine Ai S1_111110 4 (.cons rfl (.cons rfl (.cons rfl (.cons rfl .nil))))
  have S1_111000 : JA Try.prog ops1 3 #[true, true, true, false, false, false] Γ ([(6, .p 5 1 0), (15, (qf v)), (16, (qo 0 w))] ++ F0) [(oqr w), (oqf 0 v), (oqo 0 0 w), (oqm 0), (oqm 0), (oqm 1), oqh] Q1 := by
    subst ho; subst hF
    refine Bb 3 ?_ rfl (by kernel_rfl)
    refine Cw (A6 (id := 6) At (by decide) rfl (by decide) rfl) (hd 7 rfl) ?_
    refine Ai S1_111100 4 (.cons rfl (.cons rfl (.cons rfl (.cons rfl .nil))))
  have S1_110100 : JA Try.prog ops1 3 #[true, true, false, true, false, false] Γ ([(7, .p 6 1 0), (15, (qf v)), (16, (qo 0 w))] ++ F0) [(oqr w), (oqf 0 v), (oqo 0 0 w), (oqm 0), (oqm 0), oqh, (oqm 1)] Q1 := by
    subst ho; subst hF
    refine Bb 2 ?_ rfl (by kernel_rfl)
    refine Cw (A6 (id := 5) At (by decide) rfl (by decide) rfl) (hd 6 rfl) ?_
    refine Ai S1_111100 4 (.cons rfl (.cons rfl (.cons rfl (.cons rfl .nil))))
  have S1_110000 : JA Try.prog ops1 4 #[true, true, false, false, false, false] Γ ([(15, (qf v)), (16, (qo 0 w))] ++ F0) [(oqr w), (oqf 0 v), (oqo 0 0 w), (oqm 0), (oqm 0), oqh, oqh] Q1 := by
    subst ho; subst hF
    refine Ct 2 3 ?_ ?_ rfl rfl (by kernel_rfl)
    · refine Cw (A6 (id := 5) At (by decide) rfl (by decide) rfl) (hd 6 rfl) ?_
      refine Ai S1_111000 3 (.cons rfl (.cons rfl (.cons rfl .nil)))
    · refine Cw (A6 (id := 6) At (by decide) rfl (by decide) rfl) (hd 7 rfl) ?_
      refine Ai S1_110100 3 (.cons rfl (.cons rfl (.cons rfl .nil)))
  have S1_101110 : JA Try.prog ops1 2 #[true, false, true, true, true, false] Γ ([(6, .p 5 1 0), (7, .p 6 1 0), (15, (qf v))] ++ F0) [(oqr w), (oqf 0 v), (oqo 0 0 w), (oqm 0), (oqm 0), (oqf 1 v), (oqm 1)] Q1 := by
    subst ho; subst hF; refine Bz 1 [5] (Ao (Ah Aq rfl rfl rfl rfl) (hd 16 rfl)) rfl (by kernel_rfl) (by kernel_rfl) (by kernel_rfl) (by kernel_rfl) hpan ?_
    refine Ai S1_111110 4 (.cons rfl (.cons rfl (.cons rfl (.cons rfl .nil))))
  have S1_101100 : JA Try.prog ops1 3 #[true, false, true, true, false, false] Γ ([(6, .p 5 1 0), (7, .p 6 1 0), (15, (qf v))] ++ F0) [(oqr w), (oqf 0 v), (oqo 0 0 w), (oqm 0), (oqm 0), (oqm 1), (oqm 1)] Q1 := by
    subst ho; subst hF
    refine Ct 1 4 ?_ ?_ rfl rfl (by kernel_rfl)
    · refine C4 (Ah Aq rfl rfl rfl rfl) (hd 16 rfl) ?_
      refine Ai S1_111100 4 (.cons rfl (.cons rfl (.cons rfl (.cons rfl .nil))))
    · refine A7 (Ae rfl rfl rfl Au rfl rfl (zlb rfl)) rfl ?_
      refine Ai S1_101110 3 (.cons rfl (.cons rfl (.cons rfl .nil)))
  have S1_101000 : JA Try.prog ops1 4 #[true, false, true, false, false, false] Γ ([(6, .p 5 1 0), (15, (qf v))] ++ F0) [(oqr w), (oqf 0 v), (oqo 0 0 w), (oqm 0), (oqm 0), (oqm 1), oqh] Q1 := by
    subst ho; subst hF
    refine Ct 1 3 ?_ ?_ rfl rfl (by kernel_rfl)
    · refine C4 (Ah Aq rfl rfl rfl rfl) (hd 16 rfl) ?_
      refine Ai S1_111000 3 (.cons rfl (.cons rfl (.cons rfl .nil)))
    · refine Cw (A6 (id := 6) At (by decide) rfl (by decide) rfl) (hd 7 rfl) ?_
      refine Ai S1_101100 3 (.cons rfl (.cons rfl (.cons rfl .nil)))
  have S1_100100 : JA Try.prog ops1 4 #[true, false, false, true, false, false] Γ ([(7, .p 6 1 0), (15, (qf v))] ++ F0) [(oqr w), (oqf 0 v), (oqo 0 0 w), (oqm 0), (oqm 0), oqh, (oqm 1)] Q1 := by
    subst ho; subst hF
    refine Ct 1 2 ?_ ?_ rfl rfl (by kernel_rfl)
    · refine C4 (Ah Aq rfl rfl rfl rfl) (hd 16 rfl) ?_
      refine Ai S1_110100 3 (.cons rfl (.cons rfl (.cons rfl .nil)))
    · refine Cw (A6 (id := 5) At (by decide) rfl (by decide) rfl) (hd 6 rfl) ?_
      refine Ai S1_101100 3 (.cons rfl (.cons rfl (.cons rfl .nil)))
  have S1_100000 : JA Try.prog ops1 5 #[true, false, false, false, false, false] Γ ([(15, (qf v))] ++ F0) [(oqr w), (oqf 0 v), (oqo 0 0 w), (oqm 0), (oqm 0), oqh, oqh] Q1 := by
    subst ho; subst hF
    refine Rc 1 2 3 ?_ ?_ ?_ rfl rfl rfl (by kernel_rfl)
    · refine C4 (Ah Aq rfl rfl rfl rfl) (hd 16 rfl) ?_
      refine Ai S1_110000 2 (.cons rfl (.cons rfl .nil))
    · refine Cw (A6 (id := 5) At (by decide) rfl (by decide) rfl) (hd 6 rfl) ?_
      refine Ai S1_101000 2 (.cons rfl (.cons rfl .nil))
    · refine Cw (A6 (id := 6) At (by decide) rfl (by decide) rfl) (hd 7 rfl) ?_
      refine Ai S1_100100 2 (.cons rfl (.cons rfl .nil))
  have S1_000000 : JA Try.prog ops1 6 #[false, false, false, false, false, false] Γ ([] ++ F0) [(oqr w), (oqf 0 v), (oqo 0 0 w), (oqm 0), (oqm 0), oqh, oqh] Q1 := by
    subst ho; subst hF; refine Bz 0 [4, 5] (Ao (Ah Aq rfl rfl rfl rfl) (hd 15 rfl)) rfl (by kernel_rfl) (by kernel_rfl) (by kernel_rfl) (by kernel_rfl) hpan ?_
    refine Ai S1_100000 1 (.cons rfl .nil)
  subst ho; subst hF
  exact D2 (m := []) (by decide) rfl (Ba 0 rfl rfl .nil) S1_000000

theorem Q5 (v w : Int) (ha : Bm v ≤ 67108800) (hb : Bm w ≤ 67108800) (h0 : w ≠ 0) (hdv : w ∣ v) (hw0 : w < 0) : SpecM Try.prog 37 [.a [.b (decide (v < 0)), .n false .u64 (lm v)], .a [.b (decide (w < 0)), .n false .u64 (lm w)]] [] (fun o G => ∃ g x : Int, (o = .ret (.t [.a [.b (decide (g < 0)), .o 0 0 0 (lm g).length], .a [.b (decide (x < 0)), .n true .u64 (lm x)]]) ∧ G = [⟨79, 1, 0, true, A2 .u64 (lm g)⟩]) ∧ CoE v w g x) := by
  refine Cy [(0, .a [.b (decide (v < 0)), .n false .u64 (lm v)]), (1, .a [.b (decide (w < 0)), .n false .u64 (lm w)])] rfl Try.func37 rfl (zlb rfl) fun Γ hN hds hL hR => ?_
  have hd := B5 54 hN
  have hC1 := Aaz (a := v) (b := w) h0
  obtain ⟨y1, ey1⟩ : ∃ y1 : Int, y1 = 1 - wq 4 v w * 0 := ⟨_, rfl⟩
  obtain ⟨s1, es1⟩ : ∃ s1 : Int, s1 = v % w := ⟨_, rfl⟩
  have hlr1 : Bm v ≤ 67108800 := Ha hC1.br (by omega) (by omega)
  have hls1 : Bm w ≤ 67108800 := Nat.le_trans (A5 hC1.bs) (by omega)
  have hly1 := A5 hC1.by_
  have hlx1 := A5 hC1.bx
  have hmr1 := Bf (v := v) (by omega)
  have hms1 := Bf (v := w) (by omega)
  have hmy1 := Bf (v := 0) (by omega)
  have hmx1 := Bf (v := 1) (by omega)
  have hq1 := euc (v := v) h0
  have hN1 := hC1.next h0 h0 hq1
  rw [← es1, ← ey1] at hN1
  have hlyn1 := A5 hN1.by_
  have hqy1 : Bm ((wq 4 v w) * 0) ≤ Bm w + 1 := G8 (by have h1 := hN1.by_; have h2 := hC1.bx; rw [ey1] at h1; omega)
  have hwl1 := Hi (k := 4) (v := v) h0
  have hlq1 := Bf (v := (wq 4 v w)) (by omega)
  have hlqy1 := Bf (v := ((wq 4 v w) * 0)) (by omega)
  have hlR1 := A5 hN1.bs
  have hEu1 : Spec Try.prog 39 [.a [.b (decide (v < 0)), .n false .u64 (lm v)], .a [.b (decide (w < 0)), .n false .u64 (lm w)]] (fun o => o = .ret (.t [.a [.b (decide ((wq 4 v w) < 0)), .n false .u64 (lm (wq 4 v w))], .a [.b (decide (s1 < 0)), .n false .u64 (lm s1)], .i .i64 0])) := by
    have h := (J4 (decide (v < 0)) (decide (w < 0)) (lm v) (lm w) v w (by omega) (by omega) (Cq _) (Cq _) (Cn _) (Cn _) (by omega) (by omega) h0).olds
    have h9 : Spec Try.prog 39 [.a [.b (decide (v < 0)), .n false .u64 (lm v)], .a [.b (decide (w < 0)), .n false .u64 (lm w)]] (fun o => o = .ret (.t [.a [.b (decide ((wq 4 v w) < 0)), .n false .u64 (lm (wq 4 v w))], .a [.b (decide ((v - (wq 4 v w) * w) < 0)), .n false .u64 (lm (v - (wq 4 v w) * w))], .i .i64 0])) := h
    rwa [hq1, ← es1] at h9
  have hMu1 : Spec Try.prog 40 [.a [.b (decide ((wq 4 v w) < 0)), .n false .u64 (lm (wq 4 v w))], .a [.b (decide (0 < 0)), .n false .u64 (lm 0)]] (fun o => o = .ret (.t [.a [.b (decide (((wq 4 v w) * 0) < 0)), .n true .u64 (lm ((wq 4 v w) * 0))], .i .i64 0])) := Ns (wq 4 v w) 0 (by omega) (by omega) (by omega)
  have hSu1 : Spec Try.prog 42 [.a [.b (decide (1 < 0)), .n false .u64 (lm 1)], .a [.b (decide (((wq 4 v w) * 0) < 0)), .n false .u64 (lm ((wq 4 v w) * 0))]] (fun o => o = .ret (.t [.a [.b (decide (y1 < 0)), .n true .u64 (lm y1)], .i .i64 0])) := by
    have h := Nr 1 ((wq 4 v w) * 0) (by omega) (by omega) (by rw [← ey1]; omega)
    rwa [← ey1] at h
  have hSg1 : Spec Try.prog 36 [.a [.b (decide (w < 0)), .n false .u64 (lm w)]] (fun o => o = .ret (.i .i64 (Cb w))) := Ec w (by omega)
  have hs1 : s1 = 0 := by rw [es1]; exact Int.emod_eq_zero_of_dvd hdv
  subst hs1
  have hSz : Spec Try.prog 36 [.a [.b (decide (0 < 0)), .n false .u64 (lm 0)]] (fun o => o = .ret (.i .i64 (Cb 0))) := Ec 0 (by rw [Xt]; decide)
  have hSr : Spec Try.prog 36 [.a [.b (decide (w < 0)), .n false .u64 (lm w)]] (fun o => o = .ret (.i .i64 (Cb w))) := Ec w (by omega)
  have hFn : SpecM Try.prog 64 [.a [.b (decide (w < 0)), .n false .u64 (lm w)]] [] (fun o G => o = .ret (.a [.b (decide ((-w) < 0)), .o 0 0 0 (lm (-w)).length]) ∧ G = [⟨79, 1, 0, true, A2 .u64 (lm (-w))⟩]) := Ac0 w (by omega)
  have hFz : Spec Try.prog 64 [.a [.b (decide (0 < 0)), .n false .u64 (lm 0)]] (fun o => o = .ret (.a [.b (decide ((-0) < 0)), .n true .u64 (lm (-0))])) := T1 0 (by rw [Xt]; decide)
  refine zsr <| Ay (Br (id := 0) (n := 2) rfl rfl rfl (by decide) rfl) (hd 2 rfl) <| Ay (Br (id := 1) (n := 2) rfl rfl rfl (by decide) rfl) (hd 3 rfl) <| Ay (An (id := 2) At (by decide) rfl (by decide) rfl) (hd 4 rfl) <| Ay (An (id := 3) At (by decide) rfl (by decide) rfl) (hd 5 rfl) <| Ab <| Af <| G0 2 _ <| Be (n := 6) _ rfl B2 ?_; refine Db (fun _ _ _ _ h => h) fun ops1 Q1 F0 hpan ho hq hF => ?_
  have S1_111111 : JA Try.prog ops1 0 #[true, true, true, true, true, true] Γ ([(6, .p 4 1 0), (7, .p 5 1 0), (15, (qf v)), (16, (qf w))] ++ F0) [(oqf 0 v), (oqf 0 w), (oqm 0), (oqm 0), (oqf 1 v), (oqf 1 w)] Q1 := by
    subst ho; subst hq; subst hF; refine Bi (by kernel_rfl) <| Af <| Ag ?_
    refine Aj Try.f35 (Wz 1 (by unfold inI; omega)) rfl Try.func35 rfl rfl (Aa rfl Ad) (.cons .i .nil) (hd 17 rfl) ?_ (fun ch hp => by simp at hp)
    rintro y hy; injection hy with hy; subst hy
    refine Aj Try.f35 (Wz 0 (by unfold inI; omega)) rfl Try.func35 rfl rfl (Aa rfl Ad) (.cons .i .nil) (hd 18 rfl) ?_ (fun ch hp => by simp at hp)
    rintro _ ⟨⟩; refine Ay (An (id := 6) At (by decide) rfl (by decide) rfl) (hd 8 rfl) <| Ay (An (id := 7) At (by decide) rfl (by decide) rfl) (hd 9 rfl) <| A1 (Ae rfl rfl rfl Au rfl rfl (zlb rfl)) <| A1 (Ae rfl rfl rfl Au rfl rfl (zlb rfl)) <| Ab <| Af <| Aw <| Km 2 <| He (n := 1) <| Af <| zsr <| Ac (Ah Aq rfl rfl rfl rfl) (hd 19 rfl) ?_
    refine Aj Try.f36 (hSg1) rfl Try.func36 rfl rfl (Aa rfl Ad) (.cons (.a1 .b (.a1 .n .a0)) .nil) (hd 20 rfl) ?_ (fun ch hp => by simp at hp)
    rintro _ ⟨⟩; refine Ac (Ft (Cm rfl rfl) (fun h => h0 (Ex.1 h))) (hd 21 rfl) <| Ab <| Dm rfl <| Am <| Aw <| zsr <| Ac (Ah Aq rfl rfl rfl rfl) (hd 23 rfl) <| Ac (Ah Aq rfl rfl rfl rfl) (hd 24 rfl) ?_
    refine Aj Try.f39 (hEu1) rfl Try.func39 rfl rfl (Aa rfl (Aa rfl Ad)) (.cons (.a1 .b (.a1 .n .a0)) (.cons (.a1 .b (.a1 .n .a0)) .nil)) (hd 25 rfl) ?_ (fun ch hp => by simp at hp)
    rintro _ ⟨⟩; refine zmv rfl (hd 22 rfl) <| Ac (Ak rfl rfl) (hd 26 rfl) <| Ac (Ak rfl rfl) (hd 27 rfl) <| Ac (Ak rfl rfl) (hd 28 rfl) <| Ay (An (id := 8) At (by decide) rfl (by decide) rfl) (hd 10 rfl) <| Ay (An (id := 9) At (by decide) rfl (by decide) rfl) (hd 11 rfl) <| A1 (Ae rfl rfl rfl Au rfl rfl (zlb rfl)) <| A1 (Ae rfl rfl rfl Au rfl rfl (zlb rfl)) <| zas rfl (hd 12 rfl) <| Ab <| Af <| Cs (H' := [(oqf 0 v), (oqf 0 w), (oqm 0), (oqm 0), (oqf 1 v), (oqf 1 w), (oqt 0 1), (oqt 0 0), (oqf 0 (wq 4 v w)), (oqf 0 0)]) rfl <| Be (n := 4) _ rfl B2 ?_; refine Db (fun _ _ _ _ h => h) fun ops1 Q1 F0 hpan ho hq hF => ?_
    have S5_1111 : JA Try.prog ops1 0 #[true, true, true, true] Γ ([(29, (qf w)), (30, (qf 0))] ++ F0) [(oqf 0 v), (oqf 0 w), (oqm 0), (oqm 0), (oqf 1 w), (oqf 1 0), (oqt 0 1), (oqt 0 0), (oqf 0 (wq 4 v w)), (oqf 0 0)] Q1 := by
      subst ho; subst hq; subst hF; refine Bi (by kernel_rfl) <| Af <| Cs (H' := [(oqf 0 v), (oqf 0 w), (oqm 0), (oqm 0), (oqf 1 w), (oqf 1 0), (oqt 0 1), (oqt 0 0), (oqf 0 (wq 4 v w)), (oqf 0 0)]) rfl <| Ag <| Ac (Ah Aq rfl rfl rfl rfl) (hd 32 rfl) <| Ac (Ah Aq rfl rfl rfl rfl) (hd 33 rfl) ?_
      refine Aj Try.f40 (hMu1) rfl Try.func40 rfl rfl (Aa rfl (Aa rfl Ad)) (.cons (.a1 .b (.a1 .n .a0)) (.cons (.a1 .b (.a1 .n .a0)) .nil)) (hd 34 rfl) ?_ (fun ch hp => by simp at hp)
      rintro _ ⟨⟩; refine zmv rfl (hd 31 rfl) <| Ac (Ak rfl rfl) (hd 35 rfl) <| Ac (Ak rfl rfl) (hd 36 rfl) <| Ay (An (id := 10) At (by decide) rfl (by decide) rfl) (hd 13 rfl) <| A1 (Ae rfl rfl rfl Au rfl rfl (zlb rfl)) <| zas rfl (hd 14 rfl) <| Ab <| zsr <| Ac (Ah Aq rfl rfl rfl rfl) (hd 38 rfl) <| Ac (Ah Aq rfl rfl rfl rfl) (hd 39 rfl) ?_
      refine Aj Try.f42 (hSu1) rfl Try.func42 rfl rfl (Aa rfl (Aa rfl Ad)) (.cons (.a1 .b (.a1 .n .a0)) (.cons (.a1 .b (.a1 .n .a0)) .nil)) (hd 40 rfl) ?_ (fun ch hp => by simp at hp)
      rintro _ ⟨⟩; refine zmv rfl (hd 37 rfl) <| Ac (Ak rfl rfl) (hd 41 rfl) <| Ac (Ak rfl rfl) (hd 42 rfl) <| A1 (Ae rfl rfl rfl Au rfl rfl (zlb rfl)) <| Ab <| Cs (H' := [(oqf 0 v), (oqf 0 w), (oqm 0), (oqm 0), (oqf 1 w), (oqf 1 0), (oqt 0 1), (oqt 0 0), (oqf 0 (wq 4 v w)), (oqf 0 0), (oqt 0 y1)]) rfl <| Be (n := 4) _ rfl B2 ?_; refine Db (fun _ _ _ _ h => h) fun ops1 Q1 F0 hpan ho hq hF => ?_
      have S8_1111 : JA Try.prog ops1 0 #[true, true, true, true] Γ ([(43, (qt 0)), (44, (qt y1))] ++ F0) [(oqf 0 v), (oqf 0 w), (oqm 0), (oqm 0), (oqf 1 w), (oqf 1 0), (oqt 0 0), (oqt 0 y1), (oqf 0 (wq 4 v w)), (oqf 0 0), (oqt 0 y1)] Q1 := by
        subst ho; subst hq; subst hF; refine Bi (by kernel_rfl) <| He (n := 0) <| Af <| zsr <| Ac (Ah Aq rfl rfl rfl rfl) (hd 19 rfl) ?_
        refine Aj Try.f36 (hSz) rfl Try.func36 rfl rfl (Aa rfl Ad) (.cons (.a1 .b (.a1 .n .a0)) .nil) (hd 20 rfl) ?_ (fun ch hp => by simp at hp)
        rintro _ ⟨⟩; refine Ac (Cd (Cm rfl rfl) (fun h => h (Ex.2 rfl))) (hd 21 rfl) <| Ab <| Bl rfl <| By <| Af <| Af <| Cs (H' := [(oqf 0 v), (oqf 0 w), (oqm 0), (oqm 0), (oqf 1 w), (oqf 1 0), (oqt 0 0), (oqt 0 y1), (oqf 0 (wq 4 v w)), (oqf 0 0), (oqt 0 y1)]) rfl <| Ag <| Ac (Ah Aq rfl rfl rfl rfl) (hd 45 rfl) ?_
        refine Aj Try.f36 (hSr) rfl Try.func36 rfl rfl (Aa rfl Ad) (.cons (.a1 .b (.a1 .n .a0)) .nil) (hd 46 rfl) ?_ (fun ch hp => by simp at hp)
        rintro _ ⟨⟩; refine Ac (Ft (Ch rfl rfl) (by rcases F4 (x := w) with ⟨h9, e9⟩ | ⟨h9, e9⟩ | ⟨h9, e9⟩ <;> omega)) (hd 47 rfl) <| Ab <| Dm rfl <| Be (n := 6) _ rfl B2 ?_; refine Db (fun _ _ _ _ h => h) fun ops1 Q1 F0 hpan ho hq hF => ?_
        have S10_111111 : JA Try.prog ops1 0 #[true, true, true, true, true, true] Γ ([(48, (qf w)), (49, (qo 11 (-w))), (50, (qt 0)), (51, (qt (-0)))] ++ F0) [(oqf 0 v), (oqf 0 w), (oqm 0), (oqm 0), (oqo 1 11 (-w)), (oqf 1 0), (oqt 0 (-0)), (oqt 0 y1), (oqf 0 (wq 4 v w)), (oqf 0 0), (oqt 0 y1), (oqr (-w))] Q1 := by
          subst ho; subst hq; subst hF; refine Bi (by kernel_rfl) <| Af <| Be (n := 4) _ rfl B2 ?_; refine Db (fun _ _ _ _ h => h) fun ops1 Q1 F0 hpan ho hq hF => ?_
          have S11_1111 : JA Try.prog ops1 0 #[true, true, true, true] Γ ([(52, (qo 11 (-w))), (53, (qt (-0)))] ++ F0) [(oqf 0 v), (oqf 0 w), (oqo 0 11 (-w)), (oqt 0 (-0)), (oqo 1 11 (-w)), (oqf 1 0), (oqt 0 (-0)), (oqt 0 y1), (oqf 0 (wq 4 v w)), (oqf 0 0), (oqt 0 y1), (oqr (-w))] Q1 := by
            subst ho; subst hq; subst hF; refine Bi (by kernel_rfl) <| As ?_
            refine ⟨[11], _, (.t [.a [.b (decide ((-w) < 0)), .o 0 0 0 (lm (-w)).length], .a [.b (decide ((-0) < 0)), .n true .u64 (lm (-0))]]), (.cons (ResV.cell Aq rfl rfl rfl rfl) (.cons (ResV.cell Aq rfl rfl rfl rfl) .nil)), rfl, rfl, (by decide), (by first | exact Al Bc Ar | exact Al rfl Ar), ?_⟩
            exact ⟨-w, -0, ⟨rfl, rfl⟩, (hN1.neg (by omega))⟩
          have S11_1110 : JA Try.prog ops1 1 #[true, true, true, false] Γ ([(52, (qo 11 (-w))), (53, (qt (-0)))] ++ F0) [(oqf 0 v), (oqf 0 w), (oqo 0 11 (-w)), (oqm 0), (oqo 1 11 (-w)), (oqf 1 0), (oqt 0 (-0)), (oqt 0 y1), (oqf 0 (wq 4 v w)), (oqf 0 0), (oqt 0 y1), (oqr (-w))] Q1 := by
            subst ho; subst hF
            refine Bb 3 ?_ rfl (by kernel_rfl)
            refine A7 (Ae rfl rfl rfl Au rfl rfl (zlb rfl)) rfl ?_
            refine Ai S11_1111 2 (.cons rfl (.cons rfl .nil))
          have S11_1100 : JA Try.prog ops1 2 #[true, true, false, false] Γ ([(52, (qo 11 (-w))), (53, (qt (-0)))] ++ F0) [(oqf 0 v), (oqf 0 w), (oqm 0), (oqm 0), (oqo 1 11 (-w)), (oqf 1 0), (oqt 0 (-0)), (oqt 0 y1), (oqf 0 (wq 4 v w)), (oqf 0 0), (oqt 0 y1), (oqr (-w))] Q1 := by
            subst ho; subst hF
            refine Bb 2 ?_ rfl (by kernel_rfl)
            refine A7 (Ae rfl rfl rfl Au rfl rfl (zlb rfl)) rfl ?_
            refine Ai S11_1110 2 (.cons rfl (.cons rfl .nil))
          have S11_1010 : JA Try.prog ops1 2 #[true, false, true, false] Γ ([(52, (qo 11 (-w)))] ++ F0) [(oqf 0 v), (oqf 0 w), (oqo 0 11 (-w)), (oqm 0), (oqo 1 11 (-w)), (oqf 1 0), (oqt 0 (-0)), (oqt 0 y1), (oqf 0 (wq 4 v w)), (oqf 0 0), (oqt 0 y1), (oqr (-w))] Q1 := by
            subst ho; subst hF; refine Bz 1 [3] (Ao (Ah Aq rfl rfl rfl rfl) (hd 53 rfl)) rfl (by kernel_rfl) (by kernel_rfl) (by kernel_rfl) (by kernel_rfl) hpan ?_
            refine Ai S11_1110 2 (.cons rfl (.cons rfl .nil))
          have S11_1000 : JA Try.prog ops1 3 #[true, false, false, false] Γ ([(52, (qo 11 (-w)))] ++ F0) [(oqf 0 v), (oqf 0 w), (oqm 0), (oqm 0), (oqo 1 11 (-w)), (oqf 1 0), (oqt 0 (-0)), (oqt 0 y1), (oqf 0 (wq 4 v w)), (oqf 0 0), (oqt 0 y1), (oqr (-w))] Q1 := by
            subst ho; subst hF
            refine Ct 1 2 ?_ ?_ rfl rfl (by kernel_rfl)
            · refine C4 (Ah Aq rfl rfl rfl rfl) (hd 53 rfl) ?_
              refine Ai S11_1100 2 (.cons rfl (.cons rfl .nil))
            · refine A7 (Ae rfl rfl rfl Au rfl rfl (zlb rfl)) rfl ?_
              refine Ai S11_1010 1 (.cons rfl .nil)
          have S11_0000 : JA Try.prog ops1 4 #[false, false, false, false] Γ ([] ++ F0) [(oqf 0 v), (oqf 0 w), (oqm 0), (oqm 0), (oqo 1 11 (-w)), (oqf 1 0), (oqt 0 (-0)), (oqt 0 y1), (oqf 0 (wq 4 v w)), (oqf 0 0), (oqt 0 y1), (oqr (-w))] Q1 := by
            subst ho; subst hF; refine Bz 0 [2, 3] (Ao (Ah Aq rfl rfl rfl rfl) (hd 52 rfl)) rfl (by kernel_rfl) (by kernel_rfl) (by kernel_rfl) (by kernel_rfl) hpan ?_
            refine Ai S11_1000 1 (.cons rfl .nil)
          subst ho; subst hF
          exact D2 (m := []) (by decide) rfl (Ba 0 rfl rfl .nil) S11_0000
        have S10_111110 : JA Try.prog ops1 1 #[true, true, true, true, true, false] Γ ([(48, (qf w)), (49, (qo 11 (-w))), (50, (qt 0)), (51, (qt (-0)))] ++ F0) [(oqf 0 v), (oqf 0 w), (oqm 0), (oqm 0), (oqo 1 11 (-w)), (oqf 1 0), (oqt 0 0), (oqt 0 y1), (oqf 0 (wq 4 v w)), (oqf 0 0), (oqt 0 y1), (oqr (-w))] Q1 := by
          subst ho; subst hF
          refine Bb 5 ?_ rfl (by kernel_rfl)
          refine A7 (Ae rfl rfl rfl Au rfl rfl (zlb rfl)) rfl ?_
          refine Ai S10_111111 4 (.cons rfl (.cons rfl (.cons rfl (.cons rfl .nil))))
        have S10_111100 : JA Try.prog ops1 2 #[true, true, true, true, false, false] Γ ([(48, (qf w)), (49, (qo 11 (-w))), (50, (qt 0)), (51, (qt (-0)))] ++ F0) [(oqf 0 v), (oqf 0 w), (oqm 0), (oqm 0), (oqf 1 w), (oqf 1 0), (oqt 0 0), (oqt 0 y1), (oqf 0 (wq 4 v w)), (oqf 0 0), (oqt 0 y1), (oqr (-w))] Q1 := by
          subst ho; subst hF
          refine Bb 4 ?_ rfl (by kernel_rfl)
          refine A7 (Ae rfl rfl rfl Au rfl rfl (zlb rfl)) rfl ?_
          refine Ai S10_111110 4 (.cons rfl (.cons rfl (.cons rfl (.cons rfl .nil))))
        have S10_111000 : JA Try.prog ops1 3 #[true, true, true, false, false, false] Γ ([(48, (qf w)), (49, (qo 11 (-w))), (50, (qt 0))] ++ F0) [(oqf 0 v), (oqf 0 w), (oqm 0), (oqm 0), (oqf 1 w), (oqf 1 0), (oqt 0 0), (oqt 0 y1), (oqf 0 (wq 4 v w)), (oqf 0 0), (oqt 0 y1), (oqr (-w))] Q1 := by
          subst ho; subst hF
          refine Bb 3 ?_ rfl (by kernel_rfl)
          refine A4 Try.f64 (hFz) rfl Try.func64 rfl rfl (Aa rfl Ad) (.cons (.a1 .b (.a1 .n .a0)) .nil) (hd 51 rfl) ?_ (fun ch hp => by simp at hp)
          rintro y hy; injection hy with hy; subst hy
          refine Ai S10_111100 4 (.cons rfl (.cons rfl (.cons rfl (.cons rfl .nil))))
        have S10_101000 : JA Try.prog ops1 4 #[true, false, true, false, false, false] Γ ([(48, (qf w)), (50, (qt 0))] ++ F0) [(oqf 0 v), (oqf 0 w), (oqm 0), (oqm 0), (oqf 1 w), (oqf 1 0), (oqt 0 0), (oqt 0 y1), (oqf 0 (wq 4 v w)), (oqf 0 0), (oqt 0 y1)] Q1 := by
          subst ho; subst hF
          refine Bb 1 ?_ rfl (by kernel_rfl)
          refine Fa Try.f64 (hFn) (fun o G ⟨_, h⟩ => h ▸ Al Bc Ar) rfl Try.func64 rfl rfl (Aa rfl Ad) (.cons (.a1 .b (.a1 .n .a0)) .nil) (hd 49 rfl) ?_ (fun ch G hp => by simp at hp)
          rintro y G ⟨hy, rfl⟩; injection hy with hy; subst hy
          show JA _ _ _ _ _ ((49, .a [.b (decide ((-w) < 0)), .o 11 0 0 (lm (-w)).length]) :: _) _ _
          refine Ai S10_111000 3 (.cons rfl (.cons rfl (.cons rfl .nil)))
        have S10_100000 : JA Try.prog ops1 5 #[true, false, false, false, false, false] Γ ([(48, (qf w))] ++ F0) [(oqf 0 v), (oqf 0 w), (oqm 0), (oqm 0), (oqf 1 w), (oqf 1 0), (oqt 0 0), (oqt 0 y1), (oqf 0 (wq 4 v w)), (oqf 0 0), (oqt 0 y1)] Q1 := by
          subst ho; subst hF; refine Bz 2 [3, 4, 5] (Ao (Ah Aq rfl rfl rfl rfl) (hd 50 rfl)) rfl (by kernel_rfl) (by kernel_rfl) (by kernel_rfl) (by kernel_rfl) hpan ?_
          refine Ai S10_101000 2 (.cons rfl (.cons rfl .nil))
        have S10_000000 : JA Try.prog ops1 6 #[false, false, false, false, false, false] Γ ([] ++ F0) [(oqf 0 v), (oqf 0 w), (oqm 0), (oqm 0), (oqf 1 w), (oqf 1 0), (oqt 0 0), (oqt 0 y1), (oqf 0 (wq 4 v w)), (oqf 0 0), (oqt 0 y1)] Q1 := by
          subst ho; subst hF; refine Bz 0 [1, 3, 4, 5] (Ao (Ah Aq rfl rfl rfl rfl) (hd 48 rfl)) rfl (by kernel_rfl) (by kernel_rfl) (by kernel_rfl) (by kernel_rfl) hpan ?_
          refine Ai S10_100000 1 (.cons rfl .nil)
        subst ho; subst hF
        exact D2 (m := []) (by decide) rfl (Ba 0 rfl rfl .nil) S10_000000
      have S8_1110 : JA Try.prog ops1 1 #[true, true, true, false] Γ ([(43, (qt 0)), (44, (qt y1))] ++ F0) [(oqf 0 v), (oqf 0 w), (oqm 0), (oqm 0), (oqf 1 w), (oqf 1 0), (oqt 0 0), (oqt 0 0), (oqf 0 (wq 4 v w)), (oqf 0 0), (oqt 0 y1)] Q1 := by
        subst ho; subst hF
        refine Bb 3 ?_ rfl (by kernel_rfl)
        refine A7 (Ae rfl rfl rfl Au rfl rfl (zlb rfl)) rfl ?_
        refine Ai S8_1111 2 (.cons rfl (.cons rfl .nil))
      have S8_1100 : JA Try.prog ops1 2 #[true, true, false, false] Γ ([(43, (qt 0)), (44, (qt y1))] ++ F0) [(oqf 0 v), (oqf 0 w), (oqm 0), (oqm 0), (oqf 1 w), (oqf 1 0), (oqt 0 1), (oqt 0 0), (oqf 0 (wq 4 v w)), (oqf 0 0), (oqt 0 y1)] Q1 := by
        subst ho; subst hF
        refine Bb 2 ?_ rfl (by kernel_rfl)
        refine A7 (Ae rfl rfl rfl Au rfl rfl (zlb rfl)) rfl ?_
        refine Ai S8_1110 2 (.cons rfl (.cons rfl .nil))
      have S8_1010 : JA Try.prog ops1 2 #[true, false, true, false] Γ ([(43, (qt 0))] ++ F0) [(oqf 0 v), (oqf 0 w), (oqm 0), (oqm 0), (oqf 1 w), (oqf 1 0), (oqt 0 0), (oqt 0 0), (oqf 0 (wq 4 v w)), (oqf 0 0), (oqt 0 y1)] Q1 := by
        subst ho; subst hF; refine Bz 1 [3] (Ao (Ah Aq rfl rfl rfl rfl) (hd 44 rfl)) rfl (by kernel_rfl) (by kernel_rfl) (by kernel_rfl) (by kernel_rfl) hpan ?_
        refine Ai S8_1110 2 (.cons rfl (.cons rfl .nil))
      have S8_1000 : JA Try.prog ops1 3 #[true, false, false, false] Γ ([(43, (qt 0))] ++ F0) [(oqf 0 v), (oqf 0 w), (oqm 0), (oqm 0), (oqf 1 w), (oqf 1 0), (oqt 0 1), (oqt 0 0), (oqf 0 (wq 4 v w)), (oqf 0 0), (oqt 0 y1)] Q1 := by
        subst ho; subst hF
        refine Ct 1 2 ?_ ?_ rfl rfl (by kernel_rfl)
        · refine C4 (Ah Aq rfl rfl rfl rfl) (hd 44 rfl) ?_
          refine Ai S8_1100 2 (.cons rfl (.cons rfl .nil))
        · refine A7 (Ae rfl rfl rfl Au rfl rfl (zlb rfl)) rfl ?_
          refine Ai S8_1010 1 (.cons rfl .nil)
      have S8_0000 : JA Try.prog ops1 4 #[false, false, false, false] Γ ([] ++ F0) [(oqf 0 v), (oqf 0 w), (oqm 0), (oqm 0), (oqf 1 w), (oqf 1 0), (oqt 0 1), (oqt 0 0), (oqf 0 (wq 4 v w)), (oqf 0 0), (oqt 0 y1)] Q1 := by
        subst ho; subst hF; refine Bz 0 [2, 3] (Ao (Ah Aq rfl rfl rfl rfl) (hd 43 rfl)) rfl (by kernel_rfl) (by kernel_rfl) (by kernel_rfl) (by kernel_rfl) hpan ?_
        refine Ai S8_1000 1 (.cons rfl .nil)
      subst ho; subst hF
      exact D2 (m := []) (by decide) rfl (Ba 0 rfl rfl .nil) S8_0000
    have S5_1110 : JA Try.prog ops1 1 #[true, true, true, false] Γ ([(29, (qf w)), (30, (qf 0))] ++ F0) [(oqf 0 v), (oqf 0 w), (oqm 0), (oqm 0), (oqf 1 w), (oqf 1 w), (oqt 0 1), (oqt 0 0), (oqf 0 (wq 4 v w)), (oqf 0 0)] Q1 := by
      subst ho; subst hF
      refine Bb 3 ?_ rfl (by kernel_rfl)
      refine A7 (Ae rfl rfl rfl Au rfl rfl (zlb rfl)) rfl ?_
      refine Ai S5_1111 2 (.cons rfl (.cons rfl .nil))
    have S5_1100 : JA Try.prog ops1 2 #[true, true, false, false] Γ ([(29, (qf w)), (30, (qf 0))] ++ F0) [(oqf 0 v), (oqf 0 w), (oqm 0), (oqm 0), (oqf 1 v), (oqf 1 w), (oqt 0 1), (oqt 0 0), (oqf 0 (wq 4 v w)), (oqf 0 0)] Q1 := by
      subst ho; subst hF
      refine Bb 2 ?_ rfl (by kernel_rfl)
      refine A7 (Ae rfl rfl rfl Au rfl rfl (zlb rfl)) rfl ?_
      refine Ai S5_1110 2 (.cons rfl (.cons rfl .nil))
    have S5_1010 : JA Try.prog ops1 2 #[true, false, true, false] Γ ([(29, (qf w))] ++ F0) [(oqf 0 v), (oqf 0 w), (oqm 0), (oqm 0), (oqf 1 w), (oqf 1 w), (oqt 0 1), (oqt 0 0), (oqf 0 (wq 4 v w)), (oqf 0 0)] Q1 := by
      subst ho; subst hF; refine Bz 1 [3] (Ao (Ah Aq rfl rfl rfl rfl) (hd 30 rfl)) rfl (by kernel_rfl) (by kernel_rfl) (by kernel_rfl) (by kernel_rfl) hpan ?_
      refine Ai S5_1110 2 (.cons rfl (.cons rfl .nil))
    have S5_1000 : JA Try.prog ops1 3 #[true, false, false, false] Γ ([(29, (qf w))] ++ F0) [(oqf 0 v), (oqf 0 w), (oqm 0), (oqm 0), (oqf 1 v), (oqf 1 w), (oqt 0 1), (oqt 0 0), (oqf 0 (wq 4 v w)), (oqf 0 0)] Q1 := by
      subst ho; subst hF
      refine Ct 1 2 ?_ ?_ rfl rfl (by kernel_rfl)
      · refine C4 (Ah Aq rfl rfl rfl rfl) (hd 30 rfl) ?_
        refine Ai S5_1100 2 (.cons rfl (.cons rfl .nil))
      · refine A7 (Ae rfl rfl rfl Au rfl rfl (zlb rfl)) rfl ?_
        refine Ai S5_1010 1 (.cons rfl .nil)
    have S5_0000 : JA Try.prog ops1 4 #[false, false, false, false] Γ ([] ++ F0) [(oqf 0 v), (oqf 0 w), (oqm 0), (oqm 0), (oqf 1 v), (oqf 1 w), (oqt 0 1), (oqt 0 0), (oqf 0 (wq 4 v w)), (oqf 0 0)] Q1 := by
      subst ho; subst hF; refine Bz 0 [2, 3] (Ao (Ah Aq rfl rfl rfl rfl) (hd 29 rfl)) rfl (by kernel_rfl) (by kernel_rfl) (by kernel_rfl) (by kernel_rfl) hpan ?_
      refine Ai S5_1000 1 (.cons rfl .nil)
    subst ho; subst hF
    exact D2 (m := []) (by decide) rfl (Ba 0 rfl rfl .nil) S5_0000
  have S1_111110 : JA Try.prog ops1 1 #[true, true, true, true, true, false] Γ ([(6, .p 4 1 0), (7, .p 5 1 0), (15, (qf v)), (16, (qf w))] ++ F0) [(oqf 0 v), (oqf 0 w), (oqm 0), (oqm 0), (oqf 1 v), (oqm 1)] Q1 := by
    subst ho; subst hF
    refine Bb 5 ?_ rfl (by kernel_rfl)
    refine A7 (Ae rfl rfl rfl Au rfl rfl (zlb rfl)) rfl ?_
    refine Ai S1_111111 4 (.cons rfl (.cons rfl (.cons rfl (.cons rfl .nil))))
  have S1_111100 : JA Try.prog ops1 2 #[true, true, true, true, false, false] Γ ([(6, .p 4 1 0), (7, .p 5 1 0), (15, (qf v)), (16, (qf w))] ++ F0) [(oqf 0 v), (oqf 0 w), (oqm 0), (oqm 0), (oqm 1), (oqm 1)] Q1 := by
    subst ho; subst hF
    refine Bb 4 ?_ rfl (by kernel_rfl)
    refine A7 (Ae rfl rfl rfl Au rfl rfl (zlb rfl)) rfl ?_
    refine Ai S1_111110 4 (.cons rfl (.cons rfl (.cons rfl (.cons rfl .nil))))
  have S1_111000 : JA Try.prog ops1 3 #[true, true, true, false, false, false] Γ ([(6, .p 4 1 0), (15, (qf v)), (16, (qf w))] ++ F0) [(oqf 0 v), (oqf 0 w), (oqm 0), (oqm 0), (oqm 1), oqh] Q1 := by
    subst ho; subst hF
    refine Bb 3 ?_ rfl (by kernel_rfl)
    refine Cw (A6 (id := 5) At (by decide) rfl (by decide) rfl) (hd 7 rfl) ?_
    refine Ai S1_111100 4 (.cons rfl (.cons rfl (.cons rfl (.cons rfl .nil))))
  have S1_110100 : JA Try.prog ops1 3 #[true, true, false, true, false, false] Γ ([(7, .p 5 1 0), (15, (qf v)), (16, (qf w))] ++ F0) [(oqf 0 v), (oqf 0 w), (oqm 0), (oqm 0), oqh, (oqm 1)] Q1 := by
    subst ho; subst hF
    refine Bb 2 ?_ rfl (by kernel_rfl)
    refine Cw (A6 (id := 4) At (by decide) rfl (by decide) rfl) (hd 6 rfl) ?_
    refine Ai S1_111100 4 (.cons rfl (.cons rfl (.cons rfl (.cons rfl .nil))))
  have S1_110000 : JA Try.prog ops1 4 #[true, true, false, false, false, false] Γ ([(15, (qf v)), (16, (qf w))] ++ F0) [(oqf 0 v), (oqf 0 w), (oqm 0), (oqm 0), oqh, oqh] Q1 := by
    subst ho; subst hF
    refine Ct 2 3 ?_ ?_ rfl rfl (by kernel_rfl)
    · refine Cw (A6 (id := 4) At (by decide) rfl (by decide) rfl) (hd 6 rfl) ?_
      refine Ai S1_111000 3 (.cons rfl (.cons rfl (.cons rfl .nil)))
    · refine Cw (A6 (id := 5) At (by decide) rfl (by decide) rfl) (hd 7 rfl) ?_
      refine Ai S1_110100 3 (.cons rfl (.cons rfl (.cons rfl .nil)))
  have S1_101110 : JA Try.prog ops1 2 #[true, false, true, true, true, false] Γ ([(6, .p 4 1 0), (7, .p 5 1 0), (15, (qf v))] ++ F0) [(oqf 0 v), (oqf 0 w), (oqm 0), (oqm 0), (oqf 1 v), (oqm 1)] Q1 := by
    subst ho; subst hF; refine Bz 1 [5] (Ao (Ah Aq rfl rfl rfl rfl) (hd 16 rfl)) rfl (by kernel_rfl) (by kernel_rfl) (by kernel_rfl) (by kernel_rfl) hpan ?_
    refine Ai S1_111110 4 (.cons rfl (.cons rfl (.cons rfl (.cons rfl .nil))))
  have S1_101100 : JA Try.prog ops1 3 #[true, false, true, true, false, false] Γ ([(6, .p 4 1 0), (7, .p 5 1 0), (15, (qf v))] ++ F0) [(oqf 0 v), (oqf 0 w), (oqm 0), (oqm 0), (oqm 1), (oqm 1)] Q1 := by
    subst ho; subst hF
    refine Ct 1 4 ?_ ?_ rfl rfl (by kernel_rfl)
    · refine C4 (Ah Aq rfl rfl rfl rfl) (hd 16 rfl) ?_
      refine Ai S1_111100 4 (.cons rfl (.cons rfl (.cons rfl (.cons rfl .nil))))
    · refine A7 (Ae rfl rfl rfl Au rfl rfl (zlb rfl)) rfl ?_
      refine Ai S1_101110 3 (.cons rfl (.cons rfl (.cons rfl .nil)))
  have S1_101000 : JA Try.prog ops1 4 #[true, false, true, false, false, false] Γ ([(6, .p 4 1 0), (15, (qf v))] ++ F0) [(oqf 0 v), (oqf 0 w), (oqm 0), (oqm 0), (oqm 1), oqh] Q1 := by
    subst ho; subst hF
    refine Ct 1 3 ?_ ?_ rfl rfl (by kernel_rfl)
    · refine C4 (Ah Aq rfl rfl rfl rfl) (hd 16 rfl) ?_
      refine Ai S1_111000 3 (.cons rfl (.cons rfl (.cons rfl .nil)))
    · refine Cw (A6 (id := 5) At (by decide) rfl (by decide) rfl) (hd 7 rfl) ?_
      refine Ai S1_101100 3 (.cons rfl (.cons rfl (.cons rfl .nil)))
  have S1_100100 : JA Try.prog ops1 4 #[true, false, false, true, false, false] Γ ([(7, .p 5 1 0), (15, (qf v))] ++ F0) [(oqf 0 v), (oqf 0 w), (oqm 0), (oqm 0), oqh, (oqm 1)] Q1 := by
    subst ho; subst hF
    refine Ct 1 2 ?_ ?_ rfl rfl (by kernel_rfl)
    · refine C4 (Ah Aq rfl rfl rfl rfl) (hd 16 rfl) ?_
      refine Ai S1_110100 3 (.cons rfl (.cons rfl (.cons rfl .nil)))
    · refine Cw (A6 (id := 4) At (by decide) rfl (by decide) rfl) (hd 6 rfl) ?_
      refine Ai S1_101100 3 (.cons rfl (.cons rfl (.cons rfl .nil)))
  have S1_100000 : JA Try.prog ops1 5 #[true, false, false, false, false, false] Γ ([(15, (qf v))] ++ F0) [(oqf 0 v), (oqf 0 w), (oqm 0), (oqm 0), oqh, oqh] Q1 := by
    subst ho; subst hF
    refine Rc 1 2 3 ?_ ?_ ?_ rfl rfl rfl (by kernel_rfl)
    · refine C4 (Ah Aq rfl rfl rfl rfl) (hd 16 rfl) ?_
      refine Ai S1_110000 2 (.cons rfl (.cons rfl .nil))
    · refine Cw (A6 (id := 4) At (by decide) rfl (by decide) rfl) (hd 6 rfl) ?_
      refine Ai S1_101000 2 (.cons rfl (.cons rfl .nil))
    · refine Cw (A6 (id := 5) At (by decide) rfl (by decide) rfl) (hd 7 rfl) ?_
      refine Ai S1_100100 2 (.cons rfl (.cons rfl .nil))
  have S1_000000 : JA Try.prog ops1 6 #[false, false, false, false, false, false] Γ ([] ++ F0) [(oqf 0 v), (oqf 0 w), (oqm 0), (oqm 0), oqh, oqh] Q1 := by
    subst ho; subst hF; refine Bz 0 [4, 5] (Ao (Ah Aq rfl rfl rfl rfl) (hd 15 rfl)) rfl (by kernel_rfl) (by kernel_rfl) (by kernel_rfl) (by kernel_rfl) hpan ?_
    refine Ai S1_100000 1 (.cons rfl .nil)
  subst ho; subst hF
  exact D2 (m := []) (by decide) rfl (Ba 0 rfl rfl .nil) S1_000000
end Go.Proofs.Ythbbbopbglbagaa.Vc
