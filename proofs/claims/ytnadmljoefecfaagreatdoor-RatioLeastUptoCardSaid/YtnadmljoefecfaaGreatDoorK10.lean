/- The law RatioLeast of every input of bulk at most 1048576: it returns true, and the input reads as it did. Texts joined: Dl, Dm, Dn, Do, Dp, RLeast. -/
import Derived.Test.YtnadmljoefecfaaGreatDoorK9
import Derived.Test.YtnadmljoefecfaaGreatDoorRows
import Derived.Test.YtnadmljoefecfaaGreatDoorCards
import Derived.Test.YtnadmljoefecfaaGreatDoorTie
import Derived.WalkKit
import Derived.Deep.DeepHandedRow
import Derived.Lib.LaidTab
import Derived.ProofKit
import Derived.OpenShut
import Derived.Carry
import Derived.JoinedCond
set_option linter.unusedVariables false
set_option linter.unusedSimpArgs false
set_option maxHeartbeats 4000000
namespace Go.Proofs.YtnadmljoefecfaaGreatDoor.Vc
open Go Go.RowKit
theorem Sx (n x y z w P Q L : Nat) (h : Smp n x y z w) (hP : (smN n x y z w).1 = P) (hQ : (smN n x y z w).2 = Q) (hxL : x ≤ L) (hyL : y ≤ L) (hzL : z ≤ L) (hwL : w ≤ L) (hLb : Al (L : Int) ≤ 1048600) : SpecT Tryz.prog 51 0 tzCells [(.a [.b false, .n false .u64 (lm ((x : Nat) : Int)), .n false .u64 (lm ((y : Nat) : Int))]), (.a [.b false, .n false .u64 (lm ((z : Nat) : Int)), .n false .u64 (lm ((w : Nat) : Int))])] (fun o => o = .ret (.a [.b (decide ((P : Int) < 0)), .n false .u64 (lm (P : Int)), .n false .u64 (lm (Q : Int))])) := by
  refine Ju [(0, (.a [.b false, .n false .u64 (lm ((x : Nat) : Int)), .n false .u64 (lm ((y : Nat) : Int))])), (1, (.a [.b false, .n false .u64 (lm ((z : Nat) : Int)), .n false .u64 (lm ((w : Nat) : Int))]))] rfl Tryz.func51 rfl (Zb rfl) fun Γ hTb hN hds hL hR => ?_
  have hd := B2 61 hN
  have hch := Acx h
  have hre := Smp.res h
  rw [hP, hQ] at hch hre
  have hcl : (cfR (P : Int) Q (n + 1)).length = n + 1 := Qq
  have hb9 := h.bnd
  rw [hP, hQ] at hb9
  have lP : Al (P : Int) ≤ 1048600 := Nat.le_trans (Cn (Nat.le_trans hb9.1 hxL)) hLb
  have lQ : Al (Q : Int) ≤ 1048600 := Nat.le_trans (Cn (Nat.le_trans hb9.2 hyL)) hLb
  have hnl : n + 1 ≤ 2097300 := hch.len lQ
  have hUn : Spec Tryz.prog 96 [.l false 2 (cfR (P : Int) Q (n + 1))] (fun o => o = .ret (.t [(.a [.b (decide ((P : Int) < 0)), .n false .u64 (lm (P : Int)), .n false .u64 (lm (Q : Int))]), .i .i64 0])) := W7 (P : Int) Q (n + 1) hch lP lQ
  have hIn : Spec Tryz.prog 46 [.i .i64 1] (fun o => o = .ret (.a [.b false, .n true .u64 [1], .n true .u64 [1]])) := by have h9 := Jp 1 (by unfold inI; omega); rwa [show decide ((1 : Int) < 0) = false from rfl, show lm (1 : Int) = [1] from M9, M9] at h9
  have hF1 : Spec Tryz.prog 35 [.i .u64 1] (fun o => o = .ret (.n true .u64 [1])) := by have h := Gn 1; rwa [if_neg (by decide)] at h
  refine Zs <| A1 (Bn (id := 0) (n := 3) rfl rfl rfl (by decide) rfl) (hd 2 rfl) <| A1 (Bn (id := 1) (n := 3) rfl rfl rfl (by decide) rfl) (hd 3 rfl) <| A1 (Aq (id := 2) B4 (by decide) rfl (by decide) rfl) (hd 4 rfl) <| Ab <| Zs <| Za rfl (hd 5 rfl) <| Ab <| At <| Vs (id := 3) 5 25 2 rfl rfl ?_
  refine Fy (G := Nat × Nat × Nat × Nat × Nat) 4 (fun g => g.1 ≤ n ∧ smP g.1 x y z w = (g.2.1, g.2.2.1, g.2.2.2.1, g.2.2.2.2)) (fun g => [(5, .o 3 g.1 0 g.1), (6, .u), (7, .u), (8, .u), (9, .u), (10, .u), (11, .u), (12, .u), (13, .u), (14, .u), (15, .u), (16, .u), (17, .u), (18, .u), (19, .u), (20, .u), (21, .u), (22, .u), (23, .u), (24, .u), (25, .u), (26, .u), (27, .u), (28, .u), (29, .u), (30, .u), (31, .u), (32, .u), (33, .u), (34, .u), (35, .u), (36, .u), (37, .u), (38, .u), (39, .u), (40, .u), (41, .u), (42, .u), (43, .u), (44, .u), (45, .u), (46, .u), (47, .u), (48, .u), (49, .u), (50, .u), (51, .u), (52, .u), (53, .u), (54, .u), (55, .u), (56, .u), (57, .u), (58, .u), (59, .u), (60, .u)]) (fun g => [⟨27, 3, 0, true, [.b false, .n false .u64 (lm ((g.2.1 : Nat) : Int)), .n false .u64 (lm ((g.2.2.1 : Nat) : Int))]⟩, ⟨27, 3, 0, true, [.b false, .n false .u64 (lm ((g.2.2.2.1 : Nat) : Int)), .n false .u64 (lm ((g.2.2.2.2 : Nat) : Int))]⟩, ⟨27, 3, 0, true, [.b false, .c (.slice none 0 0), .c (.slice none 0 0)]⟩, ⟨25, 2, g.1, true, (cfR (P : Int) Q g.1).flatten⟩]) (fun g => n - g.1) (0, x, y, z, w) ?_ ?_ rfl hR rfl (fun _ _ => rfl) (fun g hg => .cons rfl (.cons rfl (.cons rfl (.cons (Ah9 _) .nil)))) ?_
  · exact ⟨Nat.zero_le _, rfl⟩
  · exact (.cons rfl (.v9 (.v9 (.v9 (.v9 (.v9 (.v5 .nil)))))))
  · rintro ⟨k, a1, b1, c1, d1⟩ ⟨hk, he⟩
    dsimp only at hk he ⊢
    have hs := Smp.at h hk he
    have hok := hs.ok
    have hbd := T9 h hk he hxL hyL hzL hwL
    have la := Nat.le_trans (Cn hbd.1) hLb
    have lb := Nat.le_trans (Cn hbd.2.1) hLb
    have lc := Nat.le_trans (Cn hbd.2.2.1) hLb
    have ld := Nat.le_trans (Cn hbd.2.2.2) hLb
    have ha0 : a1 ≠ 0 := Nat.pos_iff_ne_zero.1 hok.x0
    have hb0 : b1 ≠ 0 := Nat.pos_iff_ne_zero.1 hok.y0
    have hd0 : d1 ≠ 0 := Nat.pos_iff_ne_zero.1 hok.w0
    have hc0 : c1 ≠ 0 := by have h1 := hok.le; have h2 := Nat.mul_pos hok.x0 hok.w0; intro e; rw [e, Nat.zero_mul] at h1; omega
    have hUp := Akw a1 b1 ha0 hb0 hok.c1 (by omega) (by omega)
    have hDn := Akv c1 d1 hc0 hd0 hok.c2 (by omega) (by omega)
    have lup : Al ((cdN a1 b1 : Nat) : Int) ≤ 1048601 := Nat.le_trans (Cn (show cdN a1 b1 ≤ a1 + 1 by have h9 : a1 / b1 ≤ a1 := Nat.div_le_self a1 b1; unfold cdN; split <;> omega)) (by have h9 := Iq (a1 : Int) 1; have h8 : Al (1 : Int) = 1 := (by decide); rw [show (((a1 + 1 : Nat)) : Int) = (a1 : Int) + 1 from rfl]; omega)
    have ldn : Al ((c1 / d1 : Nat) : Int) ≤ 1048600 := Nat.le_trans (Cn (Nat.div_le_self c1 d1)) lc
    have hCm : Spec Tryz.prog 95 [.a [.b false, .n false .u64 (lm ((cdN a1 b1 : Nat) : Int))], .a [.b false, .n false .u64 (lm ((c1 / d1 : Nat) : Int))]] (fun o => o = .ret (.i .i64 (C1 ((cdN a1 b1 : Nat) : Int) ((c1 / d1 : Nat) : Int)))) := by have h9 := Aih false false (lm ((cdN a1 b1 : Nat) : Int)) (lm ((c1 / d1 : Nat) : Int)) (by have := (Rw.of (x := cdN a1 b1) (by omega)).l; omega) (by have := (Rw.of (x := c1 / d1) (by omega)).l; omega) (Cu _) (Cu _); rwa [Lj (s := false), Lj (s := false)] at h9
    have hkl : k ≤ 2097300 := by omega
    refine At <| Ae <| Jb 2 _ <| Bo (n := 14) _ rfl B9 ?_; refine L5 (fun _ _ _ _ h => h) fun ops1 Q1 F0 hpan ho hq hF => ?_
    have S2_0 : JA Tryz.prog ops1 0 (za 14 0x3fff) Γ ([(6, .p 4 1 0), (7, .p 5 1 0), (9, .u), (10, .u), (11, .u), (12, .u), (13, .u), (14, .u), (15, .u), (16, .u), (17, .u), (18, .u)] ++ F0) (oB a1 b1 c1 d1 [oL k P Q, oW (cdN a1 b1), oW (c1 / d1)]) Q1 := by
      subst ho; subst hq; subst hF; refine Bx (by kernel_rfl) <| Ae <| Zs <| Ac (Au Bw rfl rfl rfl rfl) (hd 19 rfl) <| Ac (Au Bw rfl rfl rfl rfl) (hd 20 rfl) ?_
      refine Ag Tryz.f95 (hCm) rfl Tryz.func95 rfl rfl (Aa rfl (Aa rfl Ad)) (.cons (.a1 .b (.a1 .n .a0)) (.cons (.a1 .b (.a1 .n .a0)) .nil)) (hd 21 rfl) ?_ (fun _ h => by simp at h)
      rintro _ ⟨⟩; refine Ac (Jq rfl rfl) (hd 22 rfl) <| Ab ?_
      refine Bh rfl (fun h1 => ?_) (fun h1 => ?_)
      · have hst : cdN a1 b1 ≤ c1 / d1 := by have h9 := Eo.1 h1; omega
        obtain rfl : k = n := by
          rcases Nat.lt_or_ge k n with h9 | h9
          · exfalso
            obtain ⟨m, hm⟩ : ∃ m, n - k = m + 1 := ⟨n - k - 1, by omega⟩
            rw [hm] at hs
            have := hs.2.1
            omega
          · omega
        have hzq := Ajs h he
        rw [hP, hQ] at hzq
        refine Zs <| Zm rfl (hd 23 rfl) <| Ac (Au Bw rfl rfl rfl rfl) (hd 24 rfl) <| A1 (Do (id := 6) (xs := [.tmp 24]) Ajf rfl (Aa rfl Ad) rfl (Cz rfl) (by decide) rfl) (hd 25 rfl) <| O2 Ajf rfl rfl Sm rfl (Pq rfl rfl rfl) (by omega) (by unfold maxLen; omega) (hd 26 rfl) <| Za rfl (hd 5 rfl) <| Ab <| Zs <| Zm rfl (hd 27 rfl) <| Dy 27 (sz := 2) (cfR (P : Int) Q (k + 1)) rfl rfl (by rw [Nn, hzq]; unfold Afj; rw [decide_eq_false (Int.not_lt.2 (Int.natCast_nonneg _))]; rfl) Qq Ae3 Z9 (by decide) hL ?_
        refine Ag Tryz.f96 (hUn) rfl Tryz.func96 rfl rfl (Aa rfl Ad) (.cons .l .nil) (hd 28 rfl) ?_ (fun _ h => by simp at h)
        rintro _ ⟨⟩; refine Ac (Ai rfl rfl) (hd 29 rfl) <| Ac (Ai rfl rfl) (hd 30 rfl) ?_
        refine Ag Tryz.f52 (K2 _ _ _) rfl Tryz.func52 rfl rfl (Aa rfl (Aa rfl Ad)) (.cons (.a1 .b (.a1 .n (.a1 .n .a0))) (.cons .i .nil)) (hd 31 rfl) ?_ (fun _ h => by simp at h)
        rintro _ ⟨⟩; refine A3 (Ah rfl rfl rfl Bq rfl rfl (Zb rfl)) <| Ab <| An ?_
        refine ⟨_, _, (.cons (ResV.cell Ap rfl rfl rfl rfl) .nil), (.a1 .b (.a1 .n (.a1 .n .a0))), ?_⟩
        exact rfl
      · have hst : c1 / d1 < cdN a1 b1 := by have h9 := mt Eo.2 h1; omega
        have hkn : k + 1 ≤ n := by
          rcases Nat.lt_or_ge k n with h9 | h9
          · exact h9
          · exfalso
            rw [show n - k = 0 by omega] at hs
            have := hs.2
            omega
        have hzq := Ajt h (by omega) he
        rw [hP, hQ] at hzq
        have hsp := hok.step hst
        have hSb := Alh c1 d1 hd0 (Nat.pos_iff_ne_zero.1 hsp.2.2.1) hok.c2 lc ld
        have hSa := Alh a1 b1 hb0 (Nat.pos_iff_ne_zero.1 hsp.2.1) hok.c1 la lb
        rw [hsp.1] at hSa
        have hQb := Akp (c1 % d1) d1 (Nat.pos_iff_ne_zero.1 hsp.2.2.1) hd0 (by rw [Nat.gcd_comm, ← Nat.gcd_rec, Nat.gcd_comm]; exact hok.c2) (Nat.le_trans (Cn (Nat.mod_le c1 d1)) lc) ld
        have hQa := Akp (a1 % b1) b1 (Nat.pos_iff_ne_zero.1 hsp.2.1) hb0 (by rw [Nat.gcd_comm, ← Nat.gcd_rec, Nat.gcd_comm]; exact hok.c1) (Nat.le_trans (Cn (Nat.mod_le a1 b1)) la) lb
        refine Aj <| Zs <| Zm rfl (hd 32 rfl) <| Ac (Au Bw rfl rfl rfl rfl) (hd 33 rfl) <| A1 (Do (id := 6) (xs := [.tmp 33]) Ajf rfl (Aa rfl Ad) rfl (Cz rfl) (by decide) rfl) (hd 34 rfl) <| O2 Ajf rfl rfl Sm rfl (Pq rfl rfl rfl) (by omega) (by unfold maxLen; omega) (hd 35 rfl) <| Za rfl (hd 5 rfl) <| Ab <| Ae <| Nv (H' := (oC (a1) (b1) (c1) (d1) (k + 1) P Q (cdN a1 b1) (c1 / d1) (c1 / d1) [])) (by unfold oC oL oB; rw [Nn, hzq]; unfold Afj; rw [decide_eq_false (Int.not_lt.2 (Int.natCast_nonneg _))]; rfl) <| Jb 1 _ <| Bo (n := 5) _ rfl B9 ?_; refine L5 (fun _ _ _ _ h => h) fun ops1 Q1 F0 hpan ho hq hF => ?_
        have S7_0 : JA Tryz.prog ops1 0 (za 5 0x1f) Γ ([(8, .p 7 1 0), (36, .u), (37, .u), (38, .u)] ++ F0) (oC (a1) (b1) (c1) (d1) (k + 1) P Q (cdN a1 b1) (c1 / d1) (c1 / d1) [oK (c1 / d1)]) Q1 := by
          subst ho; subst hq; subst hF; refine Bx (by kernel_rfl) <| Bo (n := 24) _ rfl B9 ?_; refine L5 (fun _ _ _ _ h => h) fun ops1 Q1 F0 hpan ho hq hF => ?_
          have S8_0 : JA Tryz.prog ops1 0 (za 24 0xffffff) Γ ([(39, .u), (40, .u), (41, .u), (42, .u), (43, .u), (44, .u), (45, .u), (46, .u), (47, .u), (48, .u), (49, .u), (50, .u), (51, .u), (52, .u), (53, .u), (54, .u), (55, .u), (56, .u), (57, .u), (58, .u), (59, .u), (60, .u)] ++ F0) (oC (d1) (c1 % d1) (b1) (a1 % b1) (k + 1) P Q (cdN a1 b1) (c1 / d1) (c1 / d1) [oK (c1 / d1)]) Q1 := by
            subst ho; subst hq; subst hF; refine Bx (by kernel_rfl) ?_
            refine ⟨(k + 1, d1, c1 % d1, b1, a1 % b1), ?_, ?_, rfl, Bj 103 (by kernel_rfl) (by kernel_rfl) ?_⟩
            · exact ⟨hkn, Acy he⟩
            · show n - (k + 1) < n - k
              omega
            · exact (.cons rfl (.v9 (.v9 (.v9 (.v9 (.v9 (.v5 .nil)))))))
          have S8_1 : JA Tryz.prog ops1 1 (za 24 0x7fffff) Γ ([(39, .u), (40, .u), (41, .u), (42, .u), (43, .u), (44, .u), (45, .u), (46, .u), (47, .u), (48, .u), (49, .u), (50, .u), (51, .u), (52, .u), (53, .u), (54, .u), (55, .u), (56, .u), (57, .u), (58, .u), (59, .u), (60, (qR b1 (a1 % b1)))] ++ F0) (oC (d1) (c1 % d1) (c1) (d1) (k + 1) P Q (cdN a1 b1) (c1 / d1) (c1 / d1) [oK (c1 / d1)]) Q1 := by
            subst ho; subst hF
            refine Be 23 ?_ rfl (by kernel_rfl)
            refine Cl (Ah rfl rfl rfl Bq rfl rfl (Zb rfl)) rfl ?_
            refine As S8_0 22 (.v9 (.v9 (.u (.u .nil))))
          have S8_2 : JA Tryz.prog ops1 2 (za 24 0x3fffff) Γ ([(39, .u), (40, .u), (41, .u), (42, .u), (43, .u), (44, .u), (45, .u), (46, .u), (47, .u), (48, .u), (49, (qR d1 (c1 % d1))), (50, .u), (51, .u), (52, .u), (53, .u), (54, .u), (55, .u), (56, .u), (57, .u), (58, .u), (59, .u), (60, (qR b1 (a1 % b1)))] ++ F0) (oC (a1) (b1) (c1) (d1) (k + 1) P Q (cdN a1 b1) (c1 / d1) (c1 / d1) [oK (c1 / d1)]) Q1 := by
            subst ho; subst hF
            refine Be 22 ?_ rfl (by kernel_rfl)
            refine Cl (Ah rfl rfl rfl Bq rfl rfl (Zb rfl)) rfl ?_
            refine As S8_1 22 (.v9 (.v9 (.u (.cons rfl .nil))))
          have S8_3 : JA Tryz.prog ops1 3 (za 24 0x1fffff) Γ ([(39, .u), (40, .u), (41, .u), (42, .u), (43, .u), (44, .u), (45, .u), (46, .u), (47, .u), (48, .u), (49, (qR d1 (c1 % d1))), (50, .u), (51, .u), (52, .u), (53, .u), (54, .u), (55, .u), (56, .u), (57, .u), (58, (qR b1 (a1 % b1))), (59, .i .i64 0)] ++ F0) (oC (a1) (b1) (c1) (d1) (k + 1) P Q (cdN a1 b1) (c1 / d1) (c1 / d1) [oK (c1 / d1)]) Q1 := by
            subst ho; subst hF
            refine Be 21 ?_ rfl (by kernel_rfl)
            refine Ax Tryz.f52 (K2 _ _ _) rfl Tryz.func52 rfl rfl (Aa rfl (Aa rfl Ad)) (.cons (.a1 .b (.a1 .n (.a1 .n .a0))) (.cons .i .nil)) (hd 60 rfl) ?_ (fun _ h => by simp at h)
            rintro y hy; injection hy with hy; subst hy
            refine As S8_2 22 (.v9 (.cons rfl (.v9 (.cons rfl .nil))))
          have S8_4 : JA Tryz.prog ops1 4 (za 24 0xfffff) Γ ([(39, .u), (40, .u), (41, .u), (42, .u), (43, .u), (44, .u), (45, .u), (46, .u), (47, .u), (48, .u), (49, (qR d1 (c1 % d1))), (50, .u), (51, .u), (52, .u), (53, .u), (54, .u), (55, .u), (56, .u), (57, (q0 (qR b1 (a1 % b1)))), (58, (qR b1 (a1 % b1)))] ++ F0) (oC (a1) (b1) (c1) (d1) (k + 1) P Q (cdN a1 b1) (c1 / d1) (c1 / d1) [oK (c1 / d1)]) Q1 := by
            subst ho; subst hF; refine Bl 20 [21, 22, 23] (B3 rfl rfl (hd 59 rfl)) hpan rfl ?_
            refine As S8_3 21 (.v9 (.cons rfl (.v5 (.u (.u (.u (.cons rfl (.cons rfl .nil))))))))
          have S8_5 : JA Tryz.prog ops1 5 (za 24 0x7ffff) Γ ([(39, .u), (40, .u), (41, .u), (42, .u), (43, .u), (44, .u), (45, .u), (46, .u), (47, .u), (48, .u), (49, (qR d1 (c1 % d1))), (50, .u), (51, .u), (52, .u), (53, .u), (54, .u), (55, .u), (56, .u), (57, (q0 (qR b1 (a1 % b1))))] ++ F0) (oC (a1) (b1) (c1) (d1) (k + 1) P Q (cdN a1 b1) (c1 / d1) (c1 / d1) [oK (c1 / d1)]) Q1 := by
            subst ho; subst hF; refine Bl 19 [21, 22, 23] (B3 rfl rfl (hd 58 rfl)) hpan rfl ?_
            refine As S8_4 20 (.v9 (.cons rfl (.v5 (.u (.u (.cons rfl (.cons rfl .nil)))))))
          have S8_6 : JA Tryz.prog ops1 6 (za 24 0x3ffff) Γ ([(39, .u), (40, .u), (41, .u), (42, .u), (43, .u), (44, .u), (45, .u), (46, .u), (47, .u), (48, .u), (49, (qR d1 (c1 % d1))), (50, qI), (51, .u), (52, .u), (53, .u), (54, .u), (55, .u), (56, (qD a1 b1))] ++ F0) (oC (a1) (b1) (c1) (d1) (k + 1) P Q (cdN a1 b1) (c1 / d1) (c1 / d1) [oK (c1 / d1)]) Q1 := by
            subst ho; subst hF
            refine Be 18 ?_ rfl (by kernel_rfl)
            refine Ax Tryz.f45 (hQa) rfl Tryz.func45 rfl rfl (Aa rfl (Aa rfl Ad)) (.cons (.a1 .b (.a1 .n (.a1 .n .a0))) (.cons (.a1 .b (.a1 .n (.a1 .n .a0))) .nil)) (hd 57 rfl) ?_ (fun _ h => by simp at h)
            rintro y hy; injection hy with hy; subst hy
            refine As S8_5 19 (.v9 (.cons rfl (.v5 (.u (.u (.cons rfl .nil))))))
          have S8_7 : JA Tryz.prog ops1 7 (za 24 0x1ffff) Γ ([(39, .u), (40, .u), (41, .u), (42, .u), (43, .u), (44, .u), (45, .u), (46, .u), (47, .u), (48, .u), (49, (qR d1 (c1 % d1))), (50, qI), (51, .u), (52, .u), (53, .u), (54, (qD a1 b1)), (55, .i .i64 0)] ++ F0) (oC (a1) (b1) (c1) (d1) (k + 1) P Q (cdN a1 b1) (c1 / d1) (c1 / d1) [oK (c1 / d1)]) Q1 := by
            subst ho; subst hF
            refine Be 17 ?_ rfl (by kernel_rfl)
            refine Ax Tryz.f52 (K2 _ _ _) rfl Tryz.func52 rfl rfl (Aa rfl (Aa rfl Ad)) (.cons (.a1 .b (.a1 .n (.a1 .n .a0))) (.cons .i .nil)) (hd 56 rfl) ?_ (fun _ h => by simp at h)
            rintro y hy; injection hy with hy; subst hy
            refine As S8_6 18 (.v9 (.cons rfl (.cons rfl (.v5 (.cons rfl .nil)))))
          have S8_8 : JA Tryz.prog ops1 8 (za 24 0xffff) Γ ([(39, .u), (40, .u), (41, .u), (42, .u), (43, .u), (44, .u), (45, .u), (46, .u), (47, .u), (48, .u), (49, (qR d1 (c1 % d1))), (50, qI), (51, .u), (52, .u), (53, (q0 (qD a1 b1))), (54, (qD a1 b1))] ++ F0) (oC (a1) (b1) (c1) (d1) (k + 1) P Q (cdN a1 b1) (c1 / d1) (c1 / d1) [oK (c1 / d1)]) Q1 := by
            subst ho; subst hF; refine Bl 16 [17, 18, 19, 20, 21, 22, 23] (B3 rfl rfl (hd 55 rfl)) hpan rfl ?_
            refine As S8_7 17 (.v9 (.cons rfl (.cons rfl (.u (.u (.u (.cons rfl (.cons rfl .nil))))))))
          have S8_9 : JA Tryz.prog ops1 9 (za 24 0x7fff) Γ ([(39, .u), (40, .u), (41, .u), (42, .u), (43, .u), (44, .u), (45, .u), (46, .u), (47, .u), (48, .u), (49, (qR d1 (c1 % d1))), (50, qI), (51, .u), (52, .u), (53, (q0 (qD a1 b1)))] ++ F0) (oC (a1) (b1) (c1) (d1) (k + 1) P Q (cdN a1 b1) (c1 / d1) (c1 / d1) [oK (c1 / d1)]) Q1 := by
            subst ho; subst hF; refine Bl 15 [17, 18, 19, 20, 21, 22, 23] (B3 rfl rfl (hd 54 rfl)) hpan rfl ?_
            refine As S8_8 16 (.v9 (.cons rfl (.cons rfl (.u (.u (.cons rfl (.cons rfl .nil)))))))
          have S8_10 : JA Tryz.prog ops1 10 (za 24 0x3fff) Γ ([(39, .u), (40, .u), (41, .u), (42, .u), (43, .u), (44, .u), (45, .u), (46, .u), (47, .u), (48, .u), (49, (qR d1 (c1 % d1))), (50, qI), (51, (qR a1 b1)), (52, (qK (c1 / d1)))] ++ F0) (oC (a1) (b1) (c1) (d1) (k + 1) P Q (cdN a1 b1) (c1 / d1) (c1 / d1) [oK (c1 / d1)]) Q1 := by
            subst ho; subst hF
            refine Be 14 ?_ rfl (by kernel_rfl)
            refine Ax Tryz.f97 (hSa) rfl Tryz.func97 rfl rfl (Aa rfl (Aa rfl Ad)) (.cons (.a1 .b (.a1 .n (.a1 .n .a0))) (.cons (.a1 .b (.a1 .n (.a1 .n .a0))) .nil)) (hd 53 rfl) ?_ (fun _ h => by simp at h)
            rintro y hy; injection hy with hy; subst hy
            refine As S8_9 15 (.v9 (.cons rfl (.cons rfl (.u (.u (.cons rfl .nil))))))
          have S8_11 : JA Tryz.prog ops1 11 (za 24 0x37ff) Γ ([(39, .u), (40, .u), (41, .u), (42, .u), (43, .u), (44, .u), (45, .u), (46, .u), (47, .u), (48, .u), (49, (qR d1 (c1 % d1))), (51, (qR a1 b1)), (52, (qK (c1 / d1)))] ++ F0) (oC (a1) (b1) (c1) (d1) (k + 1) P Q (cdN a1 b1) (c1 / d1) (c1 / d1) [oK (c1 / d1)]) Q1 := by
            subst ho; subst hF
            refine Be 11 ?_ rfl (by kernel_rfl)
            refine Ax Tryz.f46 (hIn) rfl Tryz.func46 rfl rfl (Aa rfl Ad) (.cons .i .nil) (hd 50 rfl) ?_ (fun _ h => by simp at h)
            rintro y hy; injection hy with hy; subst hy
            refine As S8_10 14 (.v9 (.cons rfl (.cons rfl (.cons rfl (.cons rfl .nil)))))
          have S8_12 : JA Tryz.prog ops1 12 (za 24 0x33ff) Γ ([(39, .u), (40, .u), (41, .u), (42, .u), (43, .u), (44, .u), (45, .u), (46, .u), (47, (qR d1 (c1 % d1))), (48, .i .i64 0), (51, (qR a1 b1)), (52, (qK (c1 / d1)))] ++ F0) (oC (a1) (b1) (c1) (d1) (k + 1) P Q (cdN a1 b1) (c1 / d1) (c1 / d1) [oK (c1 / d1)]) Q1 := by
            subst ho; subst hF
            refine Be 10 ?_ rfl (by kernel_rfl)
            refine Ax Tryz.f52 (K2 _ _ _) rfl Tryz.func52 rfl rfl (Aa rfl (Aa rfl Ad)) (.cons (.a1 .b (.a1 .n (.a1 .n .a0))) (.cons .i .nil)) (hd 49 rfl) ?_ (fun _ h => by simp at h)
            rintro y hy; injection hy with hy; subst hy
            refine As S8_11 13 (.v9 (.cons rfl (.cons rfl (.cons rfl .nil))))
          have S8_13 : JA Tryz.prog ops1 13 (za 24 0x31ff) Γ ([(39, .u), (40, .u), (41, .u), (42, .u), (43, .u), (44, .u), (45, .u), (46, (q0 (qR d1 (c1 % d1)))), (47, (qR d1 (c1 % d1))), (51, (qR a1 b1)), (52, (qK (c1 / d1)))] ++ F0) (oC (a1) (b1) (c1) (d1) (k + 1) P Q (cdN a1 b1) (c1 / d1) (c1 / d1) [oK (c1 / d1)]) Q1 := by
            subst ho; subst hF; refine Bl 9 [10, 11, 14, 15, 16, 17, 18, 19, 20, 21, 22, 23] (B3 rfl rfl (hd 48 rfl)) hpan rfl ?_
            refine As S8_12 12 (.v5 (.u (.u (.u (.cons rfl (.cons rfl (.cons rfl (.cons rfl .nil))))))))
          have S8_14 : JA Tryz.prog ops1 14 (za 24 0x30ff) Γ ([(39, .u), (40, .u), (41, .u), (42, .u), (43, .u), (44, .u), (45, .u), (46, (q0 (qR d1 (c1 % d1)))), (51, (qR a1 b1)), (52, (qK (c1 / d1)))] ++ F0) (oC (a1) (b1) (c1) (d1) (k + 1) P Q (cdN a1 b1) (c1 / d1) (c1 / d1) [oK (c1 / d1)]) Q1 := by
            subst ho; subst hF; refine Bl 8 [10, 11, 14, 15, 16, 17, 18, 19, 20, 21, 22, 23] (B3 rfl rfl (hd 47 rfl)) hpan rfl ?_
            refine As S8_13 11 (.v5 (.u (.u (.cons rfl (.cons rfl (.cons rfl (.cons rfl .nil)))))))
          have S8_15 : JA Tryz.prog ops1 15 (za 24 0x307f) Γ ([(39, qI), (40, .u), (41, .u), (42, .u), (43, .u), (44, .u), (45, (qD c1 d1)), (51, (qR a1 b1)), (52, (qK (c1 / d1)))] ++ F0) (oC (a1) (b1) (c1) (d1) (k + 1) P Q (cdN a1 b1) (c1 / d1) (c1 / d1) [oK (c1 / d1)]) Q1 := by
            subst ho; subst hF
            refine Be 7 ?_ rfl (by kernel_rfl)
            refine Ax Tryz.f45 (hQb) rfl Tryz.func45 rfl rfl (Aa rfl (Aa rfl Ad)) (.cons (.a1 .b (.a1 .n (.a1 .n .a0))) (.cons (.a1 .b (.a1 .n (.a1 .n .a0))) .nil)) (hd 46 rfl) ?_ (fun _ h => by simp at h)
            rintro y hy; injection hy with hy; subst hy
            refine As S8_14 10 (.v5 (.u (.u (.cons rfl (.cons rfl (.cons rfl .nil))))))
          have S8_16 : JA Tryz.prog ops1 16 (za 24 0x303f) Γ ([(39, qI), (40, .u), (41, .u), (42, .u), (43, (qD c1 d1)), (44, .i .i64 0), (51, (qR a1 b1)), (52, (qK (c1 / d1)))] ++ F0) (oC (a1) (b1) (c1) (d1) (k + 1) P Q (cdN a1 b1) (c1 / d1) (c1 / d1) [oK (c1 / d1)]) Q1 := by
            subst ho; subst hF
            refine Be 6 ?_ rfl (by kernel_rfl)
            refine Ax Tryz.f52 (K2 _ _ _) rfl Tryz.func52 rfl rfl (Aa rfl (Aa rfl Ad)) (.cons (.a1 .b (.a1 .n (.a1 .n .a0))) (.cons .i .nil)) (hd 45 rfl) ?_ (fun _ h => by simp at h)
            rintro y hy; injection hy with hy; subst hy
            refine As S8_15 9 (.cons rfl (.v5 (.cons rfl (.cons rfl (.cons rfl .nil)))))
          have S8_17 : JA Tryz.prog ops1 17 (za 24 0x301f) Γ ([(39, qI), (40, .u), (41, .u), (42, (q0 (qD c1 d1))), (43, (qD c1 d1)), (51, (qR a1 b1)), (52, (qK (c1 / d1)))] ++ F0) (oC (a1) (b1) (c1) (d1) (k + 1) P Q (cdN a1 b1) (c1 / d1) (c1 / d1) [oK (c1 / d1)]) Q1 := by
            subst ho; subst hF; refine Bl 5 [6, 7, 8, 9, 10, 11, 14, 15, 16, 17, 18, 19, 20, 21, 22, 23] (B3 rfl rfl (hd 44 rfl)) hpan rfl ?_
            refine As S8_16 8 (.cons rfl (.u (.u (.u (.cons rfl (.cons rfl (.cons rfl (.cons rfl .nil))))))))
          have S8_18 : JA Tryz.prog ops1 18 (za 24 0x300f) Γ ([(39, qI), (40, .u), (41, .u), (42, (q0 (qD c1 d1))), (51, (qR a1 b1)), (52, (qK (c1 / d1)))] ++ F0) (oC (a1) (b1) (c1) (d1) (k + 1) P Q (cdN a1 b1) (c1 / d1) (c1 / d1) [oK (c1 / d1)]) Q1 := by
            subst ho; subst hF; refine Bl 4 [6, 7, 8, 9, 10, 11, 14, 15, 16, 17, 18, 19, 20, 21, 22, 23] (B3 rfl rfl (hd 43 rfl)) hpan rfl ?_
            refine As S8_17 7 (.cons rfl (.u (.u (.cons rfl (.cons rfl (.cons rfl (.cons rfl .nil)))))))
          have S8_19 : JA Tryz.prog ops1 19 (za 24 0x3007) Γ ([(39, qI), (40, (qR c1 d1)), (41, (qK (c1 / d1))), (51, (qR a1 b1)), (52, (qK (c1 / d1)))] ++ F0) (oC (a1) (b1) (c1) (d1) (k + 1) P Q (cdN a1 b1) (c1 / d1) (c1 / d1) [oK (c1 / d1)]) Q1 := by
            subst ho; subst hF
            refine Be 3 ?_ rfl (by kernel_rfl)
            refine Ax Tryz.f97 (hSb) rfl Tryz.func97 rfl rfl (Aa rfl (Aa rfl Ad)) (.cons (.a1 .b (.a1 .n (.a1 .n .a0))) (.cons (.a1 .b (.a1 .n (.a1 .n .a0))) .nil)) (hd 42 rfl) ?_ (fun _ h => by simp at h)
            rintro y hy; injection hy with hy; subst hy
            refine As S8_18 6 (.cons rfl (.u (.u (.cons rfl (.cons rfl (.cons rfl .nil))))))
          have S8_20 : JA Tryz.prog ops1 20 (za 24 0x3006) Γ ([(40, (qR c1 d1)), (41, (qK (c1 / d1))), (51, (qR a1 b1)), (52, (qK (c1 / d1)))] ++ F0) (oC (a1) (b1) (c1) (d1) (k + 1) P Q (cdN a1 b1) (c1 / d1) (c1 / d1) [oK (c1 / d1)]) Q1 := by
            subst ho; subst hF
            refine Be 0 ?_ rfl (by kernel_rfl)
            refine Ax Tryz.f46 (hIn) rfl Tryz.func46 rfl rfl (Aa rfl Ad) (.cons .i .nil) (hd 39 rfl) ?_ (fun _ h => by simp at h)
            rintro y hy; injection hy with hy; subst hy
            refine As S8_19 5 (.cons rfl (.cons rfl (.cons rfl (.cons rfl (.cons rfl .nil)))))
          have S8_21 : JA Tryz.prog ops1 21 (za 24 0x1006) Γ ([(40, (qR c1 d1)), (41, (qK (c1 / d1))), (51, (qR a1 b1))] ++ F0) (oC (a1) (b1) (c1) (d1) (k + 1) P Q (cdN a1 b1) (c1 / d1) (c1 / d1) [oK (c1 / d1)]) Q1 := by
            subst ho; subst hF; refine Bl 13 [14, 15, 16, 17, 18, 19, 20, 21, 22, 23] (Am (Au Ap rfl rfl rfl rfl) (hd 52 rfl)) hpan rfl ?_
            refine As S8_20 4 (.cons rfl (.cons rfl (.cons rfl (.cons rfl .nil))))
          have S8_22 : JA Tryz.prog ops1 22 (za 24 0x6) Γ ([(40, (qR c1 d1)), (41, (qK (c1 / d1)))] ++ F0) (oC (a1) (b1) (c1) (d1) (k + 1) P Q (cdN a1 b1) (c1 / d1) (c1 / d1) [oK (c1 / d1)]) Q1 := by
            subst ho; subst hF; refine Bl 12 [14, 15, 16, 17, 18, 19, 20, 21, 22, 23] (Am (Au Ap rfl rfl rfl rfl) (hd 51 rfl)) hpan rfl ?_
            refine As S8_21 3 (.cons rfl (.cons rfl (.cons rfl .nil)))
          have S8_23 : JA Tryz.prog ops1 23 (za 24 0x2) Γ ([(40, (qR c1 d1))] ++ F0) (oC (a1) (b1) (c1) (d1) (k + 1) P Q (cdN a1 b1) (c1 / d1) (c1 / d1) [oK (c1 / d1)]) Q1 := by
            subst ho; subst hF; refine Bl 2 [3, 4, 5, 6, 7, 8, 9, 10, 11, 14, 15, 16, 17, 18, 19, 20, 21, 22, 23] (Am (Au Ap rfl rfl rfl rfl) (hd 41 rfl)) hpan rfl ?_
            refine As S8_22 2 (.cons rfl (.cons rfl .nil))
          have S8_24 : JA Tryz.prog ops1 24 (za 24 0x0) Γ ([] ++ F0) (oC (a1) (b1) (c1) (d1) (k + 1) P Q (cdN a1 b1) (c1 / d1) (c1 / d1) [oK (c1 / d1)]) Q1 := by
            subst ho; subst hF; refine Bl 1 [3, 4, 5, 6, 7, 8, 9, 10, 11, 14, 15, 16, 17, 18, 19, 20, 21, 22, 23] (Am (Au Ap rfl rfl rfl rfl) (hd 40 rfl)) hpan rfl ?_
            refine As S8_23 1 (.cons rfl .nil)
          subst ho; subst hF
          exact As (m := []) S8_24 0 .nil
        have S7_1 : JA Tryz.prog ops1 1 (za 5 0xf) Γ ([(8, .p 7 1 0), (36, .u), (37, .u), (38, (qK (c1 / d1)))] ++ F0) (oC (a1) (b1) (c1) (d1) (k + 1) P Q (cdN a1 b1) (c1 / d1) (c1 / d1) [⟨27, 3, 1, true, [.b false, .c (.slice none 0 0), .c (.slice none 0 0)]⟩]) Q1 := by
          subst ho; subst hF
          refine Be 4 ?_ rfl (by kernel_rfl)
          refine Cl (Ah rfl rfl rfl Bq rfl rfl (Zb rfl)) rfl ?_
          refine As S7_0 4 (.cons rfl (.u (.u (.u .nil))))
        have S7_2 : JA Tryz.prog ops1 2 (za 5 0x7) Γ ([(36, .u), (37, .u), (38, (qK (c1 / d1)))] ++ F0) (oC (a1) (b1) (c1) (d1) (k + 1) P Q (cdN a1 b1) (c1 / d1) (c1 / d1) [⟨0, 1, 0, true, []⟩]) Q1 := by
          subst ho; subst hF
          refine Be 3 ?_ rfl (by kernel_rfl)
          refine Df (Ba (id := 7) B4 (by decide) rfl (by decide) rfl) (hd 8 rfl) ?_
          refine As S7_1 4 (.cons rfl (.u (.u (.cons rfl .nil))))
        have S7_3 : JA Tryz.prog ops1 3 (za 5 0x3) Γ ([(36, (qW (c1 / d1))), (37, .n true .u64 [1])] ++ F0) (oC (a1) (b1) (c1) (d1) (k + 1) P Q (cdN a1 b1) (c1 / d1) (c1 / d1) [⟨0, 1, 0, true, []⟩]) Q1 := by
          subst ho; subst hF; refine Bl 2 [4] (Am (Bp (is := [0, 1]) (xs := [.tmp 36, .tmp 37]) B4 Dm rfl (Aa rfl (Aa rfl Ad)) rfl ⟨rfl, (by decide), rfl, (by decide), trivial⟩ (Cd rfl) rfl) (hd 38 rfl)) hpan rfl ?_
          refine As S7_2 3 (.u (.u (.cons rfl .nil)))
        have S7_4 : JA Tryz.prog ops1 2 (za 5 0xb) Γ ([(8, .p 7 1 0), (36, (qW (c1 / d1))), (37, .n true .u64 [1])] ++ F0) (oC (a1) (b1) (c1) (d1) (k + 1) P Q (cdN a1 b1) (c1 / d1) (c1 / d1) [⟨27, 3, 1, true, [.b false, .c (.slice none 0 0), .c (.slice none 0 0)]⟩]) Q1 := by
          subst ho; subst hF; refine Bl 2 [4] (Am (Bp (is := [0, 1]) (xs := [.tmp 36, .tmp 37]) B4 Dm rfl (Aa rfl (Aa rfl Ad)) rfl ⟨rfl, (by decide), rfl, (by decide), trivial⟩ (Cd rfl) rfl) (hd 38 rfl)) hpan rfl ?_
          refine As S7_1 4 (.cons rfl (.u (.u (.cons rfl .nil))))
        have S7_5 : JA Tryz.prog ops1 3 (za 5 0x9) Γ ([(8, .p 7 1 0), (36, (qW (c1 / d1)))] ++ F0) (oC (a1) (b1) (c1) (d1) (k + 1) P Q (cdN a1 b1) (c1 / d1) (c1 / d1) [⟨27, 3, 1, true, [.b false, .c (.slice none 0 0), .c (.slice none 0 0)]⟩]) Q1 := by
          subst ho; subst hF
          refine Be 1 ?_ rfl (by kernel_rfl)
          refine Ax Tryz.f35 (hF1) rfl Tryz.func35 rfl rfl (Aa rfl Ad) (.cons .i .nil) (hd 37 rfl) ?_ (fun _ h => by simp at h)
          rintro y hy; injection hy with hy; subst hy
          refine As S7_4 3 (.cons rfl (.cons rfl (.cons rfl .nil)))
        have S7_6 : JA Tryz.prog ops1 4 (za 5 0x1) Γ ([(36, (qW (c1 / d1)))] ++ F0) (oC (a1) (b1) (c1) (d1) (k + 1) P Q (cdN a1 b1) (c1 / d1) (c1 / d1) [⟨0, 1, 0, true, []⟩]) Q1 := by
          subst ho; subst hF
          refine J8 1 3 ?_ ?_ rfl rfl (by kernel_rfl)
          · refine Ax Tryz.f35 (hF1) rfl Tryz.func35 rfl rfl (Aa rfl Ad) (.cons .i .nil) (hd 37 rfl) ?_ (fun _ h => by simp at h)
            rintro y hy; injection hy with hy; subst hy
            refine As S7_3 2 (.cons rfl (.cons rfl .nil))
          · refine Df (Ba (id := 7) B4 (by decide) rfl (by decide) rfl) (hd 8 rfl) ?_
            refine As S7_5 2 (.cons rfl (.cons rfl .nil))
        have S7_7 : JA Tryz.prog ops1 5 (za 5 0x0) Γ ([] ++ F0) (oC (a1) (b1) (c1) (d1) (k + 1) P Q (cdN a1 b1) (c1 / d1) (c1 / d1) [⟨0, 1, 0, true, []⟩]) Q1 := by
          subst ho; subst hF; refine Bl 0 [2, 4] (Am (Au Bw rfl rfl rfl rfl) (hd 36 rfl)) hpan rfl ?_
          refine As S7_6 1 (.cons rfl .nil)
        subst ho; subst hF
        exact As (m := []) S7_7 0 .nil
    have S2_1 : JA Tryz.prog ops1 1 (za 14 0x1fff) Γ ([(6, .p 4 1 0), (7, .p 5 1 0), (9, .u), (10, .u), (11, .u), (12, .u), (13, .u), (14, .u), (15, .u), (16, .u), (17, .u), (18, (qW (c1 / d1)))] ++ F0) (oB a1 b1 c1 d1 [oL k P Q, oW (cdN a1 b1), ⟨25, 2, 1, true, [.b false, .c (.slice none 0 0)]⟩]) Q1 := by
      subst ho; subst hF
      refine Be 13 ?_ rfl (by kernel_rfl)
      refine Cl (Ah rfl rfl rfl B6 rfl rfl (Zb rfl)) rfl ?_
      refine As S2_0 12 (.cons rfl (.cons rfl (.v9 .nil)))
    have S2_2 : JA Tryz.prog ops1 2 (za 14 0xfff) Γ ([(6, .p 4 1 0), (7, .p 5 1 0), (9, .u), (10, .u), (11, .u), (12, .u), (13, (qW (cdN a1 b1))), (14, .u), (15, .u), (16, .u), (17, .u), (18, (qW (c1 / d1)))] ++ F0) (oB a1 b1 c1 d1 [oL k P Q, ⟨25, 2, 1, true, [.b false, .c (.slice none 0 0)]⟩, ⟨25, 2, 1, true, [.b false, .c (.slice none 0 0)]⟩]) Q1 := by
      subst ho; subst hF
      refine Be 12 ?_ rfl (by kernel_rfl)
      refine Cl (Ah rfl rfl rfl B6 rfl rfl (Zb rfl)) rfl ?_
      refine As S2_1 12 (.cons rfl (.cons rfl (.v5 (.u (.u (.u (.u (.cons rfl .nil))))))))
    have S2_3 : JA Tryz.prog ops1 3 (za 14 0x7ff) Γ ([(6, .p 4 1 0), (9, .u), (10, .u), (11, .u), (12, .u), (13, (qW (cdN a1 b1))), (14, .u), (15, .u), (16, .u), (17, .u), (18, (qW (c1 / d1)))] ++ F0) (oB a1 b1 c1 d1 [oL k P Q, ⟨25, 2, 1, true, [.b false, .c (.slice none 0 0)]⟩, ⟨0, 1, 0, true, []⟩]) Q1 := by
      subst ho; subst hF
      refine Be 11 ?_ rfl (by kernel_rfl)
      refine Df (Ba (id := 5) Az (by decide) rfl (by decide) rfl) (hd 7 rfl) ?_
      refine As S2_2 12 (.cons rfl (.cons rfl (.u (.u (.u (.u (.cons rfl (.u (.u (.u (.u (.cons rfl .nil))))))))))))
    have S2_4 : JA Tryz.prog ops1 3 (za 14 0xbff) Γ ([(7, .p 5 1 0), (9, .u), (10, .u), (11, .u), (12, .u), (13, (qW (cdN a1 b1))), (14, .u), (15, .u), (16, .u), (17, .u), (18, (qW (c1 / d1)))] ++ F0) (oB a1 b1 c1 d1 [oL k P Q, ⟨0, 1, 0, true, []⟩, ⟨25, 2, 1, true, [.b false, .c (.slice none 0 0)]⟩]) Q1 := by
      subst ho; subst hF
      refine Be 10 ?_ rfl (by kernel_rfl)
      refine Df (Ba (id := 4) Az (by decide) rfl (by decide) rfl) (hd 6 rfl) ?_
      refine As S2_2 12 (.cons rfl (.cons rfl (.u (.u (.u (.u (.cons rfl (.u (.u (.u (.u (.cons rfl .nil))))))))))))
    have S2_5 : JA Tryz.prog ops1 4 (za 14 0x3ff) Γ ([(9, .u), (10, .u), (11, .u), (12, .u), (13, (qW (cdN a1 b1))), (14, .u), (15, .u), (16, .u), (17, .u), (18, (qW (c1 / d1)))] ++ F0) (oB a1 b1 c1 d1 [oL k P Q, ⟨0, 1, 0, true, []⟩, ⟨0, 1, 0, true, []⟩]) Q1 := by
      subst ho; subst hF
      refine J8 10 11 ?_ ?_ rfl rfl (by kernel_rfl)
      · refine Df (Ba (id := 4) Az (by decide) rfl (by decide) rfl) (hd 6 rfl) ?_
        refine As S2_3 11 (.cons rfl (.u (.u (.u (.u (.cons rfl (.u (.u (.u (.u (.cons rfl .nil)))))))))))
      · refine Df (Ba (id := 5) Az (by decide) rfl (by decide) rfl) (hd 7 rfl) ?_
        refine As S2_4 11 (.cons rfl (.u (.u (.u (.u (.cons rfl (.u (.u (.u (.u (.cons rfl .nil)))))))))))
    have S2_6 : JA Tryz.prog ops1 3 (za 14 0xdff) Γ ([(6, .p 4 1 0), (7, .p 5 1 0), (9, .u), (10, .u), (11, .u), (12, .u), (13, (qW (cdN a1 b1))), (14, .u), (15, .u), (16, (qW (c1 / d1))), (17, .i .i64 0)] ++ F0) (oB a1 b1 c1 d1 [oL k P Q, ⟨25, 2, 1, true, [.b false, .c (.slice none 0 0)]⟩, ⟨25, 2, 1, true, [.b false, .c (.slice none 0 0)]⟩]) Q1 := by
      subst ho; subst hF
      refine Be 9 ?_ rfl (by kernel_rfl)
      refine Ax Tryz.f94 (K1 _ _) rfl Tryz.func94 rfl rfl (Aa rfl (Aa rfl Ad)) (.cons (.a1 .b (.a1 .n .a0)) (.cons .i .nil)) (hd 18 rfl) ?_ (fun _ h => by simp at h)
      rintro y hy; injection hy with hy; subst hy
      refine As S2_2 12 (.cons rfl (.cons rfl (.u (.u (.u (.u (.cons rfl (.u (.u (.u (.u (.cons rfl .nil))))))))))))
    have S2_7 : JA Tryz.prog ops1 4 (za 14 0x5ff) Γ ([(6, .p 4 1 0), (9, .u), (10, .u), (11, .u), (12, .u), (13, (qW (cdN a1 b1))), (14, .u), (15, .u), (16, (qW (c1 / d1))), (17, .i .i64 0)] ++ F0) (oB a1 b1 c1 d1 [oL k P Q, ⟨25, 2, 1, true, [.b false, .c (.slice none 0 0)]⟩, ⟨0, 1, 0, true, []⟩]) Q1 := by
      subst ho; subst hF
      refine J8 9 11 ?_ ?_ rfl rfl (by kernel_rfl)
      · refine Ax Tryz.f94 (K1 _ _) rfl Tryz.func94 rfl rfl (Aa rfl (Aa rfl Ad)) (.cons (.a1 .b (.a1 .n .a0)) (.cons .i .nil)) (hd 18 rfl) ?_ (fun _ h => by simp at h)
        rintro y hy; injection hy with hy; subst hy
        refine As S2_3 11 (.cons rfl (.u (.u (.u (.u (.cons rfl (.u (.u (.u (.u (.cons rfl .nil)))))))))))
      · refine Df (Ba (id := 5) Az (by decide) rfl (by decide) rfl) (hd 7 rfl) ?_
        refine As S2_6 11 (.cons rfl (.cons rfl (.u (.u (.u (.u (.cons rfl (.u (.u (.cons rfl (.cons rfl .nil)))))))))))
    have S2_8 : JA Tryz.prog ops1 4 (za 14 0x9ff) Γ ([(7, .p 5 1 0), (9, .u), (10, .u), (11, .u), (12, .u), (13, (qW (cdN a1 b1))), (14, .u), (15, .u), (16, (qW (c1 / d1))), (17, .i .i64 0)] ++ F0) (oB a1 b1 c1 d1 [oL k P Q, ⟨0, 1, 0, true, []⟩, ⟨25, 2, 1, true, [.b false, .c (.slice none 0 0)]⟩]) Q1 := by
      subst ho; subst hF
      refine J8 9 10 ?_ ?_ rfl rfl (by kernel_rfl)
      · refine Ax Tryz.f94 (K1 _ _) rfl Tryz.func94 rfl rfl (Aa rfl (Aa rfl Ad)) (.cons (.a1 .b (.a1 .n .a0)) (.cons .i .nil)) (hd 18 rfl) ?_ (fun _ h => by simp at h)
        rintro y hy; injection hy with hy; subst hy
        refine As S2_4 11 (.cons rfl (.u (.u (.u (.u (.cons rfl (.u (.u (.u (.u (.cons rfl .nil)))))))))))
      · refine Df (Ba (id := 4) Az (by decide) rfl (by decide) rfl) (hd 6 rfl) ?_
        refine As S2_6 11 (.cons rfl (.cons rfl (.u (.u (.u (.u (.cons rfl (.u (.u (.cons rfl (.cons rfl .nil)))))))))))
    have S2_9 : JA Tryz.prog ops1 5 (za 14 0x1ff) Γ ([(9, .u), (10, .u), (11, .u), (12, .u), (13, (qW (cdN a1 b1))), (14, .u), (15, .u), (16, (qW (c1 / d1))), (17, .i .i64 0)] ++ F0) (oB a1 b1 c1 d1 [oL k P Q, ⟨0, 1, 0, true, []⟩, ⟨0, 1, 0, true, []⟩]) Q1 := by
      subst ho; subst hF
      refine Aeh 9 10 11 ?_ ?_ ?_ rfl rfl rfl (by kernel_rfl)
      · refine Ax Tryz.f94 (K1 _ _) rfl Tryz.func94 rfl rfl (Aa rfl (Aa rfl Ad)) (.cons (.a1 .b (.a1 .n .a0)) (.cons .i .nil)) (hd 18 rfl) ?_ (fun _ h => by simp at h)
        rintro y hy; injection hy with hy; subst hy
        refine As S2_5 10 (.u (.u (.u (.u (.cons rfl (.u (.u (.u (.u (.cons rfl .nil))))))))))
      · refine Df (Ba (id := 4) Az (by decide) rfl (by decide) rfl) (hd 6 rfl) ?_
        refine As S2_7 10 (.cons rfl (.u (.u (.u (.u (.cons rfl (.u (.u (.cons rfl (.cons rfl .nil))))))))))
      · refine Df (Ba (id := 5) Az (by decide) rfl (by decide) rfl) (hd 7 rfl) ?_
        refine As S2_8 10 (.cons rfl (.u (.u (.u (.u (.cons rfl (.u (.u (.cons rfl (.cons rfl .nil))))))))))
    have S2_10 : JA Tryz.prog ops1 6 (za 14 0xff) Γ ([(9, .u), (10, .u), (11, .u), (12, .u), (13, (qW (cdN a1 b1))), (14, .u), (15, (q0 (qW (c1 / d1)))), (16, (qW (c1 / d1)))] ++ F0) (oB a1 b1 c1 d1 [oL k P Q, ⟨0, 1, 0, true, []⟩, ⟨0, 1, 0, true, []⟩]) Q1 := by
      subst ho; subst hF; refine Bl 8 [9, 12, 13] (B3 rfl rfl (hd 17 rfl)) hpan rfl ?_
      refine As S2_9 9 (.u (.u (.u (.u (.cons rfl (.u (.u (.cons rfl (.cons rfl .nil)))))))))
    have S2_11 : JA Tryz.prog ops1 7 (za 14 0x7f) Γ ([(9, .u), (10, .u), (11, .u), (12, .u), (13, (qW (cdN a1 b1))), (14, .u), (15, (q0 (qW (c1 / d1))))] ++ F0) (oB a1 b1 c1 d1 [oL k P Q, ⟨0, 1, 0, true, []⟩, ⟨0, 1, 0, true, []⟩]) Q1 := by
      subst ho; subst hF; refine Bl 7 [9, 12, 13] (B3 rfl rfl (hd 16 rfl)) hpan rfl ?_
      refine As S2_10 8 (.u (.u (.u (.u (.cons rfl (.u (.cons rfl (.cons rfl .nil))))))))
    have S2_12 : JA Tryz.prog ops1 5 (za 14 0x4ff) Γ ([(6, .p 4 1 0), (9, .u), (10, .u), (11, .u), (12, .u), (13, (qW (cdN a1 b1))), (14, .u), (15, (q0 (qW (c1 / d1)))), (16, (qW (c1 / d1)))] ++ F0) (oB a1 b1 c1 d1 [oL k P Q, ⟨25, 2, 1, true, [.b false, .c (.slice none 0 0)]⟩, ⟨0, 1, 0, true, []⟩]) Q1 := by
      subst ho; subst hF; refine Bl 8 [9, 12, 13] (B3 rfl rfl (hd 17 rfl)) hpan rfl ?_
      refine As S2_7 10 (.cons rfl (.u (.u (.u (.u (.cons rfl (.u (.u (.cons rfl (.cons rfl .nil))))))))))
    have S2_13 : JA Tryz.prog ops1 6 (za 14 0x47f) Γ ([(6, .p 4 1 0), (9, .u), (10, .u), (11, .u), (12, .u), (13, (qW (cdN a1 b1))), (14, .u), (15, (q0 (qW (c1 / d1))))] ++ F0) (oB a1 b1 c1 d1 [oL k P Q, ⟨25, 2, 1, true, [.b false, .c (.slice none 0 0)]⟩, ⟨0, 1, 0, true, []⟩]) Q1 := by
      subst ho; subst hF; refine Bl 7 [9, 12, 13] (B3 rfl rfl (hd 16 rfl)) hpan rfl ?_
      refine As S2_12 9 (.cons rfl (.u (.u (.u (.u (.cons rfl (.u (.cons rfl (.cons rfl .nil)))))))))
    have S2_14 : JA Tryz.prog ops1 4 (za 14 0xcff) Γ ([(6, .p 4 1 0), (7, .p 5 1 0), (9, .u), (10, .u), (11, .u), (12, .u), (13, (qW (cdN a1 b1))), (14, .u), (15, (q0 (qW (c1 / d1)))), (16, (qW (c1 / d1)))] ++ F0) (oB a1 b1 c1 d1 [oL k P Q, ⟨25, 2, 1, true, [.b false, .c (.slice none 0 0)]⟩, ⟨25, 2, 1, true, [.b false, .c (.slice none 0 0)]⟩]) Q1 := by
      subst ho; subst hF; refine Bl 8 [9, 12, 13] (B3 rfl rfl (hd 17 rfl)) hpan rfl ?_
      refine As S2_6 11 (.cons rfl (.cons rfl (.u (.u (.u (.u (.cons rfl (.u (.u (.cons rfl (.cons rfl .nil)))))))))))
    have S2_15 : JA Tryz.prog ops1 5 (za 14 0xc7f) Γ ([(6, .p 4 1 0), (7, .p 5 1 0), (9, .u), (10, .u), (11, .u), (12, .u), (13, (qW (cdN a1 b1))), (14, .u), (15, (q0 (qW (c1 / d1))))] ++ F0) (oB a1 b1 c1 d1 [oL k P Q, ⟨25, 2, 1, true, [.b false, .c (.slice none 0 0)]⟩, ⟨25, 2, 1, true, [.b false, .c (.slice none 0 0)]⟩]) Q1 := by
      subst ho; subst hF; refine Bl 7 [9, 12, 13] (B3 rfl rfl (hd 16 rfl)) hpan rfl ?_
      refine As S2_14 10 (.cons rfl (.cons rfl (.u (.u (.u (.u (.cons rfl (.u (.cons rfl (.cons rfl .nil))))))))))
    have S2_16 : JA Tryz.prog ops1 6 (za 14 0xc3f) Γ ([(6, .p 4 1 0), (7, .p 5 1 0), (9, .u), (10, .u), (11, .u), (12, .u), (13, (qW (cdN a1 b1))), (14, (qR c1 d1))] ++ F0) (oB a1 b1 c1 d1 [oL k P Q, ⟨25, 2, 1, true, [.b false, .c (.slice none 0 0)]⟩, ⟨25, 2, 1, true, [.b false, .c (.slice none 0 0)]⟩]) Q1 := by
      subst ho; subst hF
      refine Be 6 ?_ rfl (by kernel_rfl)
      refine Fa Tryz.f6 (hDn) hL hTb rfl Tryz.func6 rfl rfl (Aa rfl (Aa rfl (Aa rfl Ad))) (.cons (.a1 .b (.a1 .n (.a1 .n .a0))) (.cons .i (.cons .i .nil))) (hd 15 rfl) ?_ (fun _ h => by simp at h)
      rintro y hy; injection hy with hy; subst hy
      refine As S2_15 9 (.cons rfl (.cons rfl (.u (.u (.u (.u (.cons rfl (.u (.cons rfl .nil)))))))))
    have S2_17 : JA Tryz.prog ops1 7 (za 14 0x43f) Γ ([(6, .p 4 1 0), (9, .u), (10, .u), (11, .u), (12, .u), (13, (qW (cdN a1 b1))), (14, (qR c1 d1))] ++ F0) (oB a1 b1 c1 d1 [oL k P Q, ⟨25, 2, 1, true, [.b false, .c (.slice none 0 0)]⟩, ⟨0, 1, 0, true, []⟩]) Q1 := by
      subst ho; subst hF
      refine J8 6 11 ?_ ?_ rfl rfl (by kernel_rfl)
      · refine Fa Tryz.f6 (hDn) hL hTb rfl Tryz.func6 rfl rfl (Aa rfl (Aa rfl (Aa rfl Ad))) (.cons (.a1 .b (.a1 .n (.a1 .n .a0))) (.cons .i (.cons .i .nil))) (hd 15 rfl) ?_ (fun _ h => by simp at h)
        rintro y hy; injection hy with hy; subst hy
        refine As S2_13 8 (.cons rfl (.u (.u (.u (.u (.cons rfl (.u (.cons rfl .nil))))))))
      · refine Df (Ba (id := 5) Az (by decide) rfl (by decide) rfl) (hd 7 rfl) ?_
        refine As S2_16 8 (.cons rfl (.cons rfl (.u (.u (.u (.u (.cons rfl (.cons rfl .nil))))))))
    have S2_18 : JA Tryz.prog ops1 5 (za 14 0x8ff) Γ ([(7, .p 5 1 0), (9, .u), (10, .u), (11, .u), (12, .u), (13, (qW (cdN a1 b1))), (14, .u), (15, (q0 (qW (c1 / d1)))), (16, (qW (c1 / d1)))] ++ F0) (oB a1 b1 c1 d1 [oL k P Q, ⟨0, 1, 0, true, []⟩, ⟨25, 2, 1, true, [.b false, .c (.slice none 0 0)]⟩]) Q1 := by
      subst ho; subst hF; refine Bl 8 [9, 12, 13] (B3 rfl rfl (hd 17 rfl)) hpan rfl ?_
      refine As S2_8 10 (.cons rfl (.u (.u (.u (.u (.cons rfl (.u (.u (.cons rfl (.cons rfl .nil))))))))))
    have S2_19 : JA Tryz.prog ops1 6 (za 14 0x87f) Γ ([(7, .p 5 1 0), (9, .u), (10, .u), (11, .u), (12, .u), (13, (qW (cdN a1 b1))), (14, .u), (15, (q0 (qW (c1 / d1))))] ++ F0) (oB a1 b1 c1 d1 [oL k P Q, ⟨0, 1, 0, true, []⟩, ⟨25, 2, 1, true, [.b false, .c (.slice none 0 0)]⟩]) Q1 := by
      subst ho; subst hF; refine Bl 7 [9, 12, 13] (B3 rfl rfl (hd 16 rfl)) hpan rfl ?_
      refine As S2_18 9 (.cons rfl (.u (.u (.u (.u (.cons rfl (.u (.cons rfl (.cons rfl .nil)))))))))
    have S2_20 : JA Tryz.prog ops1 7 (za 14 0x83f) Γ ([(7, .p 5 1 0), (9, .u), (10, .u), (11, .u), (12, .u), (13, (qW (cdN a1 b1))), (14, (qR c1 d1))] ++ F0) (oB a1 b1 c1 d1 [oL k P Q, ⟨0, 1, 0, true, []⟩, ⟨25, 2, 1, true, [.b false, .c (.slice none 0 0)]⟩]) Q1 := by
      subst ho; subst hF
      refine J8 6 10 ?_ ?_ rfl rfl (by kernel_rfl)
      · refine Fa Tryz.f6 (hDn) hL hTb rfl Tryz.func6 rfl rfl (Aa rfl (Aa rfl (Aa rfl Ad))) (.cons (.a1 .b (.a1 .n (.a1 .n .a0))) (.cons .i (.cons .i .nil))) (hd 15 rfl) ?_ (fun _ h => by simp at h)
        rintro y hy; injection hy with hy; subst hy
        refine As S2_19 8 (.cons rfl (.u (.u (.u (.u (.cons rfl (.u (.cons rfl .nil))))))))
      · refine Df (Ba (id := 4) Az (by decide) rfl (by decide) rfl) (hd 6 rfl) ?_
        refine As S2_16 8 (.cons rfl (.cons rfl (.u (.u (.u (.u (.cons rfl (.cons rfl .nil))))))))
    have S2_21 : JA Tryz.prog ops1 8 (za 14 0x3f) Γ ([(9, .u), (10, .u), (11, .u), (12, .u), (13, (qW (cdN a1 b1))), (14, (qR c1 d1))] ++ F0) (oB a1 b1 c1 d1 [oL k P Q, ⟨0, 1, 0, true, []⟩, ⟨0, 1, 0, true, []⟩]) Q1 := by
      subst ho; subst hF
      refine Aeh 6 10 11 ?_ ?_ ?_ rfl rfl rfl (by kernel_rfl)
      · refine Fa Tryz.f6 (hDn) hL hTb rfl Tryz.func6 rfl rfl (Aa rfl (Aa rfl (Aa rfl Ad))) (.cons (.a1 .b (.a1 .n (.a1 .n .a0))) (.cons .i (.cons .i .nil))) (hd 15 rfl) ?_ (fun _ h => by simp at h)
        rintro y hy; injection hy with hy; subst hy
        refine As S2_11 7 (.u (.u (.u (.u (.cons rfl (.u (.cons rfl .nil)))))))
      · refine Df (Ba (id := 4) Az (by decide) rfl (by decide) rfl) (hd 6 rfl) ?_
        refine As S2_17 7 (.cons rfl (.u (.u (.u (.u (.cons rfl (.cons rfl .nil)))))))
      · refine Df (Ba (id := 5) Az (by decide) rfl (by decide) rfl) (hd 7 rfl) ?_
        refine As S2_20 7 (.cons rfl (.u (.u (.u (.u (.cons rfl (.cons rfl .nil)))))))
    have S2_22 : JA Tryz.prog ops1 7 (za 14 0xc2f) Γ ([(6, .p 4 1 0), (7, .p 5 1 0), (9, .u), (10, .u), (11, (qW (cdN a1 b1))), (12, .i .i64 0), (14, (qR c1 d1))] ++ F0) (oB a1 b1 c1 d1 [oL k P Q, ⟨25, 2, 1, true, [.b false, .c (.slice none 0 0)]⟩, ⟨25, 2, 1, true, [.b false, .c (.slice none 0 0)]⟩]) Q1 := by
      subst ho; subst hF
      refine Be 4 ?_ rfl (by kernel_rfl)
      refine Ax Tryz.f94 (K1 _ _) rfl Tryz.func94 rfl rfl (Aa rfl (Aa rfl Ad)) (.cons (.a1 .b (.a1 .n .a0)) (.cons .i .nil)) (hd 13 rfl) ?_ (fun _ h => by simp at h)
      rintro y hy; injection hy with hy; subst hy
      refine As S2_16 8 (.cons rfl (.cons rfl (.u (.u (.u (.u (.cons rfl (.cons rfl .nil))))))))
    have S2_23 : JA Tryz.prog ops1 8 (za 14 0x42f) Γ ([(6, .p 4 1 0), (9, .u), (10, .u), (11, (qW (cdN a1 b1))), (12, .i .i64 0), (14, (qR c1 d1))] ++ F0) (oB a1 b1 c1 d1 [oL k P Q, ⟨25, 2, 1, true, [.b false, .c (.slice none 0 0)]⟩, ⟨0, 1, 0, true, []⟩]) Q1 := by
      subst ho; subst hF
      refine J8 4 11 ?_ ?_ rfl rfl (by kernel_rfl)
      · refine Ax Tryz.f94 (K1 _ _) rfl Tryz.func94 rfl rfl (Aa rfl (Aa rfl Ad)) (.cons (.a1 .b (.a1 .n .a0)) (.cons .i .nil)) (hd 13 rfl) ?_ (fun _ h => by simp at h)
        rintro y hy; injection hy with hy; subst hy
        refine As S2_17 7 (.cons rfl (.u (.u (.u (.u (.cons rfl (.cons rfl .nil)))))))
      · refine Df (Ba (id := 5) Az (by decide) rfl (by decide) rfl) (hd 7 rfl) ?_
        refine As S2_22 7 (.cons rfl (.cons rfl (.u (.u (.cons rfl (.cons rfl (.cons rfl .nil)))))))
    have S2_24 : JA Tryz.prog ops1 8 (za 14 0x82f) Γ ([(7, .p 5 1 0), (9, .u), (10, .u), (11, (qW (cdN a1 b1))), (12, .i .i64 0), (14, (qR c1 d1))] ++ F0) (oB a1 b1 c1 d1 [oL k P Q, ⟨0, 1, 0, true, []⟩, ⟨25, 2, 1, true, [.b false, .c (.slice none 0 0)]⟩]) Q1 := by
      subst ho; subst hF
      refine J8 4 10 ?_ ?_ rfl rfl (by kernel_rfl)
      · refine Ax Tryz.f94 (K1 _ _) rfl Tryz.func94 rfl rfl (Aa rfl (Aa rfl Ad)) (.cons (.a1 .b (.a1 .n .a0)) (.cons .i .nil)) (hd 13 rfl) ?_ (fun _ h => by simp at h)
        rintro y hy; injection hy with hy; subst hy
        refine As S2_20 7 (.cons rfl (.u (.u (.u (.u (.cons rfl (.cons rfl .nil)))))))
      · refine Df (Ba (id := 4) Az (by decide) rfl (by decide) rfl) (hd 6 rfl) ?_
        refine As S2_22 7 (.cons rfl (.cons rfl (.u (.u (.cons rfl (.cons rfl (.cons rfl .nil)))))))
    have S2_25 : JA Tryz.prog ops1 9 (za 14 0x2f) Γ ([(9, .u), (10, .u), (11, (qW (cdN a1 b1))), (12, .i .i64 0), (14, (qR c1 d1))] ++ F0) (oB a1 b1 c1 d1 [oL k P Q, ⟨0, 1, 0, true, []⟩, ⟨0, 1, 0, true, []⟩]) Q1 := by
      subst ho; subst hF
      refine Aeh 4 10 11 ?_ ?_ ?_ rfl rfl rfl (by kernel_rfl)
      · refine Ax Tryz.f94 (K1 _ _) rfl Tryz.func94 rfl rfl (Aa rfl (Aa rfl Ad)) (.cons (.a1 .b (.a1 .n .a0)) (.cons .i .nil)) (hd 13 rfl) ?_ (fun _ h => by simp at h)
        rintro y hy; injection hy with hy; subst hy
        refine As S2_21 6 (.u (.u (.u (.u (.cons rfl (.cons rfl .nil))))))
      · refine Df (Ba (id := 4) Az (by decide) rfl (by decide) rfl) (hd 6 rfl) ?_
        refine As S2_23 6 (.cons rfl (.u (.u (.cons rfl (.cons rfl (.cons rfl .nil))))))
      · refine Df (Ba (id := 5) Az (by decide) rfl (by decide) rfl) (hd 7 rfl) ?_
        refine As S2_24 6 (.cons rfl (.u (.u (.cons rfl (.cons rfl (.cons rfl .nil))))))
    have S2_26 : JA Tryz.prog ops1 10 (za 14 0x27) Γ ([(9, .u), (10, (q0 (qW (cdN a1 b1)))), (11, (qW (cdN a1 b1))), (14, (qR c1 d1))] ++ F0) (oB a1 b1 c1 d1 [oL k P Q, ⟨0, 1, 0, true, []⟩, ⟨0, 1, 0, true, []⟩]) Q1 := by
      subst ho; subst hF; refine Bl 3 [4, 6, 7, 8, 9, 12, 13] (B3 rfl rfl (hd 12 rfl)) hpan rfl ?_
      refine As S2_25 5 (.u (.u (.cons rfl (.cons rfl (.cons rfl .nil)))))
    have S2_27 : JA Tryz.prog ops1 11 (za 14 0x23) Γ ([(9, .u), (10, (q0 (qW (cdN a1 b1)))), (14, (qR c1 d1))] ++ F0) (oB a1 b1 c1 d1 [oL k P Q, ⟨0, 1, 0, true, []⟩, ⟨0, 1, 0, true, []⟩]) Q1 := by
      subst ho; subst hF; refine Bl 2 [4, 6, 7, 8, 9, 12, 13] (B3 rfl rfl (hd 11 rfl)) hpan rfl ?_
      refine As S2_26 4 (.u (.cons rfl (.cons rfl (.cons rfl .nil))))
    have S2_28 : JA Tryz.prog ops1 9 (za 14 0x427) Γ ([(6, .p 4 1 0), (9, .u), (10, (q0 (qW (cdN a1 b1)))), (11, (qW (cdN a1 b1))), (14, (qR c1 d1))] ++ F0) (oB a1 b1 c1 d1 [oL k P Q, ⟨25, 2, 1, true, [.b false, .c (.slice none 0 0)]⟩, ⟨0, 1, 0, true, []⟩]) Q1 := by
      subst ho; subst hF; refine Bl 3 [4, 6, 7, 8, 9, 12, 13] (B3 rfl rfl (hd 12 rfl)) hpan rfl ?_
      refine As S2_23 6 (.cons rfl (.u (.u (.cons rfl (.cons rfl (.cons rfl .nil))))))
    have S2_29 : JA Tryz.prog ops1 10 (za 14 0x423) Γ ([(6, .p 4 1 0), (9, .u), (10, (q0 (qW (cdN a1 b1)))), (14, (qR c1 d1))] ++ F0) (oB a1 b1 c1 d1 [oL k P Q, ⟨25, 2, 1, true, [.b false, .c (.slice none 0 0)]⟩, ⟨0, 1, 0, true, []⟩]) Q1 := by
      subst ho; subst hF; refine Bl 2 [4, 6, 7, 8, 9, 12, 13] (B3 rfl rfl (hd 11 rfl)) hpan rfl ?_
      refine As S2_28 5 (.cons rfl (.u (.cons rfl (.cons rfl (.cons rfl .nil)))))
    have S2_30 : JA Tryz.prog ops1 8 (za 14 0xc27) Γ ([(6, .p 4 1 0), (7, .p 5 1 0), (9, .u), (10, (q0 (qW (cdN a1 b1)))), (11, (qW (cdN a1 b1))), (14, (qR c1 d1))] ++ F0) (oB a1 b1 c1 d1 [oL k P Q, ⟨25, 2, 1, true, [.b false, .c (.slice none 0 0)]⟩, ⟨25, 2, 1, true, [.b false, .c (.slice none 0 0)]⟩]) Q1 := by
      subst ho; subst hF; refine Bl 3 [4, 6, 7, 8, 9, 12, 13] (B3 rfl rfl (hd 12 rfl)) hpan rfl ?_
      refine As S2_22 7 (.cons rfl (.cons rfl (.u (.u (.cons rfl (.cons rfl (.cons rfl .nil)))))))
    have S2_31 : JA Tryz.prog ops1 9 (za 14 0xc23) Γ ([(6, .p 4 1 0), (7, .p 5 1 0), (9, .u), (10, (q0 (qW (cdN a1 b1)))), (14, (qR c1 d1))] ++ F0) (oB a1 b1 c1 d1 [oL k P Q, ⟨25, 2, 1, true, [.b false, .c (.slice none 0 0)]⟩, ⟨25, 2, 1, true, [.b false, .c (.slice none 0 0)]⟩]) Q1 := by
      subst ho; subst hF; refine Bl 2 [4, 6, 7, 8, 9, 12, 13] (B3 rfl rfl (hd 11 rfl)) hpan rfl ?_
      refine As S2_30 6 (.cons rfl (.cons rfl (.u (.cons rfl (.cons rfl (.cons rfl .nil))))))
    have S2_32 : JA Tryz.prog ops1 10 (za 14 0xc21) Γ ([(6, .p 4 1 0), (7, .p 5 1 0), (9, (qR a1 b1)), (14, (qR c1 d1))] ++ F0) (oB a1 b1 c1 d1 [oL k P Q, ⟨25, 2, 1, true, [.b false, .c (.slice none 0 0)]⟩, ⟨25, 2, 1, true, [.b false, .c (.slice none 0 0)]⟩]) Q1 := by
      subst ho; subst hF
      refine Be 1 ?_ rfl (by kernel_rfl)
      refine Fa Tryz.f6 (hUp) hL hTb rfl Tryz.func6 rfl rfl (Aa rfl (Aa rfl (Aa rfl Ad))) (.cons (.a1 .b (.a1 .n (.a1 .n .a0))) (.cons .i (.cons .i .nil))) (hd 10 rfl) ?_ (fun _ h => by simp at h)
      rintro y hy; injection hy with hy; subst hy
      refine As S2_31 5 (.cons rfl (.cons rfl (.u (.cons rfl (.cons rfl .nil)))))
    have S2_33 : JA Tryz.prog ops1 11 (za 14 0x421) Γ ([(6, .p 4 1 0), (9, (qR a1 b1)), (14, (qR c1 d1))] ++ F0) (oB a1 b1 c1 d1 [oL k P Q, ⟨25, 2, 1, true, [.b false, .c (.slice none 0 0)]⟩, ⟨0, 1, 0, true, []⟩]) Q1 := by
      subst ho; subst hF
      refine J8 1 11 ?_ ?_ rfl rfl (by kernel_rfl)
      · refine Fa Tryz.f6 (hUp) hL hTb rfl Tryz.func6 rfl rfl (Aa rfl (Aa rfl (Aa rfl Ad))) (.cons (.a1 .b (.a1 .n (.a1 .n .a0))) (.cons .i (.cons .i .nil))) (hd 10 rfl) ?_ (fun _ h => by simp at h)
        rintro y hy; injection hy with hy; subst hy
        refine As S2_29 4 (.cons rfl (.u (.cons rfl (.cons rfl .nil))))
      · refine Df (Ba (id := 5) Az (by decide) rfl (by decide) rfl) (hd 7 rfl) ?_
        refine As S2_32 4 (.cons rfl (.cons rfl (.cons rfl (.cons rfl .nil))))
    have S2_34 : JA Tryz.prog ops1 9 (za 14 0x827) Γ ([(7, .p 5 1 0), (9, .u), (10, (q0 (qW (cdN a1 b1)))), (11, (qW (cdN a1 b1))), (14, (qR c1 d1))] ++ F0) (oB a1 b1 c1 d1 [oL k P Q, ⟨0, 1, 0, true, []⟩, ⟨25, 2, 1, true, [.b false, .c (.slice none 0 0)]⟩]) Q1 := by
      subst ho; subst hF; refine Bl 3 [4, 6, 7, 8, 9, 12, 13] (B3 rfl rfl (hd 12 rfl)) hpan rfl ?_
      refine As S2_24 6 (.cons rfl (.u (.u (.cons rfl (.cons rfl (.cons rfl .nil))))))
    have S2_35 : JA Tryz.prog ops1 10 (za 14 0x823) Γ ([(7, .p 5 1 0), (9, .u), (10, (q0 (qW (cdN a1 b1)))), (14, (qR c1 d1))] ++ F0) (oB a1 b1 c1 d1 [oL k P Q, ⟨0, 1, 0, true, []⟩, ⟨25, 2, 1, true, [.b false, .c (.slice none 0 0)]⟩]) Q1 := by
      subst ho; subst hF; refine Bl 2 [4, 6, 7, 8, 9, 12, 13] (B3 rfl rfl (hd 11 rfl)) hpan rfl ?_
      refine As S2_34 5 (.cons rfl (.u (.cons rfl (.cons rfl (.cons rfl .nil)))))
    have S2_36 : JA Tryz.prog ops1 11 (za 14 0x821) Γ ([(7, .p 5 1 0), (9, (qR a1 b1)), (14, (qR c1 d1))] ++ F0) (oB a1 b1 c1 d1 [oL k P Q, ⟨0, 1, 0, true, []⟩, ⟨25, 2, 1, true, [.b false, .c (.slice none 0 0)]⟩]) Q1 := by
      subst ho; subst hF
      refine J8 1 10 ?_ ?_ rfl rfl (by kernel_rfl)
      · refine Fa Tryz.f6 (hUp) hL hTb rfl Tryz.func6 rfl rfl (Aa rfl (Aa rfl (Aa rfl Ad))) (.cons (.a1 .b (.a1 .n (.a1 .n .a0))) (.cons .i (.cons .i .nil))) (hd 10 rfl) ?_ (fun _ h => by simp at h)
        rintro y hy; injection hy with hy; subst hy
        refine As S2_35 4 (.cons rfl (.u (.cons rfl (.cons rfl .nil))))
      · refine Df (Ba (id := 4) Az (by decide) rfl (by decide) rfl) (hd 6 rfl) ?_
        refine As S2_32 4 (.cons rfl (.cons rfl (.cons rfl (.cons rfl .nil))))
    have S2_37 : JA Tryz.prog ops1 12 (za 14 0x21) Γ ([(9, (qR a1 b1)), (14, (qR c1 d1))] ++ F0) (oB a1 b1 c1 d1 [oL k P Q, ⟨0, 1, 0, true, []⟩, ⟨0, 1, 0, true, []⟩]) Q1 := by
      subst ho; subst hF
      refine Aeh 1 10 11 ?_ ?_ ?_ rfl rfl rfl (by kernel_rfl)
      · refine Fa Tryz.f6 (hUp) hL hTb rfl Tryz.func6 rfl rfl (Aa rfl (Aa rfl (Aa rfl Ad))) (.cons (.a1 .b (.a1 .n (.a1 .n .a0))) (.cons .i (.cons .i .nil))) (hd 10 rfl) ?_ (fun _ h => by simp at h)
        rintro y hy; injection hy with hy; subst hy
        refine As S2_27 3 (.u (.cons rfl (.cons rfl .nil)))
      · refine Df (Ba (id := 4) Az (by decide) rfl (by decide) rfl) (hd 6 rfl) ?_
        refine As S2_33 3 (.cons rfl (.cons rfl (.cons rfl .nil)))
      · refine Df (Ba (id := 5) Az (by decide) rfl (by decide) rfl) (hd 7 rfl) ?_
        refine As S2_36 3 (.cons rfl (.cons rfl (.cons rfl .nil)))
    have S2_38 : JA Tryz.prog ops1 13 (za 14 0x1) Γ ([(9, (qR a1 b1))] ++ F0) (oB a1 b1 c1 d1 [oL k P Q, ⟨0, 1, 0, true, []⟩, ⟨0, 1, 0, true, []⟩]) Q1 := by
      subst ho; subst hF; refine Bl 5 [6, 7, 8, 9, 12, 13] (Am (Au Ap rfl rfl rfl rfl) (hd 14 rfl)) hpan rfl ?_
      refine As S2_37 2 (.cons rfl (.cons rfl .nil))
    have S2_39 : JA Tryz.prog ops1 14 (za 14 0x0) Γ ([] ++ F0) (oB a1 b1 c1 d1 [oL k P Q, ⟨0, 1, 0, true, []⟩, ⟨0, 1, 0, true, []⟩]) Q1 := by
      subst ho; subst hF; refine Bl 0 [1, 2, 3, 4, 6, 7, 8, 9, 12, 13] (Am (Au Ap rfl rfl rfl rfl) (hd 9 rfl)) hpan rfl ?_
      refine As S2_38 1 (.cons rfl .nil)
    subst ho; subst hF
    exact As (m := []) S2_39 0 .nil

theorem Nk : Clo Tryz.prog 47 27 28 3 true 100 (.a [.b false, .n false .u64 [], .n false .u64 []]) where
  shape := ⟨Tryz.f47, Tryz.f48, 48, 45, 20, "ratio.go:339", Tryz.func47, rfl, rfl, rfl, Tryz.func48, rfl, rfl, fun us ue hl h1 h2 => by
    obtain ⟨a, b, c, rfl⟩ : ∃ a b c, us = [a, b, c] := by
      match us, hl with
      | [a, b, c], _ => exact ⟨a, b, c, rfl⟩
    exact Ex a b c ue (h1 a (by simp)) (h1 b (by simp)) (h1 c (by simp)) h2, fun us ue e hl h1 h2 => by
    obtain ⟨a, b, c, rfl⟩ : ∃ a b c, us = [a, b, c] := by
      match us, hl with
      | [a, b, c], _ => exact ⟨a, b, c, rfl⟩
    exact Ew a b c ue (h1 a (by simp)) (h1 b (by simp)) (h1 c (by simp)) h2 e⟩
  hm := B9
  hld := .inl ⟨rfl, Ap⟩
  hsz := Bq
  hle := Cr
  hz1 := rfl
  hz2 := rfl
  hz3 := fun _ => rfl

theorem Aij (s : Bool) (l d : List Int) (y : Nat) (hy : Rw d y) (h0 : y ≠ 0) (s2 : Bool) (l2 d2 : List Int) (y2 : Nat) (hy2 : Rw d2 y2) (h02 : y2 ≠ 0) (c : Int) (hCm : Spec Tryz.prog 19 [(.a [.b s, .n false .u64 l, .n false .u64 d]), (.a [.b s2, .n false .u64 l2, .n false .u64 d2])] (fun o => o = .ret (.t [.i .i64 c, .i .i64 0]))) (hc : c ≤ 0) (e1 e2 : Int) (hS1 : Spec Tryz.prog 50 [(.a [.b s, .n false .u64 l, .n false .u64 d])] (fun o => o = .ret (.i .i64 e1))) (hS2 : Spec Tryz.prog 50 [(.a [.b s2, .n false .u64 l2, .n false .u64 d2])] (fun o => o = .ret (.i .i64 e2))) (g1 : e1 ≤ 0) (g2 : e2 ≥ 0) : SpecT Tryz.prog 12 0 tzCells [(.a [.b s, .n false .u64 l, .n false .u64 d]), (.a [.b s2, .n false .u64 l2, .n false .u64 d2])] (fun o => o = .ret (.t [(.a [.b false, .n false .u64 (lm 0), .n false .u64 (lm ((1 : Nat) : Int))]), .i .i64 0])) := by
  refine Ig [(0, (.a [.b s, .n false .u64 l, .n false .u64 d])), (1, (.a [.b s2, .n false .u64 l2, .n false .u64 d2]))] rfl Tryz.func12 rfl (Zb rfl) fun Γ 𝓡 hTb hN hds hL hR hE => ?_
  have hd := B2 54 hN
  refine Dr <| Af <| A1 (Bn (id := 0) (n := 3) rfl rfl rfl (by decide) rfl) (hd 2 rfl) <| A1 (Bn (id := 1) (n := 3) rfl rfl rfl (by decide) rfl) (hd 3 rfl) <| A1 (Aq (id := 2) B4 (by decide) rfl (by decide) rfl) (hd 4 rfl) <| A1 (Aq (id := 3) Ep (by decide) rfl (by decide) rfl) (hd 5 rfl) <| Ab <| Fn (g := 47) (caps := [.p 2 0 0, .p 3 0 0]) 4 [_] (ops := [_, _]) rfl Tryz.func47 rfl rfl rfl hds hR hL hE <| Ac (F5 (Aa rfl (Aa rfl Ad))) (hd 6 rfl) <| Ab ?_
  refine ⟨rfl, rfl, rfl, ?_⟩
  intro Γ1 hN1 hw1 hM1 hL hR1
  replace hTb : TabR 0 tzCells Γ1.w0 Γ1.M := by rw [hw1, hM1]; exact hTb
  replace hd : ∀ d, Nat.blt d 54 = true → d < Γ1.N := fun d h => by rw [hN1]; exact hd d h
  refine Ab <| Zs <| Ac (Au Ap rfl rfl rfl rfl) (hd 7 rfl) <| Ac (Au Ap rfl rfl rfl rfl) (hd 8 rfl) <| A1 (Do (id := 4) (xs := [.tmp 7, .tmp 8]) E0 rfl (Aa rfl (Aa rfl Ad)) rfl (Cz rfl) (by decide) rfl) (hd 9 rfl) <| Dy 9 (sz := 3) [[V.b s, V.n false .u64 l, V.n false .u64 d], [V.b s2, V.n false .u64 l2, V.n false .u64 d2]] rfl rfl rfl rfl (by simp) (by simp [Ef]) (by decide) hL ?_
  refine Ag Tryz.f25 (Es s l d y s2 l2 d2 y2 hy h0 hy2 h02) rfl Tryz.func25 rfl rfl (Aa rfl Ad) (.cons .l .nil) (hd 10 rfl) ?_ (fun _ h => by simp at h)
  rintro _ ⟨⟩; refine Ab <| Ae <| Zs <| Ac (Au Ap rfl rfl rfl rfl) (hd 11 rfl) <| Ac (Au Ap rfl rfl rfl rfl) (hd 12 rfl) ?_
  refine Ag Tryz.f19 (hCm) rfl Tryz.func19 rfl rfl (Aa rfl (Aa rfl Ad)) (.cons (.a1 .b (.a1 .n (.a1 .n .a0))) (.cons (.a1 .b (.a1 .n (.a1 .n .a0))) .nil)) (hd 13 rfl) ?_ (fun _ h => by simp at h)
  rintro _ ⟨⟩; refine Ac (Ai rfl rfl) (hd 14 rfl) <| Ac (Ai rfl rfl) (hd 15 rfl) ?_
  refine Ag Tryz.f49 (Adv c) rfl Tryz.func49 rfl rfl (Aa rfl (Aa rfl Ad)) (.cons .i (.cons .i .nil)) (hd 16 rfl) ?_ (fun _ h => by simp at h)
  rintro _ ⟨⟩; refine Ac (B0 (Ce rfl rfl) (by omega)) (hd 17 rfl) <| Ab <| A6 rfl <| Aj <| Ae <| At <| Zs <| Ac (Au Ap rfl rfl rfl rfl) (hd 20 rfl) ?_
  refine Ag Tryz.f50 (hS1) rfl Tryz.func50 rfl rfl (Aa rfl Ad) (.cons (.a1 .b (.a1 .n (.a1 .n .a0))) .nil) (hd 21 rfl) ?_ (fun _ h => by simp at h)
  rintro _ ⟨⟩; refine Ac (E6 (Jq rfl rfl) g1) (hd 22 rfl) <| Zm rfl (hd 23 rfl) <| Bi 23 rfl rfl (Au Ap rfl rfl rfl rfl) (hd 24 rfl) ?_
  refine Ek Tryz.f50 23 rfl rfl (hS2) rfl Tryz.func50 rfl rfl (Aa rfl Ad) (.cons (.a1 .b (.a1 .n (.a1 .n .a0))) .nil) (hd 25 rfl) ?_ (fun _ h => by simp at h)
  rintro _ ⟨⟩; refine Bi 23 rfl rfl (E6 (F6 rfl rfl) g2) (hd 26 rfl) <| Ac (Bt rfl rfl) (hd 27 rfl) <| Za rfl (hd 19 rfl) <| Ab <| Cw rfl <| Ae <| Af ?_
  refine Ag Tryz.f46 (Jp 0 (by unfold inI; omega)) rfl Tryz.func46 rfl rfl (Aa rfl Ad) (.cons .i .nil) (hd 28 rfl) ?_ (fun _ h => by simp at h)
  rintro _ ⟨⟩; refine A3 (Ah rfl rfl rfl Bq rfl rfl (Zb rfl)) <| A3 (Ah rfl rfl rfl E5 rfl rfl (Zb rfl)) <| Ab <| An <| Clo.fin Nk (m := 4) (i := 2) (j := 3) (Zb rfl) rfl rfl rfl rfl ?_
  refine ⟨_, _, (.cons (ResV.cell Ap rfl rfl rfl rfl) (.cons (ResV.cell1 Cr rfl rfl rfl) .nil)), (.t1 (.a1 .b (.a1 .nn (.a1 .nn .a0))) (.t1 .i .t0)), ?_⟩
  exact rfl

theorem Aaf (s : Bool) (l d : List Int) (y : Nat) (hy : Rw d y) (h0 : y ≠ 0) (s2 : Bool) (l2 d2 : List Int) (y2 : Nat) (hy2 : Rw d2 y2) (h02 : y2 ≠ 0) (c : Int) (hCm : Spec Tryz.prog 19 [(.a [.b s, .n false .u64 l, .n false .u64 d]), (.a [.b s2, .n false .u64 l2, .n false .u64 d2])] (fun o => o = .ret (.t [.i .i64 c, .i .i64 0]))) (hc : c ≤ 0) (e1 e2 : Int) (hS1 : Spec Tryz.prog 50 [(.a [.b s, .n false .u64 l, .n false .u64 d])] (fun o => o = .ret (.i .i64 e1))) (hS2 : Spec Tryz.prog 50 [(.a [.b s2, .n false .u64 l2, .n false .u64 d2])] (fun o => o = .ret (.i .i64 e2))) (g1 : ¬ e1 ≤ 0) (g2 : ¬ e2 < 0) (p q r t P Q : Nat) (hSm : SpecT Tryz.prog 51 0 tzCells [(.a [.b false, .n false .u64 (lm ((p : Nat) : Int)), .n false .u64 (lm ((q : Nat) : Int))]), (.a [.b false, .n false .u64 (lm ((r : Nat) : Int)), .n false .u64 (lm ((t : Nat) : Int))])] (fun o => o = .ret (.a [.b (decide ((P : Int) < 0)), .n false .u64 (lm (P : Int)), .n false .u64 (lm (Q : Int))]))) (hNa : Spec Tryz.prog 54 [(.a [.b s, .n false .u64 l, .n false .u64 d])] (fun o => o = .ret (.a [.b false, .n false .u64 (lm ((p : Nat) : Int)), .n false .u64 (lm ((q : Nat) : Int))]))) (hNb : Spec Tryz.prog 54 [(.a [.b s2, .n false .u64 l2, .n false .u64 d2])] (fun o => o = .ret (.a [.b false, .n false .u64 (lm ((r : Nat) : Int)), .n false .u64 (lm ((t : Nat) : Int))]))) : SpecT Tryz.prog 12 0 tzCells [(.a [.b s, .n false .u64 l, .n false .u64 d]), (.a [.b s2, .n false .u64 l2, .n false .u64 d2])] (fun o => o = .ret (.t [(.a [.b (decide ((P : Int) < 0)), .n false .u64 (lm (P : Int)), .n false .u64 (lm (Q : Int))]), .i .i64 0])) := by
  refine Ig [(0, (.a [.b s, .n false .u64 l, .n false .u64 d])), (1, (.a [.b s2, .n false .u64 l2, .n false .u64 d2]))] rfl Tryz.func12 rfl (Zb rfl) fun Γ 𝓡 hTb hN hds hL hR hE => ?_
  have hd := B2 54 hN
  refine Dr <| Af <| A1 (Bn (id := 0) (n := 3) rfl rfl rfl (by decide) rfl) (hd 2 rfl) <| A1 (Bn (id := 1) (n := 3) rfl rfl rfl (by decide) rfl) (hd 3 rfl) <| A1 (Aq (id := 2) B4 (by decide) rfl (by decide) rfl) (hd 4 rfl) <| A1 (Aq (id := 3) Ep (by decide) rfl (by decide) rfl) (hd 5 rfl) <| Ab <| Fn (g := 47) (caps := [.p 2 0 0, .p 3 0 0]) 4 [_] (ops := [_, _]) rfl Tryz.func47 rfl rfl rfl hds hR hL hE <| Ac (F5 (Aa rfl (Aa rfl Ad))) (hd 6 rfl) <| Ab ?_
  refine ⟨rfl, rfl, rfl, ?_⟩
  intro Γ1 hN1 hw1 hM1 hL hR1
  replace hTb : TabR 0 tzCells Γ1.w0 Γ1.M := by rw [hw1, hM1]; exact hTb
  replace hd : ∀ d, Nat.blt d 54 = true → d < Γ1.N := fun d h => by rw [hN1]; exact hd d h
  refine Ab <| Zs <| Ac (Au Ap rfl rfl rfl rfl) (hd 7 rfl) <| Ac (Au Ap rfl rfl rfl rfl) (hd 8 rfl) <| A1 (Do (id := 4) (xs := [.tmp 7, .tmp 8]) E0 rfl (Aa rfl (Aa rfl Ad)) rfl (Cz rfl) (by decide) rfl) (hd 9 rfl) <| Dy 9 (sz := 3) [[V.b s, V.n false .u64 l, V.n false .u64 d], [V.b s2, V.n false .u64 l2, V.n false .u64 d2]] rfl rfl rfl rfl (by simp) (by simp [Ef]) (by decide) hL ?_
  refine Ag Tryz.f25 (Es s l d y s2 l2 d2 y2 hy h0 hy2 h02) rfl Tryz.func25 rfl rfl (Aa rfl Ad) (.cons .l .nil) (hd 10 rfl) ?_ (fun _ h => by simp at h)
  rintro _ ⟨⟩; refine Ab <| Ae <| Zs <| Ac (Au Ap rfl rfl rfl rfl) (hd 11 rfl) <| Ac (Au Ap rfl rfl rfl rfl) (hd 12 rfl) ?_
  refine Ag Tryz.f19 (hCm) rfl Tryz.func19 rfl rfl (Aa rfl (Aa rfl Ad)) (.cons (.a1 .b (.a1 .n (.a1 .n .a0))) (.cons (.a1 .b (.a1 .n (.a1 .n .a0))) .nil)) (hd 13 rfl) ?_ (fun _ h => by simp at h)
  rintro _ ⟨⟩; refine Ac (Ai rfl rfl) (hd 14 rfl) <| Ac (Ai rfl rfl) (hd 15 rfl) ?_
  refine Ag Tryz.f49 (Adv c) rfl Tryz.func49 rfl rfl (Aa rfl (Aa rfl Ad)) (.cons .i (.cons .i .nil)) (hd 16 rfl) ?_ (fun _ h => by simp at h)
  rintro _ ⟨⟩; refine Ac (B0 (Ce rfl rfl) (by omega)) (hd 17 rfl) <| Ab <| A6 rfl <| Aj <| Ae <| At <| Zs <| Ac (Au Ap rfl rfl rfl rfl) (hd 20 rfl) ?_
  refine Ag Tryz.f50 (hS1) rfl Tryz.func50 rfl rfl (Aa rfl Ad) (.cons (.a1 .b (.a1 .n (.a1 .n .a0))) .nil) (hd 21 rfl) ?_ (fun _ h => by simp at h)
  rintro _ ⟨⟩; refine Ac (B0 (Jq rfl rfl) g1) (hd 22 rfl) <| Zm rfl (hd 23 rfl) <| Bz 23 rfl rfl rfl (hd 24 rfl) <| Bz 23 rfl rfl rfl (hd 25 rfl) <| Bz 23 rfl rfl rfl (hd 26 rfl) <| Ac (Bg rfl rfl) (hd 27 rfl) <| Za rfl (hd 19 rfl) <| Ab <| A6 rfl <| Zs <| Ac (Au Ap rfl rfl rfl rfl) (hd 30 rfl) ?_
  refine Ag Tryz.f50 (hS2) rfl Tryz.func50 rfl rfl (Aa rfl Ad) (.cons (.a1 .b (.a1 .n (.a1 .n .a0))) .nil) (hd 31 rfl) ?_ (fun _ h => by simp at h)
  rintro _ ⟨⟩; refine Ac (B0 (Ca rfl rfl) g2) (hd 32 rfl) <| Za rfl (hd 29 rfl) <| Ab <| A6 rfl <| Aj <| Ae <| C7 <| Bo (n := 7) _ rfl B9 <| Z2 0 [1, 3, 4, 5, 6] (Am (Au Ap rfl rfl rfl rfl) (hd 49 rfl)) rfl <| Z2 2 [3, 4, 5, 6] (Am (Au Ap rfl rfl rfl rfl) (hd 51 rfl)) rfl ?_
  refine Be 1 ?_ rfl (by kernel_rfl)
  refine Ax Tryz.f54 (hNa) rfl Tryz.func54 rfl rfl (Aa rfl Ad) (.cons (.a1 .b (.a1 .n (.a1 .n .a0))) .nil) (hd 50 rfl) ?_ (fun _ h => by simp at h)
  rintro y hy; injection hy with hy; subst hy
  refine Be 3 ?_ rfl (by kernel_rfl)
  refine Ax Tryz.f54 (hNb) rfl Tryz.func54 rfl rfl (Aa rfl Ad) (.cons (.a1 .b (.a1 .n (.a1 .n .a0))) .nil) (hd 52 rfl) ?_ (fun _ h => by simp at h)
  rintro y hy; injection hy with hy; subst hy
  refine Be 4 ?_ rfl (by kernel_rfl)
  refine Fa Tryz.f51 (hSm) hL hTb rfl Tryz.func51 rfl rfl (Aa rfl (Aa rfl Ad)) (.cons (.a1 .b (.a1 .n (.a1 .n .a0))) (.cons (.a1 .b (.a1 .n (.a1 .n .a0))) .nil)) (hd 53 rfl) ?_ (fun _ h => by simp at h)
  rintro y hy; injection hy with hy; subst hy
  refine Be 5 ?_ rfl (by kernel_rfl)
  refine Cl (Ah rfl rfl rfl Bq rfl rfl (Zb rfl)) rfl ?_
  refine Be 6 ?_ rfl (by kernel_rfl)
  refine Cl (Ah rfl rfl rfl E5 rfl rfl (Zb rfl)) rfl <| Bx (by kernel_rfl) <| An <| Clo.fin Nk (m := 4) (i := 2) (j := 3) (Zb rfl) rfl rfl rfl rfl ?_
  refine ⟨_, _, (.cons (ResV.cell Ap rfl rfl rfl rfl) (.cons (ResV.cell1 Cr rfl rfl rfl) .nil)), (.t1 (.a1 .b (.a1 .n (.a1 .n .a0))) (.t1 .i .t0)), ?_⟩
  exact rfl

theorem Aag (s : Bool) (l d : List Int) (y : Nat) (hy : Rw d y) (h0 : y ≠ 0) (s2 : Bool) (l2 d2 : List Int) (y2 : Nat) (hy2 : Rw d2 y2) (h02 : y2 ≠ 0) (c : Int) (hCm : Spec Tryz.prog 19 [(.a [.b s, .n false .u64 l, .n false .u64 d]), (.a [.b s2, .n false .u64 l2, .n false .u64 d2])] (fun o => o = .ret (.t [.i .i64 c, .i .i64 0]))) (hc : c ≤ 0) (e1 e2 : Int) (hS1 : Spec Tryz.prog 50 [(.a [.b s, .n false .u64 l, .n false .u64 d])] (fun o => o = .ret (.i .i64 e1))) (hS2 : Spec Tryz.prog 50 [(.a [.b s2, .n false .u64 l2, .n false .u64 d2])] (fun o => o = .ret (.i .i64 e2))) (g1 : e1 ≤ 0) (g2 : ¬ e2 ≥ 0) (g3 : e2 < 0) (p q r t P Q : Nat) (hSm : SpecT Tryz.prog 51 0 tzCells [(.a [.b false, .n false .u64 (lm ((p : Nat) : Int)), .n false .u64 (lm ((q : Nat) : Int))]), (.a [.b false, .n false .u64 (lm ((r : Nat) : Int)), .n false .u64 (lm ((t : Nat) : Int))])] (fun o => o = .ret (.a [.b (decide ((P : Int) < 0)), .n false .u64 (lm (P : Int)), .n false .u64 (lm (Q : Int))]))) (bn : Bool) (hNb : Spec Tryz.prog 53 [(.a [.b s2, .n false .u64 l2, .n false .u64 d2])] (fun o => o = .ret (.t [(.a [.b false, .n false .u64 (lm ((p : Nat) : Int)), .n false .u64 (lm ((q : Nat) : Int))]), .i .i64 0]))) (hNa : Spec Tryz.prog 53 [(.a [.b s, .n false .u64 l, .n false .u64 d])] (fun o => o = .ret (.t [(.a [.b false, .n false .u64 (lm ((r : Nat) : Int)), .n false .u64 (lm ((t : Nat) : Int))]), .i .i64 0]))) (hNp : Spec Tryz.prog 53 [(.a [.b (decide ((P : Int) < 0)), .n false .u64 (lm (P : Int)), .n false .u64 (lm (Q : Int))])] (fun o => o = .ret (.t [(.a [.b bn, .n false .u64 (lm (P : Int)), .n false .u64 (lm (Q : Int))]), .i .i64 0]))) : SpecT Tryz.prog 12 0 tzCells [(.a [.b s, .n false .u64 l, .n false .u64 d]), (.a [.b s2, .n false .u64 l2, .n false .u64 d2])] (fun o => o = .ret (.t [(.a [.b bn, .n false .u64 (lm (P : Int)), .n false .u64 (lm (Q : Int))]), .i .i64 0])) := by
  refine Ig [(0, (.a [.b s, .n false .u64 l, .n false .u64 d])), (1, (.a [.b s2, .n false .u64 l2, .n false .u64 d2]))] rfl Tryz.func12 rfl (Zb rfl) fun Γ 𝓡 hTb hN hds hL hR hE => ?_
  have hd := B2 54 hN
  refine Dr <| Af <| A1 (Bn (id := 0) (n := 3) rfl rfl rfl (by decide) rfl) (hd 2 rfl) <| A1 (Bn (id := 1) (n := 3) rfl rfl rfl (by decide) rfl) (hd 3 rfl) <| A1 (Aq (id := 2) B4 (by decide) rfl (by decide) rfl) (hd 4 rfl) <| A1 (Aq (id := 3) Ep (by decide) rfl (by decide) rfl) (hd 5 rfl) <| Ab <| Fn (g := 47) (caps := [.p 2 0 0, .p 3 0 0]) 4 [_] (ops := [_, _]) rfl Tryz.func47 rfl rfl rfl hds hR hL hE <| Ac (F5 (Aa rfl (Aa rfl Ad))) (hd 6 rfl) <| Ab ?_
  refine ⟨rfl, rfl, rfl, ?_⟩
  intro Γ1 hN1 hw1 hM1 hL hR1
  replace hTb : TabR 0 tzCells Γ1.w0 Γ1.M := by rw [hw1, hM1]; exact hTb
  replace hd : ∀ d, Nat.blt d 54 = true → d < Γ1.N := fun d h => by rw [hN1]; exact hd d h
  refine Ab <| Zs <| Ac (Au Ap rfl rfl rfl rfl) (hd 7 rfl) <| Ac (Au Ap rfl rfl rfl rfl) (hd 8 rfl) <| A1 (Do (id := 4) (xs := [.tmp 7, .tmp 8]) E0 rfl (Aa rfl (Aa rfl Ad)) rfl (Cz rfl) (by decide) rfl) (hd 9 rfl) <| Dy 9 (sz := 3) [[V.b s, V.n false .u64 l, V.n false .u64 d], [V.b s2, V.n false .u64 l2, V.n false .u64 d2]] rfl rfl rfl rfl (by simp) (by simp [Ef]) (by decide) hL ?_
  refine Ag Tryz.f25 (Es s l d y s2 l2 d2 y2 hy h0 hy2 h02) rfl Tryz.func25 rfl rfl (Aa rfl Ad) (.cons .l .nil) (hd 10 rfl) ?_ (fun _ h => by simp at h)
  rintro _ ⟨⟩; refine Ab <| Ae <| Zs <| Ac (Au Ap rfl rfl rfl rfl) (hd 11 rfl) <| Ac (Au Ap rfl rfl rfl rfl) (hd 12 rfl) ?_
  refine Ag Tryz.f19 (hCm) rfl Tryz.func19 rfl rfl (Aa rfl (Aa rfl Ad)) (.cons (.a1 .b (.a1 .n (.a1 .n .a0))) (.cons (.a1 .b (.a1 .n (.a1 .n .a0))) .nil)) (hd 13 rfl) ?_ (fun _ h => by simp at h)
  rintro _ ⟨⟩; refine Ac (Ai rfl rfl) (hd 14 rfl) <| Ac (Ai rfl rfl) (hd 15 rfl) ?_
  refine Ag Tryz.f49 (Adv c) rfl Tryz.func49 rfl rfl (Aa rfl (Aa rfl Ad)) (.cons .i (.cons .i .nil)) (hd 16 rfl) ?_ (fun _ h => by simp at h)
  rintro _ ⟨⟩; refine Ac (B0 (Ce rfl rfl) (by omega)) (hd 17 rfl) <| Ab <| A6 rfl <| Aj <| Ae <| At <| Zs <| Ac (Au Ap rfl rfl rfl rfl) (hd 20 rfl) ?_
  refine Ag Tryz.f50 (hS1) rfl Tryz.func50 rfl rfl (Aa rfl Ad) (.cons (.a1 .b (.a1 .n (.a1 .n .a0))) .nil) (hd 21 rfl) ?_ (fun _ h => by simp at h)
  rintro _ ⟨⟩; refine Ac (E6 (Jq rfl rfl) g1) (hd 22 rfl) <| Zm rfl (hd 23 rfl) <| Bi 23 rfl rfl (Au Ap rfl rfl rfl rfl) (hd 24 rfl) ?_
  refine Ek Tryz.f50 23 rfl rfl (hS2) rfl Tryz.func50 rfl rfl (Aa rfl Ad) (.cons (.a1 .b (.a1 .n (.a1 .n .a0))) .nil) (hd 25 rfl) ?_ (fun _ h => by simp at h)
  rintro _ ⟨⟩; refine Bi 23 rfl rfl (B0 (F6 rfl rfl) g2) (hd 26 rfl) <| Ac (Bt rfl rfl) (hd 27 rfl) <| Za rfl (hd 19 rfl) <| Ab <| A6 rfl <| Zs <| Ac (Au Ap rfl rfl rfl rfl) (hd 30 rfl) ?_
  refine Ag Tryz.f50 (hS2) rfl Tryz.func50 rfl rfl (Aa rfl Ad) (.cons (.a1 .b (.a1 .n (.a1 .n .a0))) .nil) (hd 31 rfl) ?_ (fun _ h => by simp at h)
  rintro _ ⟨⟩; refine Ac (E6 (Ca rfl rfl) g3) (hd 32 rfl) <| Za rfl (hd 29 rfl) <| Ab <| Cw rfl <| Ae <| C7 <| Bo (n := 12) _ rfl B9 <| Z2 0 [1, 2, 3, 4, 6, 7, 8, 9, 10, 11] (Am (Au Ap rfl rfl rfl rfl) (hd 33 rfl)) rfl <| Z2 5 [6, 7, 8, 9, 10, 11] (Am (Au Ap rfl rfl rfl rfl) (hd 38 rfl)) rfl ?_
  refine Be 1 ?_ rfl (by kernel_rfl)
  refine Ax Tryz.f53 (hNb) rfl Tryz.func53 rfl rfl (Aa rfl Ad) (.cons (.a1 .b (.a1 .n (.a1 .n .a0))) .nil) (hd 34 rfl) ?_ (fun _ h => by simp at h)
  rintro _ ⟨⟩; refine Z2 2 [4, 6, 7, 8, 9, 10, 11] (Am (Ai rfl rfl) (hd 35 rfl)) rfl <| Z2 3 [4, 6, 7, 8, 9, 10, 11] (Am (Ai rfl rfl) (hd 36 rfl)) rfl ?_
  refine Be 4 ?_ rfl (by kernel_rfl)
  refine Ax Tryz.f52 (K2 _ _ _) rfl Tryz.func52 rfl rfl (Aa rfl (Aa rfl Ad)) (.cons (.a1 .b (.a1 .n (.a1 .n .a0))) (.cons .i .nil)) (hd 37 rfl) ?_ (fun _ h => by simp at h)
  rintro y hy; injection hy with hy; subst hy
  refine Be 6 ?_ rfl (by kernel_rfl)
  refine Ax Tryz.f53 (hNa) rfl Tryz.func53 rfl rfl (Aa rfl Ad) (.cons (.a1 .b (.a1 .n (.a1 .n .a0))) .nil) (hd 39 rfl) ?_ (fun _ h => by simp at h)
  rintro _ ⟨⟩; refine Z2 7 [9, 10, 11] (Am (Ai rfl rfl) (hd 40 rfl)) rfl <| Z2 8 [9, 10, 11] (Am (Ai rfl rfl) (hd 41 rfl)) rfl ?_
  refine Be 9 ?_ rfl (by kernel_rfl)
  refine Ax Tryz.f52 (K2 _ _ _) rfl Tryz.func52 rfl rfl (Aa rfl (Aa rfl Ad)) (.cons (.a1 .b (.a1 .n (.a1 .n .a0))) (.cons .i .nil)) (hd 42 rfl) ?_ (fun _ h => by simp at h)
  rintro y hy; injection hy with hy; subst hy
  refine Be 10 ?_ rfl (by kernel_rfl)
  refine Fa Tryz.f51 (hSm) hL hTb rfl Tryz.func51 rfl rfl (Aa rfl (Aa rfl Ad)) (.cons (.a1 .b (.a1 .n (.a1 .n .a0))) (.cons (.a1 .b (.a1 .n (.a1 .n .a0))) .nil)) (hd 43 rfl) ?_ (fun _ h => by simp at h)
  rintro y hy; injection hy with hy; subst hy
  refine Be 11 ?_ rfl (by kernel_rfl)
  refine Cl (Ah rfl rfl rfl Bq rfl rfl (Zb rfl)) rfl <| Bx (by kernel_rfl) <| Zs <| Ac (Au Ap rfl rfl rfl rfl) (hd 44 rfl) ?_
  refine Ag Tryz.f53 (hNp) rfl Tryz.func53 rfl rfl (Aa rfl Ad) (.cons (.a1 .b (.a1 .n (.a1 .n .a0))) .nil) (hd 45 rfl) ?_ (fun _ h => by simp at h)
  rintro _ ⟨⟩; refine Ac (Ai rfl rfl) (hd 46 rfl) <| Ac (Ai rfl rfl) (hd 47 rfl) ?_
  refine Ag Tryz.f52 (K2 _ _ _) rfl Tryz.func52 rfl rfl (Aa rfl (Aa rfl Ad)) (.cons (.a1 .b (.a1 .n (.a1 .n .a0))) (.cons .i .nil)) (hd 48 rfl) ?_ (fun _ h => by simp at h)
  rintro _ ⟨⟩; refine A3 (Ah rfl rfl rfl Bq rfl rfl (Zb rfl)) <| A3 (Ah rfl rfl rfl E5 rfl rfl (Zb rfl)) <| Ab <| An <| Clo.fin Nk (m := 4) (i := 2) (j := 3) (Zb rfl) rfl rfl rfl rfl ?_
  refine ⟨_, _, (.cons (ResV.cell Ap rfl rfl rfl rfl) (.cons (ResV.cell1 Cr rfl rfl rfl) .nil)), (.t1 (.a1 .b (.a1 .n (.a1 .n .a0))) (.t1 .i .t0)), ?_⟩
  exact rfl

theorem Uh {v : Int} (h : v ≤ 0) : C8 v ≤ 0 := by rcases Int.lt_or_le v 0 with h1 | h1; (unfold C8; (repeat' split) <;> omega); (unfold C8; (repeat' split) <;> omega)
theorem Ac3 {v : Int} (h : 0 ≤ v) : C8 v ≥ 0 := by unfold C8; (repeat' split) <;> omega
theorem Ac2 {v : Int} (h : v < 0) : C8 v < 0 := by unfold C8; (repeat' split) <;> omega
theorem Ui {v : Int} (h : 0 < v) : 0 < C8 v := by unfold C8; (repeat' split) <;> omega
theorem Afp {s : Bool} {x : Nat} (h : zs s x < 0) : s = true ∧ x ≠ 0 := by cases s <;> simp [zs] at h ⊢ <;> omega
theorem Afq {s : Bool} {x : Nat} (h : 0 < zs s x) : s = false ∧ x ≠ 0 := by cases s <;> simp [zs] at h ⊢ <;> omega

theorem Qb {a b L : Nat} (h1 : Al (a : Int) ≤ L) (h2 : Al (b : Int) ≤ L) : Al ((max a b : Nat) : Int) ≤ L := by
  rcases Nat.le_total a b with h | h
  · rw [Nat.max_eq_right h]; exact h2
  · rw [Nat.max_eq_left h]; exact h1
theorem Rc {x y x2 y2 : Nat} (hx : x ≠ 0) (hy : y ≠ 0) (hy2 : y2 ≠ 0) (hle : x * y2 ≤ x2 * y) (bx : Al (x : Int) ≤ 1048576) (by9 : Al (y : Int) ≤ 1048576) (bx2 : Al (x2 : Int) ≤ 1048576) (by2 : Al (y2 : Int) ≤ 1048576) :
    ∃ P Q : Nat, P ≠ 0 ∧ SmV (x : Int) y (x2 : Int) y2 (P : Int) Q ∧ Al (P : Int) ≤ 1048576 ∧ Al (Q : Int) ≤ 1048576 ∧ SpecT Tryz.prog 51 0 tzCells [(.a [.b false, .n false .u64 (lm ((rn0 x y : Nat) : Int)), .n false .u64 (lm ((rd0 x y : Nat) : Int))]), (.a [.b false, .n false .u64 (lm ((rn0 x2 y2 : Nat) : Int)), .n false .u64 (lm ((rd0 x2 y2 : Nat) : Int))])] (fun o => o = .ret (.a [.b (decide ((P : Int) < 0)), .n false .u64 (lm (P : Int)), .n false .u64 (lm (Q : Int))])) := by
  obtain ⟨n, hs⟩ := Aa2 _ _ _ _ _ (Nat.le_refl _) (X2 hx hy hy2 hle)
  have r := Smp.res hs
  have b := hs.bnd
  refine ⟨_, _, Nat.pos_iff_ne_zero.1 r.p0, r.low hy hy2, Nat.le_trans (Cn b.1) (Py bx), Nat.le_trans (Cn b.2) (Kv by9), Sx n _ _ _ _ _ _ (max (max x y) (max x2 y2)) hs rfl rfl ?_ ?_ ?_ ?_ (Nat.le_trans (Qb (Qb bx by9) (Qb bx2 by2)) (by decide))⟩
  · have := @Rg x y; omega
  · have := @Rm x y; omega
  · have := @Rg x2 y2; omega
  · have := @Rm x2 y2; omega
theorem Me (s : Bool) (l d : List Int) (x y : Nat) (hx : Rw l x) (hy : Rw d y) (h0 : y ≠ 0) (bx : Al (x : Int) ≤ 1048576) (by9 : Al (y : Int) ≤ 1048576) (s2 : Bool) (l2 d2 : List Int) (x2 y2 : Nat) (hx2 : Rw l2 x2) (hy2 : Rw d2 y2) (h02 : y2 ≠ 0) (bx2 : Al (x2 : Int) ≤ 1048576) (by2 : Al (y2 : Int) ≤ 1048576)
    (hle : zs s x * (y2 : Int) ≤ zs s2 x2 * (y : Int)) : ∃ (P : Int) (Q : Nat), SmV (zs s x) y (zs s2 x2) y2 P Q ∧ Al P ≤ 1048576 ∧ Al (Q : Int) ≤ 1048576 ∧ SpecT Tryz.prog 12 0 tzCells [(.a [.b s, .n false .u64 l, .n false .u64 d]), (.a [.b s2, .n false .u64 l2, .n false .u64 d2])] (fun o => o = .ret (.t [(.a [.b (decide (P < 0)), .n false .u64 (lm P), .n false .u64 (lm (Q : Int))]), .i .i64 0])) := by
  have r1 : Qr s l d x y (zs s x) y 1048576 := ⟨hx, hy, Qe.raw h0, bx, by9, by rw [E8]; exact bx, by9⟩
  have r2 : Qr s2 l2 d2 x2 y2 (zs s2 x2) y2 1048576 := ⟨hx2, hy2, Qe.raw h02, bx2, by2, by rw [E8]; exact bx2, by2⟩
  have hCm := He r1 r2
  have hc := Eo.2 hle
  have hS1 := M3 s l d hx.l hx.u
  have hS2 := M3 s2 l2 d2 hx2.l hx2.u
  rw [hx.sv] at hS1
  rw [hx2.sv] at hS2
  have hyp : (0 : Int) < (y : Int) := by omega
  have hyp2 : (0 : Int) < (y2 : Int) := by omega
  by_cases hz : zs s x ≤ 0
  · by_cases hw : 0 ≤ zs s2 x2
    · exact ⟨0, 1, Ajr hz hw, by decide, by decide, Aij s l d y hy h0 s2 l2 d2 y2 hy2 h02 _ hCm hc _ _ hS1 hS2 (Uh hz) (Ac3 hw)⟩
    · have hzn : zs s x < 0 := by
        refine Int.not_le.1 fun h9 => ?_
        have e1 := Int.mul_nonneg h9 (Int.le_of_lt hyp2)
        have e2 := Int.mul_neg_of_neg_of_pos (Int.not_le.1 hw) hyp
        omega
      obtain ⟨rfl, hx0⟩ : s = true ∧ x ≠ 0 := Afp hzn
      obtain ⟨rfl, hx20⟩ : s2 = true ∧ x2 ≠ 0 := Afp (Int.not_le.1 hw)
      have hle' : x2 * y ≤ x * y2 := by
        have e1 : -(x : Int) * (y2 : Int) ≤ -(x2 : Int) * (y : Int) := hle
        rw [Int.neg_mul, Int.neg_mul] at e1
        have e2 : (x2 : Int) * (y : Int) ≤ (x : Int) * (y2 : Int) := by omega
        exact_mod_cast e2
      obtain ⟨P, Q, hP, hv, bP, bQ, hSm⟩ := Rc hx20 h02 h0 hle' bx2 by2 bx by9
      have hNb := Ss true l2 d2 x2 y2 hx2 hy2 h02
      have hNa := Ss true l d x y hx hy h0
      have hc1 : Nat.gcd P Q = 1 := by have := hv.cop; rwa [Int.natAbs_natCast] at this
      have hNp := Ss (decide ((P : Int) < 0)) (lm (P : Int)) (lm (Q : Int)) P Q (Rw.of (by omega)) (Rw.of (by omega)) hv.q0
      rw [Ada hc1, Ade hc1, decide_eq_false (Int.not_lt.2 (Int.natCast_nonneg P)), show sgq (!false) P = decide (-(P : Int) < 0) by unfold sgq; rw [decide_eq_true (by omega : -(P : Int) < 0), decide_eq_true hP]; rfl, show lm (P : Int) = lm (-(P : Int)) by unfold lm; rw [Int.natAbs_neg]] at hNp
      rw [show lm (P : Int) = lm (-(P : Int)) by unfold lm; rw [Int.natAbs_neg], decide_eq_false (Int.not_lt.2 (Int.natCast_nonneg P))] at hSm
      refine ⟨-(P : Int), Q, SmV.neg (by rw [show -zs true x2 = (x2 : Int) from Int.neg_neg _, show -zs true x = (x : Int) from Int.neg_neg _]; exact hv), by rw [Yy]; exact bP, bQ, ?_⟩
      have g2 : C8 (zs true x2) < 0 := Ac2 (Int.not_le.1 hw)
      have hE : lm (-(P : Int)) = lm (P : Int) := by unfold lm; rw [Int.natAbs_neg]
      rw [hE] at hNp hSm ⊢
      exact Aag true l d y hy h0 true l2 d2 y2 hy2 h02 _ hCm hc _ _ hS1 hS2 (Uh hz) (by omega) g2 _ _ _ _ P Q (by rw [decide_eq_false (Int.not_lt.2 (Int.natCast_nonneg P))]; exact hSm) _ hNb hNa (by rw [decide_eq_false (Int.not_lt.2 (Int.natCast_nonneg P))]; exact hNp)
  · have hzp : 0 < zs s x := by omega
    have hwp : 0 < zs s2 x2 := by
      refine Int.not_le.1 fun h9 => ?_
      have e1 := Int.mul_pos hzp hyp2
      have e2 := Int.mul_nonneg (Int.neg_nonneg_of_nonpos h9) (Int.le_of_lt hyp)
      rw [Int.neg_mul] at e2
      omega
    obtain ⟨rfl, hx0⟩ : s = false ∧ x ≠ 0 := Afq hzp
    obtain ⟨rfl, hx20⟩ : s2 = false ∧ x2 ≠ 0 := Afq hwp
    have hle' : x * y2 ≤ x2 * y := by
      have e1 : (x : Int) * (y2 : Int) ≤ (x2 : Int) * (y : Int) := hle
      exact_mod_cast e1
    obtain ⟨P, Q, hP, hv, bP, bQ, hSm⟩ := Rc hx0 h0 h02 hle' bx by9 bx2 by2
    have hNa := Em false l d x y hx hy h0
    have hNb := Em false l2 d2 x2 y2 hx2 hy2 h02
    exact ⟨(P : Int), Q, hv, bP, bQ, Aaf false l d y hy h0 false l2 d2 y2 hy2 h02 _ hCm hc _ _ hS1 hS2 (by have := Ui hzp; omega) (by have := Ui hwp; omega) _ _ _ _ P Q hSm hNa hNb⟩

theorem Pe (s1 : Bool) (l1 d1 : List Int) (x1 y1 : Nat) (hx1 : Rw l1 x1) (hy1 : Rw d1 y1) (s2 : Bool) (l2 d2 : List Int) (x2 y2 : Nat) (hx2 : Rw l2 x2) (hy2 : Rw d2 y2) (s3 : Bool) (l3 d3 : List Int) (x3 y3 : Nat) (hx3 : Rw l3 x3) (hy3 : Rw d3 y3) (hbs : Lq [(s1, l1, d1), (s2, l2, d2), (s3, l3, d3)] = false) : Spec Tryz.prog 5 [(.a [.b s1, .n false .u64 l1, .n false .u64 d1]), (.a [.b s2, .n false .u64 l2, .n false .u64 d2]), (.a [.b s3, .n false .u64 l3, .n false .u64 d3])] (fun o => o = .ret (.b true)) := by
  refine Aw [(0, (.a [.b s1, .n false .u64 l1, .n false .u64 d1])), (1, (.a [.b s2, .n false .u64 l2, .n false .u64 d2])), (2, (.a [.b s3, .n false .u64 l3, .n false .u64 d3]))] rfl Tryz.func5 rfl (Zb rfl) fun Γ hN hds hL hR => ?_
  have hd := B2 112 hN
  have hSm : Spec Tryz.prog 18 [.l false 3 [[V.b s1, V.n false .u64 l1, V.n false .u64 d1], [V.b s2, V.n false .u64 l2, V.n false .u64 d2], [V.b s3, V.n false .u64 l3, V.n false .u64 d3]]] (fun o => o = .ret (.b false)) := by have h := Q9 [(s1, l1, d1), (s2, l2, d2), (s3, l3, d3)] (fun r hr => by simp only [List.mem_cons, List.mem_nil_iff, or_false] at hr; rcases hr with rfl | rfl | rfl <;> first | exact ⟨hx1.l, hx1.u, hy1.l, hy1.u⟩ | exact ⟨hx2.l, hx2.u, hy2.l, hy2.u⟩ | exact ⟨hx3.l, hx3.u, hy3.l, hy3.u⟩) (by simp); rwa [hbs] at h
  refine Zs <| A1 (Bn (id := 0) (n := 3) rfl rfl rfl (by decide) rfl) (hd 3 rfl) <| A1 (Bn (id := 1) (n := 3) rfl rfl rfl (by decide) rfl) (hd 4 rfl) <| A1 (Bn (id := 2) (n := 3) rfl rfl rfl (by decide) rfl) (hd 5 rfl) <| Za rfl (hd 6 rfl) <| Ab <| Ae <| Zs <| Ac (Au Ap rfl rfl rfl rfl) (hd 21 rfl) <| Ac (Au Ap rfl rfl rfl rfl) (hd 22 rfl) <| Ac (Au Ap rfl rfl rfl rfl) (hd 23 rfl) ?_; refine A1 (Do (id := 3) (xs := [.tmp 21, .tmp 22, .tmp 23]) E0 rfl (Aa rfl (Aa rfl (Aa rfl Ad))) rfl (Cz rfl) (by decide) rfl) (hd 24 rfl) <| Dy 24 (sz := 3) [[V.b s1, V.n false .u64 l1, V.n false .u64 d1], [V.b s2, V.n false .u64 l2, V.n false .u64 d2], [V.b s3, V.n false .u64 l3, V.n false .u64 d3]] rfl rfl rfl rfl (by simp) (by simp [Ef]) (by decide) hL ?_
  refine Ag Tryz.f18 (hSm) rfl Tryz.func18 rfl rfl (Aa rfl Ad) (.cons .l .nil) (hd 25 rfl) ?_ (fun _ h => by simp at h)
  rintro _ ⟨⟩; refine Ac (Ha rfl) (hd 26 rfl) <| Ab <| Cw rfl <| Ae <| Af ?_
  refine Ag Tryz.f11 (J6) rfl Tryz.func11 rfl rfl Ad .nil (hd 27 rfl) ?_ (fun _ h => by simp at h)
  rintro _ ⟨⟩; refine Za rfl (hd 6 rfl) <| Ab <| An ?_
  refine ⟨_, _, (.cons rfl .nil), .b, ?_⟩
  exact rfl

set_option maxHeartbeats 20000000 in
set_option maxRecDepth 100000 in
theorem Jo (s1 : Bool) (l1 d1 : List Int) (s2 : Bool) (l2 d2 : List Int) (s3 : Bool) (l3 d3 : List Int) (sa : Bool) (la da : List Int) (sb : Bool) (lb db : List Int) (c0 c1 c2 c3 c4 c5 : Int) (bs bn : Bool) (ls ds ln dn o1 o2 : List Int) (hSm : Spec Tryz.prog 18 [.l false 3 [[V.b s1, V.n false .u64 l1, V.n false .u64 d1], [V.b s2, V.n false .u64 l2, V.n false .u64 d2], [V.b s3, V.n false .u64 l3, V.n false .u64 d3]]] (fun o => o = .ret (.b true))) (hC0 : Spec Tryz.prog 19 [(.a [.b s1, .n false .u64 l1, .n false .u64 d1]), (.a [.b s2, .n false .u64 l2, .n false .u64 d2])] (fun o => o = .ret (.t [.i .i64 c0, .i .i64 0]))) (hsY : c0 > 0 → sa = s2 ∧ la = l2 ∧ da = d2 ∧ sb = s1 ∧ lb = l1 ∧ db = d1) (hsN : ¬ c0 > 0 → sa = s1 ∧ la = l1 ∧ da = d1 ∧ sb = s2 ∧ lb = l2 ∧ db = d2) (hS : SpecT Tryz.prog 12 0 tzCells [(.a [.b sa, .n false .u64 la, .n false .u64 da]), (.a [.b sb, .n false .u64 lb, .n false .u64 db])] (fun o => o = .ret (.t [(.a [.b bs, .n false .u64 ls, .n false .u64 ds]), .i .i64 0]))) (hC1 : Spec Tryz.prog 19 [(.a [.b sa, .n false .u64 la, .n false .u64 da]), (.a [.b bs, .n false .u64 ls, .n false .u64 ds])] (fun o => o = .ret (.t [.i .i64 c1, .i .i64 0]))) (hC2 : Spec Tryz.prog 19 [(.a [.b bs, .n false .u64 ls, .n false .u64 ds]), (.a [.b sb, .n false .u64 lb, .n false .u64 db])] (fun o => o = .ret (.t [.i .i64 c2, .i .i64 0]))) (hC3 : Spec Tryz.prog 19 [(.a [.b sa, .n false .u64 la, .n false .u64 da]), (.a [.b s3, .n false .u64 l3, .n false .u64 d3])] (fun o => o = .ret (.t [.i .i64 c3, .i .i64 0]))) (hC4 : Spec Tryz.prog 19 [(.a [.b s3, .n false .u64 l3, .n false .u64 d3]), (.a [.b sb, .n false .u64 lb, .n false .u64 db])] (fun o => o = .ret (.t [.i .i64 c4, .i .i64 0]))) (hq1 : ¬ c1 > 0) (hq2 : ¬ c2 > 0) (hNm : Spec Tryz.prog 20 [(.a [.b s3, .n false .u64 l3, .n false .u64 d3])] (fun o => o = .ret (.t [(.a [.b bn, .n false .u64 ln, .n false .u64 dn]), .i .i64 0]))) (hO1 : Spec Tryz.prog 22 [.n false .u64 ds] (fun o => o = .ret (.n false .u64 o1))) (hO2 : Spec Tryz.prog 22 [.n false .u64 dn] (fun o => o = .ret (.n false .u64 o2))) (hC5 : Spec Tryz.prog 21 [.n false .u64 o1, .n false .u64 o2] (fun o => o = .ret (.i .i64 c5))) (hfin : ¬ c3 > 0 → ¬ c4 > 0 → c5 ≤ 0) : SpecT Tryz.prog 5 0 tzCells [(.a [.b s1, .n false .u64 l1, .n false .u64 d1]), (.a [.b s2, .n false .u64 l2, .n false .u64 d2]), (.a [.b s3, .n false .u64 l3, .n false .u64 d3])] (fun o => o = .ret (.b true)) := by
  refine Ju [(0, (.a [.b s1, .n false .u64 l1, .n false .u64 d1])), (1, (.a [.b s2, .n false .u64 l2, .n false .u64 d2])), (2, (.a [.b s3, .n false .u64 l3, .n false .u64 d3]))] rfl Tryz.func5 rfl (Zb rfl) fun Γ hTb hN hds hL hR => ?_
  have hd := B2 112 hN
  refine Zs <| A1 (Bn (id := 0) (n := 3) rfl rfl rfl (by decide) rfl) (hd 3 rfl) <| A1 (Bn (id := 1) (n := 3) rfl rfl rfl (by decide) rfl) (hd 4 rfl) <| A1 (Bn (id := 2) (n := 3) rfl rfl rfl (by decide) rfl) (hd 5 rfl) <| Za rfl (hd 6 rfl) <| Ab <| Ae <| Zs <| Ac (Au Ap rfl rfl rfl rfl) (hd 21 rfl) <| Ac (Au Ap rfl rfl rfl rfl) (hd 22 rfl) <| Ac (Au Ap rfl rfl rfl rfl) (hd 23 rfl) ?_; refine A1 (Do (id := 3) (xs := [.tmp 21, .tmp 22, .tmp 23]) E0 rfl (Aa rfl (Aa rfl (Aa rfl Ad))) rfl (Cz rfl) (by decide) rfl) (hd 24 rfl) <| Dy 24 (sz := 3) [[V.b s1, V.n false .u64 l1, V.n false .u64 d1], [V.b s2, V.n false .u64 l2, V.n false .u64 d2], [V.b s3, V.n false .u64 l3, V.n false .u64 d3]] rfl rfl rfl rfl (by simp) (by simp [Ef]) (by decide) hL ?_
  refine Ag Tryz.f18 (hSm) rfl Tryz.func18 rfl rfl (Aa rfl Ad) (.cons .l .nil) (hd 25 rfl) ?_ (fun _ h => by simp at h)
  rintro _ ⟨⟩; refine Ac (Ha rfl) (hd 26 rfl) <| Ab <| A6 rfl <| Aj ?_
  refine Ja (G := Unit) (fun _ => True) (fun _ => [(7, .u), (8, .u), (28, .u), (29, .u), (30, .u), (31, .u), (32, .u), (33, .u), (34, .u), (35, .u), (36, .u), (37, .u)]) (fun _ => [⟨27, 3, 0, true, [.b sa, .n false .u64 la, .n false .u64 da]⟩, ⟨27, 3, 0, true, [.b sb, .n false .u64 lb, .n false .u64 db]⟩, ⟨27, 3, 0, true, [.b s3, .n false .u64 l3, .n false .u64 d3]⟩, ⟨27, 3, 0, false, []⟩]) ?_ ?_
  · refine Zs <| Ac (Au Ap rfl rfl rfl rfl) (hd 29 rfl) <| Ac (Au Ap rfl rfl rfl rfl) (hd 30 rfl) ?_
    refine Ag Tryz.f19 (hC0) rfl Tryz.func19 rfl rfl (Aa rfl (Aa rfl Ad)) (.cons (.a1 .b (.a1 .n (.a1 .n .a0))) (.cons (.a1 .b (.a1 .n (.a1 .n .a0))) .nil)) (hd 31 rfl) ?_ (fun _ h => by simp at h)
    rintro _ ⟨⟩; refine Zm rfl (hd 28 rfl) <| Ac (Ai rfl rfl) (hd 32 rfl) <| Ac (Ai rfl rfl) (hd 33 rfl) <| Za rfl (hd 7 rfl) <| Za rfl (hd 8 rfl) <| Ab <| Zs <| Zm rfl (hd 34 rfl) <| Ac (Ce rfl rfl) (hd 35 rfl) <| Ab ?_
    refine Bh rfl (fun h2 => ?_) (fun h2 => ?_)
    · obtain ⟨rfl, rfl, rfl, rfl, rfl, rfl⟩ := hsY h2
      refine Af <| Ac (Au Ap rfl rfl rfl rfl) (hd 36 rfl) <| Ac (Au Ap rfl rfl rfl rfl) (hd 37 rfl) <| A3 (Ah rfl rfl rfl Bq rfl rfl (Zb rfl)) <| A3 (Ah rfl rfl rfl Bq rfl rfl (Zb rfl)) <| Ab ?_
      refine ⟨(), ?_, rfl, Bj 12 rfl rfl ?_⟩
      · trivial
      · exact (.v9 (.u (.u .nil)))
    · obtain ⟨rfl, rfl, rfl, rfl, rfl, rfl⟩ := hsN h2
      refine Aj ?_
      refine ⟨(), ?_, rfl, Bj 10 rfl rfl ?_⟩
      · trivial
      · exact (.v9 (.u (.u .nil)))
  · rintro _ _; refine Zs <| Ac (Au Ap rfl rfl rfl rfl) (hd 39 rfl) <| Ac (Au Ap rfl rfl rfl rfl) (hd 40 rfl) ?_
    refine Is Tryz.f12 (hS) hL hTb rfl Tryz.func12 rfl rfl (Aa rfl (Aa rfl Ad)) (.cons (.a1 .b (.a1 .n (.a1 .n .a0))) (.cons (.a1 .b (.a1 .n (.a1 .n .a0))) .nil)) (hd 41 rfl) ?_ (fun _ h => by simp at h)
    rintro _ ⟨⟩; refine Zm rfl (hd 38 rfl) <| Ac (Ai rfl rfl) (hd 42 rfl) <| Ac (Ai rfl rfl) (hd 43 rfl) <| A1 (Aq (id := 4) B4 (by decide) rfl (by decide) rfl) (hd 9 rfl) <| A3 (Ah rfl rfl rfl Bq rfl rfl (Zb rfl)) <| Za rfl (hd 10 rfl) <| Ab <| Zs <| Ac (Au Ap rfl rfl rfl rfl) (hd 45 rfl) <| Ac (Au Ap rfl rfl rfl rfl) (hd 46 rfl) ?_
    refine Ag Tryz.f19 (hC1) rfl Tryz.func19 rfl rfl (Aa rfl (Aa rfl Ad)) (.cons (.a1 .b (.a1 .n (.a1 .n .a0))) (.cons (.a1 .b (.a1 .n (.a1 .n .a0))) .nil)) (hd 47 rfl) ?_ (fun _ h => by simp at h)
    rintro _ ⟨⟩; refine Zm rfl (hd 44 rfl) <| Ac (Ai rfl rfl) (hd 48 rfl) <| Ac (Ai rfl rfl) (hd 49 rfl) <| Za rfl (hd 11 rfl) <| Za rfl (hd 12 rfl) <| Ab <| Zs <| Ac (Au Ap rfl rfl rfl rfl) (hd 51 rfl) <| Ac (Au Ap rfl rfl rfl rfl) (hd 52 rfl) ?_
    refine Ag Tryz.f19 (hC2) rfl Tryz.func19 rfl rfl (Aa rfl (Aa rfl Ad)) (.cons (.a1 .b (.a1 .n (.a1 .n .a0))) (.cons (.a1 .b (.a1 .n (.a1 .n .a0))) .nil)) (hd 53 rfl) ?_ (fun _ h => by simp at h)
    rintro _ ⟨⟩; refine Zm rfl (hd 50 rfl) <| Ac (Ai rfl rfl) (hd 54 rfl) <| Ac (Ai rfl rfl) (hd 55 rfl) <| Za rfl (hd 13 rfl) <| Za rfl (hd 14 rfl) <| Ab <| Ae <| Zs <| Zm rfl (hd 56 rfl) <| Ac (B0 (Ec rfl rfl) (by decide)) (hd 57 rfl) <| Zm rfl (hd 58 rfl) <| Bi 58 rfl rfl (Ay rfl) (hd 59 rfl) ?_; refine Bi 58 rfl rfl (B0 (Ec rfl rfl) (by decide)) (hd 60 rfl) <| Ac (Bg rfl rfl) (hd 61 rfl) <| Zm rfl (hd 62 rfl) <| Bi 62 rfl rfl (Ay rfl) (hd 63 rfl) <| Bi 62 rfl rfl (B0 (Ec rfl rfl) (by decide)) (hd 64 rfl) <| Ac (Bg rfl rfl) (hd 65 rfl) <| Zm rfl (hd 66 rfl) <| Bi 66 rfl rfl (Ay rfl) (hd 67 rfl) <| Bi 66 rfl rfl (B0 (Ce rfl rfl) hq1) (hd 68 rfl) <| Ac (Bg rfl rfl) (hd 69 rfl) <| Zm rfl (hd 70 rfl) <| Bi 70 rfl rfl (Ay rfl) (hd 71 rfl) <| Bi 70 rfl rfl (B0 (Ce rfl rfl) hq2) (hd 72 rfl) ?_; refine Ac (Bg rfl rfl) (hd 73 rfl) <| Ab <| A6 rfl <| Aj <| Zs <| Ac (Au Ap rfl rfl rfl rfl) (hd 75 rfl) <| Ac (Au Ap rfl rfl rfl rfl) (hd 76 rfl) ?_
    refine Ag Tryz.f19 (hC3) rfl Tryz.func19 rfl rfl (Aa rfl (Aa rfl Ad)) (.cons (.a1 .b (.a1 .n (.a1 .n .a0))) (.cons (.a1 .b (.a1 .n (.a1 .n .a0))) .nil)) (hd 77 rfl) ?_ (fun _ h => by simp at h)
    rintro _ ⟨⟩; refine Zm rfl (hd 74 rfl) <| Ac (Ai rfl rfl) (hd 78 rfl) <| Ac (Ai rfl rfl) (hd 79 rfl) <| Za rfl (hd 15 rfl) <| Za rfl (hd 16 rfl) <| Ab <| Zs <| Ac (Au Ap rfl rfl rfl rfl) (hd 81 rfl) <| Ac (Au Ap rfl rfl rfl rfl) (hd 82 rfl) ?_
    refine Ag Tryz.f19 (hC4) rfl Tryz.func19 rfl rfl (Aa rfl (Aa rfl Ad)) (.cons (.a1 .b (.a1 .n (.a1 .n .a0))) (.cons (.a1 .b (.a1 .n (.a1 .n .a0))) .nil)) (hd 83 rfl) ?_ (fun _ h => by simp at h)
    rintro _ ⟨⟩; refine Zm rfl (hd 80 rfl) <| Ac (Ai rfl rfl) (hd 84 rfl) <| Ac (Ai rfl rfl) (hd 85 rfl) <| Za rfl (hd 17 rfl) <| Za rfl (hd 18 rfl) <| Ab <| Zs <| Ac (Au Ap rfl rfl rfl rfl) (hd 87 rfl) ?_
    refine Ag Tryz.f20 (hNm) rfl Tryz.func20 rfl rfl (Aa rfl Ad) (.cons (.a1 .b (.a1 .n (.a1 .n .a0))) .nil) (hd 88 rfl) ?_ (fun _ h => by simp at h)
    rintro _ ⟨⟩; refine Zm rfl (hd 86 rfl) <| Ac (Ai rfl rfl) (hd 89 rfl) <| Ac (Ai rfl rfl) (hd 90 rfl) <| A1 (Aq (id := 5) B4 (by decide) rfl (by decide) rfl) (hd 19 rfl) <| A3 (Ah rfl rfl rfl Bq rfl rfl (Zb rfl)) <| Za rfl (hd 20 rfl) <| Ab <| Ae <| Zs <| Zm rfl (hd 91 rfl) <| Ac (B0 (Ec rfl rfl) (by decide)) (hd 92 rfl) <| Ab ?_; refine A6 rfl <| Aj <| Ae <| Bo (n := 20) _ rfl B9 <| Z2 0 [1, 2, 3, 4, 5, 6, 7, 8, 9, 10, 11, 12, 13, 14, 15, 16, 17, 18, 19] (Am (Ay rfl) (hd 93 rfl)) rfl <| Z2 1 [2, 3, 4, 5, 6, 7, 8, 9, 10, 11, 12, 13, 14, 15, 16, 17, 18, 19] (Am (Ce rfl rfl) (hd 94 rfl)) rfl <| Z2 2 [3, 4, 5, 6, 7, 8, 9, 10, 11, 12, 13, 14, 15, 16, 17, 18, 19] (Am (Ay rfl) (hd 95 rfl)) rfl ?_
    refine R2 95 rfl (fun h5 => ?_) (fun h5 => ?_)
    · refine Z2 3 [4, 5, 6, 7, 8, 9, 10, 11, 12, 13, 14, 15, 16, 17, 18, 19] (H4 95 rfl rfl rfl (hd 96 rfl)) rfl <| Z2 4 [5, 6, 7, 8, 9, 10, 11, 12, 13, 14, 15, 16, 17, 18, 19] (H4 95 rfl rfl rfl (hd 97 rfl)) rfl <| Z2 5 [6, 7, 8, 9, 10, 11, 12, 13, 14, 15, 16, 17, 18, 19] (Am (Bt rfl rfl) (hd 98 rfl)) rfl <| Z2 6 [7, 8, 9, 10, 11, 12, 13, 14, 15, 16, 17, 18, 19] (Am (Ay rfl) (hd 99 rfl)) rfl <| Z2 7 [8, 9, 12, 13, 14, 15, 16, 17, 18, 19] (H4 99 rfl rfl rfl (hd 100 rfl)) rfl <| Z2 8 [9, 12, 13, 14, 15, 16, 17, 18, 19] (H4 99 rfl rfl rfl (hd 101 rfl)) rfl <| Z2 10 [11, 12, 13, 14, 15, 16, 17, 18, 19] (H4 99 rfl rfl rfl (hd 103 rfl)) rfl <| Z2 11 [12, 13, 14, 15, 16, 17, 18, 19] (H4 99 rfl rfl rfl (hd 104 rfl)) rfl <| Z2 9 [12, 13, 14, 15, 16, 17, 18, 19] (H4 99 rfl rfl rfl (hd 102 rfl)) rfl <| Z2 12 [13, 14, 15, 16, 17, 18, 19] (H4 99 rfl rfl rfl (hd 105 rfl)) rfl <| Z2 13 [14, 15, 16, 17, 18, 19] (H4 99 rfl rfl rfl (hd 106 rfl)) rfl <| Z2 14 [15, 16, 17, 18, 19] (H4 99 rfl rfl rfl (hd 107 rfl)) rfl <| Z2 15 [16, 17, 18, 19] (Am (Bt rfl rfl) (hd 108 rfl)) rfl ?_; refine Z1 16 (Am (Ay rfl) (hd 109 rfl)) rfl ?_
      refine Be 17 ?_ rfl (by kernel_rfl)
      refine E9 Tryz.f11 109 rfl rfl (J6) rfl Tryz.func11 rfl rfl Ad .nil (hd 110 rfl) ?_ (fun _ h => by simp at h)
      rintro _ ⟨⟩; refine Z1 18 (Am (Bt rfl rfl) (hd 111 rfl)) rfl <| Z1 19 (Am (Cm rfl) (hd 6 rfl)) rfl <| Bx (by kernel_rfl) <| An ?_
      refine ⟨_, _, (.cons rfl .nil), .b, ?_⟩
      exact rfl
    · have k1 := h5
      refine Z2 3 [4, 5, 6, 7, 8, 9, 10, 11, 12, 13, 14, 15, 16, 17, 18, 19] (Ip 95 rfl rfl (Ay rfl) (hd 96 rfl)) rfl <| Z2 4 [5, 6, 7, 8, 9, 10, 11, 12, 13, 14, 15, 16, 17, 18, 19] (Ip 95 rfl rfl (Ce rfl rfl) (hd 97 rfl)) rfl <| Z2 5 [6, 7, 8, 9, 10, 11, 12, 13, 14, 15, 16, 17, 18, 19] (Am (Bg rfl rfl) (hd 98 rfl)) rfl <| Z2 6 [7, 8, 9, 10, 11, 12, 13, 14, 15, 16, 17, 18, 19] (Am (Ay rfl) (hd 99 rfl)) rfl ?_
      refine R2 99 rfl (fun h6 => ?_) (fun h6 => ?_)
      · refine Z2 7 [8, 9, 12, 13, 14, 15, 16, 17, 18, 19] (H4 99 rfl rfl rfl (hd 100 rfl)) rfl <| Z2 8 [9, 12, 13, 14, 15, 16, 17, 18, 19] (H4 99 rfl rfl rfl (hd 101 rfl)) rfl <| Z2 10 [11, 12, 13, 14, 15, 16, 17, 18, 19] (H4 99 rfl rfl rfl (hd 103 rfl)) rfl <| Z2 11 [12, 13, 14, 15, 16, 17, 18, 19] (H4 99 rfl rfl rfl (hd 104 rfl)) rfl <| Z2 9 [12, 13, 14, 15, 16, 17, 18, 19] (H4 99 rfl rfl rfl (hd 102 rfl)) rfl <| Z2 12 [13, 14, 15, 16, 17, 18, 19] (H4 99 rfl rfl rfl (hd 105 rfl)) rfl <| Z2 13 [14, 15, 16, 17, 18, 19] (H4 99 rfl rfl rfl (hd 106 rfl)) rfl <| Z2 14 [15, 16, 17, 18, 19] (H4 99 rfl rfl rfl (hd 107 rfl)) rfl <| Z2 15 [16, 17, 18, 19] (Am (Bt rfl rfl) (hd 108 rfl)) rfl <| Z1 16 (Am (Ay rfl) (hd 109 rfl)) rfl ?_
        refine Be 17 ?_ rfl (by kernel_rfl)
        refine E9 Tryz.f11 109 rfl rfl (J6) rfl Tryz.func11 rfl rfl Ad .nil (hd 110 rfl) ?_ (fun _ h => by simp at h)
        rintro _ ⟨⟩; refine Z1 18 (Am (Bt rfl rfl) (hd 111 rfl)) rfl <| Z1 19 (Am (Cm rfl) (hd 6 rfl)) rfl <| Bx (by kernel_rfl) <| An ?_
        refine ⟨_, _, (.cons rfl .nil), .b, ?_⟩
        exact rfl
      · have k2 := h6
        refine Z2 7 [8, 9, 12, 13, 14, 15, 16, 17, 18, 19] (Ip 99 rfl rfl (A5 Cs rfl rfl rfl) (hd 100 rfl)) rfl <| Z2 8 [9, 12, 13, 14, 15, 16, 17, 18, 19] (Ip 99 rfl rfl (A9 B5 rfl rfl rfl) (hd 101 rfl)) rfl <| Z2 10 [11, 12, 13, 14, 15, 16, 17, 18, 19] (Ip 99 rfl rfl (A5 Cs rfl rfl rfl) (hd 103 rfl)) rfl <| Z2 11 [12, 13, 14, 15, 16, 17, 18, 19] (Ip 99 rfl rfl (A9 B5 rfl rfl rfl) (hd 104 rfl)) rfl ?_
        refine Be 9 ?_ rfl (by kernel_rfl)
        refine E9 Tryz.f22 99 rfl rfl (hO1) rfl Tryz.func22 rfl rfl (Aa rfl Ad) (.cons .n .nil) (hd 102 rfl) ?_ (fun _ h => by simp at h)
        rintro y hy; injection hy with hy; subst hy
        refine Be 12 ?_ rfl (by kernel_rfl)
        refine E9 Tryz.f22 99 rfl rfl (hO2) rfl Tryz.func22 rfl rfl (Aa rfl Ad) (.cons .n .nil) (hd 105 rfl) ?_ (fun _ h => by simp at h)
        rintro y hy; injection hy with hy; subst hy
        refine Be 13 ?_ rfl (by kernel_rfl)
        refine E9 Tryz.f21 99 rfl rfl (hC5) rfl Tryz.func21 rfl rfl (Aa rfl (Aa rfl Ad)) (.cons .n (.cons .n .nil)) (hd 106 rfl) ?_ (fun _ h => by simp at h)
        rintro _ ⟨⟩; refine Z2 14 [15, 16, 17, 18, 19] (Ip 99 rfl rfl (E6 (Jq rfl rfl) (hfin k1 k2)) (hd 107 rfl)) rfl <| Z2 15 [16, 17, 18, 19] (Am (Bg rfl rfl) (hd 108 rfl)) rfl <| Z1 16 (Am (Ay rfl) (hd 109 rfl)) rfl ?_
        refine Be 17 ?_ rfl (by kernel_rfl)
        refine E9 Tryz.f11 109 rfl rfl (J6) rfl Tryz.func11 rfl rfl Ad .nil (hd 110 rfl) ?_ (fun _ h => by simp at h)
        rintro _ ⟨⟩; refine Z1 18 (Am (Bt rfl rfl) (hd 111 rfl)) rfl <| Z1 19 (Am (Cm rfl) (hd 6 rfl)) rfl <| Bx (by kernel_rfl) <| An ?_
        refine ⟨_, _, (.cons rfl .nil), .b, ?_⟩
        exact rfl

theorem Yo {l : List Int} {x : Nat} (h : Rw l x) : Spec Tryz.prog 22 [.n false .u64 l] (fun o => o = .ret (.n false .u64 (Cb B32 x))) := by
  have h9 := Adg l (by have := h.l; omega) h.u
  rwa [Adf h.u, h.v, Int.toNat_natCast] at h9
theorem Aal {s : Bool} {x y : Nat} : zs s x = zs s (rn0 x y) * ((Nat.gcd x y : Nat) : Int) := by
  have e := @Uq x y
  unfold zs
  cases s
  · show (x : Int) = (rn0 x y : Int) * _
    exact_mod_cast e.symm
  · show -(x : Int) = -(rn0 x y : Int) * _
    rw [Int.neg_mul]
    have : ((rn0 x y : Nat) : Int) * ((Nat.gcd x y : Nat) : Int) = (x : Int) := by exact_mod_cast e
    omega
theorem Abo {s : Bool} {x y Y : Nat} {z : Int} (hy : y ≠ 0) (h : z * (y : Int) ≤ zs s x * (Y : Int)) : z * ((rd0 x y : Nat) : Int) ≤ zs s (rn0 x y) * (Y : Int) := by
  have g := Dk (x := x) hy
  have e : ((rd0 x y : Nat) : Int) * ((Nat.gcd x y : Nat) : Int) = (y : Int) := by exact_mod_cast @S0 x y
  rw [Aal (y := y), ← e] at h
  refine Int.le_of_mul_le_mul_right (a := ((Nat.gcd x y : Nat) : Int)) ?_ (by omega)
  rw [Int.mul_assoc, Int.mul_assoc, Int.mul_comm (Y : Int), ← Int.mul_assoc (zs s (rn0 x y))]
  exact h
theorem Abp {s : Bool} {x y X : Nat} {w : Int} (hy : y ≠ 0) (h : zs s x * (X : Int) ≤ w * (y : Int)) : zs s (rn0 x y) * (X : Int) ≤ w * ((rd0 x y : Nat) : Int) := by
  have g := Dk (x := x) hy
  have e : ((rd0 x y : Nat) : Int) * ((Nat.gcd x y : Nat) : Int) = (y : Int) := by exact_mod_cast @S0 x y
  rw [Aal (y := y), ← e] at h
  refine Int.le_of_mul_le_mul_right (a := ((Nat.gcd x y : Nat) : Int)) ?_ (by omega)
  rw [Int.mul_assoc, Int.mul_assoc, Int.mul_comm (X : Int), ← Int.mul_assoc (zs s (rn0 x y))]
  exact h
theorem Pd (s1 : Bool) (l1 d1 : List Int) (x1 y1 : Nat) (hx1 : Rw l1 x1) (hy1 : Rw d1 y1) (s2 : Bool) (l2 d2 : List Int) (x2 y2 : Nat) (hx2 : Rw l2 x2) (hy2 : Rw d2 y2) (s3 : Bool) (l3 d3 : List Int) (x3 y3 : Nat) (hx3 : Rw l3 x3) (hy3 : Rw d3 y3) (hbs : Lq [(s1, l1, d1), (s2, l2, d2), (s3, l3, d3)] = true) : SpecT Tryz.prog 5 0 tzCells [(.a [.b s1, .n false .u64 l1, .n false .u64 d1]), (.a [.b s2, .n false .u64 l2, .n false .u64 d2]), (.a [.b s3, .n false .u64 l3, .n false .u64 d3])] (fun o => o = .ret (.b true)) := by
  have hSm : Spec Tryz.prog 18 [.l false 3 [[V.b s1, V.n false .u64 l1, V.n false .u64 d1], [V.b s2, V.n false .u64 l2, V.n false .u64 d2], [V.b s3, V.n false .u64 l3, V.n false .u64 d3]]] (fun o => o = .ret (.b true)) := by have h := Q9 [(s1, l1, d1), (s2, l2, d2), (s3, l3, d3)] (fun r hr => by simp only [List.mem_cons, List.mem_nil_iff, or_false] at hr; rcases hr with rfl | rfl | rfl <;> first | exact ⟨hx1.l, hx1.u, hy1.l, hy1.u⟩ | exact ⟨hx2.l, hx2.u, hy2.l, hy2.u⟩ | exact ⟨hx3.l, hx3.u, hy3.l, hy3.u⟩) (by simp); rwa [hbs] at h
  have hall := List.all_eq_true.1 hbs
  have ho1 := of_decide_eq_true (hall (s1, l1, d1) (by simp))
  have ho2 := of_decide_eq_true (hall (s2, l2, d2) (by simp))
  have ho3 := of_decide_eq_true (hall (s3, l3, d3) (by simp))
  have n1 : y1 ≠ 0 := fun e => ho1.1 (by show vl d1 = 0; rw [hy1.v, e]; rfl)
  have n2 : y2 ≠ 0 := fun e => ho2.1 (by show vl d2 = 0; rw [hy2.v, e]; rfl)
  have n3 : y3 ≠ 0 := fun e => ho3.1 (by show vl d3 = 0; rw [hy3.v, e]; rfl)
  obtain ⟨z1, ez1⟩ : ∃ z1 : Int, z1 = zs s1 x1 := ⟨_, rfl⟩
  have r1 : Qr s1 l1 d1 x1 y1 z1 y1 1048576 := ⟨hx1, hy1, by rw [ez1]; exact Qe.raw n1, by rw [← hx1.v]; exact ho1.2.2, by rw [← hy1.v]; exact ho1.2.1, by rw [ez1, E8, ← hx1.v]; exact ho1.2.2, by rw [← hy1.v]; exact ho1.2.1⟩
  obtain ⟨z2, ez2⟩ : ∃ z2 : Int, z2 = zs s2 x2 := ⟨_, rfl⟩
  have r2 : Qr s2 l2 d2 x2 y2 z2 y2 1048576 := ⟨hx2, hy2, by rw [ez2]; exact Qe.raw n2, by rw [← hx2.v]; exact ho2.2.2, by rw [← hy2.v]; exact ho2.2.1, by rw [ez2, E8, ← hx2.v]; exact ho2.2.2, by rw [← hy2.v]; exact ho2.2.1⟩
  obtain ⟨z3, ez3⟩ : ∃ z3 : Int, z3 = zs s3 x3 := ⟨_, rfl⟩
  have r3 : Qr s3 l3 d3 x3 y3 z3 y3 1048576 := ⟨hx3, hy3, by rw [ez3]; exact Qe.raw n3, by rw [← hx3.v]; exact ho3.2.2, by rw [← hy3.v]; exact ho3.2.1, by rw [ez3, E8, ← hx3.v]; exact ho3.2.2, by rw [← hy3.v]; exact ho3.2.1⟩
  have b1 : Al (x1 : Int) ≤ 1048576 ∧ Al (y1 : Int) ≤ 1048576 := ⟨r1.bx, r1.bd⟩
  have b2 : Al (x2 : Int) ≤ 1048576 ∧ Al (y2 : Int) ≤ 1048576 := ⟨r2.bx, r2.bd⟩
  by_cases hsw : z1 * (y2 : Int) ≤ z2 * (y1 : Int)
  · obtain ⟨P, Q, hv, bP, bQ, hS⟩ := Me s1 l1 d1 x1 y1 hx1 hy1 n1 b1.1 b1.2 s2 l2 d2 x2 y2 hx2 hy2 n2 b2.1 b2.2 (by rw [← ez1, ← ez2]; exact hsw)
    rw [← ez1, ← ez2] at hv
    have rS : Qr (decide (P < 0)) (lm P) (lm (Q : Int)) P.natAbs Q P Q 1048576 := ⟨by have h := Rw.of (x := P.natAbs) (by rw [Et]; omega); rwa [L3] at h, Rw.of (by omega), by have h := Qe.raw (s := decide (P < 0)) (x := P.natAbs) (y := Q) hv.q0; rwa [Kc] at h, by rw [Et]; exact bP, bQ, bP, bQ⟩
    exact Jo s1 l1 d1 s2 l2 d2 s3 l3 d3 s1 l1 d1 s2 l2 d2 _ _ _ _ _ _ _ _ _ _ _ _ _ _ hSm (He r1 r2) (fun h => absurd h (by have := Eo.2 hsw; omega)) (fun _ => ⟨rfl, rfl, rfl, rfl, rfl, rfl⟩) hS (He r1 rS) (He rS r2) (He r1 r3) (He r3 r2) (by have := Eo.2 hv.lo; omega) (by have := Eo.2 hv.hi; omega) (Xb s3 l3 d3 x3 y3 hx3 hy3 n3) (Yo rS.hy) (Yo (Rw.of (Kv hy3.b))) (Aa8 Q (rd0 x3 y3) (by have := Zu (x := Q) (by omega); omega) (by have := Zu (x := rd0 x3 y3) (Kv hy3.b); omega)) fun k1 k2 => Eo.2 (by have h9 := hv.least (zs s3 (rn0 x3 y3)) (rd0 x3 y3) (Nat.pos_iff_ne_zero.1 (G7 n3)) (Abo n3 (by rw [← ez3]; exact Eo.1 (Int.not_lt.1 k1))) (Abp n3 (by rw [← ez3]; exact Eo.1 (Int.not_lt.1 k2))); exact_mod_cast h9)
  · obtain ⟨P, Q, hv, bP, bQ, hS⟩ := Me s2 l2 d2 x2 y2 hx2 hy2 n2 b2.1 b2.2 s1 l1 d1 x1 y1 hx1 hy1 n1 b1.1 b1.2 (by rw [← ez1, ← ez2]; omega)
    rw [← ez2, ← ez1] at hv
    have rS : Qr (decide (P < 0)) (lm P) (lm (Q : Int)) P.natAbs Q P Q 1048576 := ⟨by have h := Rw.of (x := P.natAbs) (by rw [Et]; omega); rwa [L3] at h, Rw.of (by omega), by have h := Qe.raw (s := decide (P < 0)) (x := P.natAbs) (y := Q) hv.q0; rwa [Kc] at h, by rw [Et]; exact bP, bQ, bP, bQ⟩
    exact Jo s1 l1 d1 s2 l2 d2 s3 l3 d3 s2 l2 d2 s1 l1 d1 _ _ _ _ _ _ _ _ _ _ _ _ _ _ hSm (He r1 r2) (fun _ => ⟨rfl, rfl, rfl, rfl, rfl, rfl⟩) (fun h => absurd (Eo.1 (Int.not_lt.1 h)) hsw) hS (He r2 rS) (He rS r1) (He r2 r3) (He r3 r1) (by have := Eo.2 hv.lo; omega) (by have := Eo.2 hv.hi; omega) (Xb s3 l3 d3 x3 y3 hx3 hy3 n3) (Yo rS.hy) (Yo (Rw.of (Kv hy3.b))) (Aa8 Q (rd0 x3 y3) (by have := Zu (x := Q) (by omega); omega) (by have := Zu (x := rd0 x3 y3) (Kv hy3.b); omega)) fun k1 k2 => Eo.2 (by have h9 := hv.least (zs s3 (rn0 x3 y3)) (rd0 x3 y3) (Nat.pos_iff_ne_zero.1 (G7 n3)) (Abo n3 (by rw [← ez3]; exact Eo.1 (Int.not_lt.1 k1))) (Abp n3 (by rw [← ez3]; exact Eo.1 (Int.not_lt.1 k2))); exact_mod_cast h9)
theorem RatioLeast_all (s1 : Bool) (l1 d1 : List Int) (x1 y1 : Nat) (hx1 : Rw l1 x1) (hy1 : Rw d1 y1) (s2 : Bool) (l2 d2 : List Int) (x2 y2 : Nat) (hx2 : Rw l2 x2) (hy2 : Rw d2 y2) (s3 : Bool) (l3 d3 : List Int) (x3 y3 : Nat) (hx3 : Rw l3 x3) (hy3 : Rw d3 y3) : SpecT Tryz.prog 5 0 tzCells [(.a [.b s1, .n false .u64 l1, .n false .u64 d1]), (.a [.b s2, .n false .u64 l2, .n false .u64 d2]), (.a [.b s3, .n false .u64 l3, .n false .u64 d3])] (fun o => o = .ret (.b true)) := by
  cases hbs : Lq [(s1, l1, d1), (s2, l2, d2), (s3, l3, d3)] with
  | false => exact If (Pe s1 l1 d1 x1 y1 hx1 hy1 s2 l2 d2 x2 y2 hx2 hy2 s3 l3 d3 x3 y3 hx3 hy3 hbs)
  | true => exact Pd s1 l1 d1 x1 y1 hx1 hy1 s2 l2 d2 x2 y2 hx2 hy2 s3 l3 d3 x3 y3 hx3 hy3 hbs
end Go.Proofs.YtnadmljoefecfaaGreatDoor.Vc

namespace Go.Proofs.YtnadmljoefecfaaGreatDoor.ratioLeast
open Go Go.ChangeShapes Go.WideShapes Go.ChangeAt Go.RowKit
open Go.ChangeMaps (open_string shut_string)

theorem own : ownKnob Tryz.prog.godebug = none := by kernel_rfl
theorem laidOut : laidOutB Tryz.prog = true := by kernel_rfl
theorem gTab : Tryz.prog.globalNamed "math/bits.deBruijn64tab" = some 0 := by kernel_rfl
theorem gTabType : (Tryz.prog.globals[0]?).map (·.type) = some 133 := by kernel_rfl
theorem cellsT : Tryz.prog.cellsOf 133 = 64 := by kernel_rfl
theorem cellsE : Tryz.prog.cellsOf 5 = 1 := by kernel_rfl
theorem table {W : World} (h : laidMetH Tryz.prog Rows.ratioLeastUptoRow.laid W) : Lib.TabIs Tryz.prog W "math/bits.deBruijn64tab" .u8 Vc.tzTab :=
  Lib.tabIs_of_head (rest := []) gTab gTabType Tryz.underlying133 Tryz.underlying5 cellsE cellsT h
theorem tabR {W : World} (h : laidMetH Tryz.prog Rows.ratioLeastUptoRow.laid W) : Vc.TabR 0 (Vc.ints .u8 Vc.tzTab) W (fun _ => False) :=
  Vc.tabR_of (by decide) fun i hi => (table h).cell gTab i hi
noncomputable def laidWorld (os : Os) : World :=
  { World.holding Tryz.prog os ⟨#[], #[], []⟩ with heap := (World.holding Tryz.prog os ⟨#[], #[], []⟩).heap.modify 0 fun
      | .cells _ t frozen => .cells #[.int .u8 0, .int .u8 1, .int .u8 56, .int .u8 2, .int .u8 57, .int .u8 49, .int .u8 28, .int .u8 3, .int .u8 61, .int .u8 58, .int .u8 42, .int .u8 50, .int .u8 38, .int .u8 29, .int .u8 17, .int .u8 4, .int .u8 62, .int .u8 47, .int .u8 59, .int .u8 36, .int .u8 45, .int .u8 43, .int .u8 51, .int .u8 22, .int .u8 53, .int .u8 39, .int .u8 33, .int .u8 30, .int .u8 24, .int .u8 18, .int .u8 12, .int .u8 5, .int .u8 63, .int .u8 55, .int .u8 48, .int .u8 27, .int .u8 60, .int .u8 41, .int .u8 37, .int .u8 16, .int .u8 46, .int .u8 35, .int .u8 44, .int .u8 21, .int .u8 52, .int .u8 32, .int .u8 23, .int .u8 11, .int .u8 54, .int .u8 26, .int .u8 40, .int .u8 15, .int .u8 34, .int .u8 20, .int .u8 31, .int .u8 10, .int .u8 25, .int .u8 14, .int .u8 19, .int .u8 9, .int .u8 13, .int .u8 8, .int .u8 7, .int .u8 6] t frozen
      | o => o }
theorem laid_met (os : Os) : laidMet Tryz.prog Rows.ratioLeastUptoRow.laid ((laidWorld os).forCall (fun _ _ => 0) ⟨#[], #[.agg #[.bool false, .slice none 0 0, .slice none 0 0], .agg #[.bool false, .slice none 0 0, .slice none 0 0], .agg #[.bool false, .slice none 0 0, .slice none 0 0]], []⟩).memory :=
  laidMet_of_run' 8 (by kernel_rfl) (by kernel_rfl)
theorem reads (os : Os) {H : Type} (enc : TypeId × Value → H) : ∃ places, DataW.whole enc Tryz.prog ((laidWorld os).forCall (fun _ _ => 0) ⟨#[], #[.agg #[.bool false, .slice none 0 0, .slice none 0 0], .agg #[.bool false, .slice none 0 0, .slice none 0 0], .agg #[.bool false, .slice none 0 0, .slice none 0 0]], []⟩).memory Tryz.f5.params.toList Rows.ratioLeastSpec.vars false (#[.agg #[.bool false, .slice none 0 0, .slice none 0 0], .agg #[.bool false, .slice none 0 0, .slice none 0 0], .agg #[.bool false, .slice none 0 0, .slice none 0 0]] : Array Value).toList 8 = some ([.agg [.agg [.lit (.bool false), .nil], .nil], .agg [.agg [.lit (.bool false), .nil], .nil], .agg [.agg [.lit (.bool false), .nil], .nil]], [], places) :=
  ⟨[], by kernel_rfl⟩
set_option maxRecDepth 100000 in
theorem lifted (os : Os) (started : os.Started) (H : Type) (enc : TypeId × Value → H) (F : Stop.Interp) :
    ReturnsInHanded {} Tryz.checked os 5 .any ((Rows.OpenSpec.upto Rows.ratioLeastSpec).preRow enc Tryz.prog Tryz.f5 Rows.ratioLeastUptoRow.domain false Rows.ratioLeastUptoRow.laid) (((Rows.OpenSpec.upto Rows.ratioLeastSpec).at F).post enc Tryz.prog Tryz.f5 false true false false) := by
  obtain ⟨places, hx⟩ := reads os enc
  refine returnsInHanded_of_row (C := Tryz.checked) (s := Rows.OpenSpec.upto Rows.ratioLeastSpec) own started (by kernel_rfl) Tryz.func5
    (witness_row_at (enc := enc) (C := Tryz.checked) false (laidWorld os) #[.agg #[.bool false, .slice none 0 0, .slice none 0 0], .agg #[.bool false, .slice none 0 0, .slice none 0 0], .agg #[.bool false, .slice none 0 0, .slice none 0 0]] rfl (by kernel_rfl) (by kernel_rfl) (by kernel_rfl)
      (OpenSpec.preRow_of_cond 8 hx (by kernel_rfl) (fun k hk => by cases hk; kernel_rfl) (by kernel_rfl) (laid_met os))) ?_
  intro W base args ds gs before hval0 hW _ hcond _ hL _ _
  have hk := hcond _ rfl
  have hval : ∀ (j : Nat) t v, Tryz.f5.params[j]? = some t → args[j]? = some v → Value.okWide Tryz.prog W .any base t v := hval0
  have hW' := hW
  obtain ⟨p, q, hA0, hV, rfl, hfz, hnd⟩ := hW
  have hA : DataW.TrodAll enc Tryz.prog W 0 (fun _ => true) true Tryz.f5.params.toList args.toList ds p := hA0
  rw [Tryz.params5] at hA hval
  obtain ⟨v0, vs0, d0, ds0, p0, q0, hargs, rfl, rfl, h0, r0⟩ := trodAll_cons hA
  obtain ⟨v1, vs1, d1, ds1, p1, q1, rfl, rfl, rfl, h1, r1⟩ := trodAll_cons r0
  obtain ⟨v2, vs2, d2, ds2, p2, q2, rfl, rfl, rfl, h2, r2⟩ := trodAll_cons r1
  obtain ⟨rfl, rfl, rfl⟩ := trodAll_nil r2
  obtain rfl : args = #[v0, v1, v2] := by cases args; simp_all
  obtain ⟨rfl, rfl⟩ := trodVars_none hV
  have hk0 := h0
  obtain ⟨s0, l0, e0, rel0, hb0, ul0, ue0⟩ := Vc.openQ (hval 0 27 v0 rfl rfl) h0
  have hk1 := h1
  obtain ⟨s1, l1, e1, rel1, hb1, ul1, ue1⟩ := Vc.openQ (hval 1 27 v1 rfl rfl) h1
  have hk2 := h2
  obtain ⟨s2, l2, e2, rel2, hb2, ul2, ue2⟩ := Vc.openQ (hval 2 27 v2 rfl rfl) h2
  clear hA0 hval0
  simp only [List.append_nil] at hW' hk
  refine (Vc.specT_calls (tabR hL) (vals := [v0, v1, v2]) (Vc.RatioLeast_all s0 l0 e0 _ _ (Vc.Rw.mk' ul0 (by have := Vc.short3q hk hb0 hb1 hb2; omega)) (Vc.Rw.mk' ue0 (by have := Vc.short3q hk hb0 hb1 hb2; omega)) s1 l1 e1 _ _ (Vc.Rw.mk' ul1 (by have := Vc.short3q hk hb0 hb1 hb2; omega)) (Vc.Rw.mk' ue1 (by have := Vc.short3q hk hb0 hb1 hb2; omega)) s2 l2 e2 _ _ (Vc.Rw.mk' ul2 (by have := Vc.short3q hk hb0 hb1 hb2; omega)) (Vc.Rw.mk' ue2 (by have := Vc.short3q hk hb0 hb1 hb2; omega))) W (⟨_, _, rfl, rel0, ⟨_, _, rfl, rel1, ⟨_, _, rfl, rel2, rfl⟩⟩⟩)).mono fun e W' ⟨he, hb⟩ => ?_; subst he
  have hlt : ∀ x ∈ p0 ++ p1 ++ p2, x.block < W.heap.size := fun x hx => by simpa using hW'.lt x (by simpa using hx)
  exact ⟨_, rfl, Vc.post_of_below (pa := (p0 ++ (p1 ++ (p2 ++ [])))) (pv := []) hW' (fun _ _ _ => (trodAll_cons_mk (shut_bool Tryz.underlying4 _) trodAll_mk0)) (fun sp hsp => (trodAll_cons_mk (Go.WideElems.Trod_stays laidOut (by kernel_rfl) (of_decide_eq_true (by kernel_rfl)) hk0 (fun x hx => hb.same (hlt x (by simp [hx]))) (fun x hx => hsp x (by simp [hx]))) (trodAll_cons_mk (Go.WideElems.Trod_stays laidOut (by kernel_rfl) (of_decide_eq_true (by kernel_rfl)) hk1 (fun x hx => hb.same (hlt x (by simp [hx]))) (fun x hx => hsp x (by simp [hx]))) (trodAll_cons_mk (Go.WideElems.Trod_stays laidOut (by kernel_rfl) (of_decide_eq_true (by kernel_rfl)) hk2 (fun x hx => hb.same (hlt x (by simp [hx]))) (fun x hx => hsp x (by simp [hx]))) trodAll_mk0)))) (fun _ _ => rfl) (by simp) hb⟩

theorem said : Rows.ratioLeastUptoRow.holds Tryz.pinned (Rows.OpenSpec.upto Rows.ratioLeastSpec) :=
  OpenClaim.holds_of_cond 5 Tryz.f5 rfl rfl rfl rfl rfl rfl rfl ⟨rfl, rfl, rfl, rfl, rfl⟩ rfl rfl rfl rfl rfl (by kernel_rfl) Tryz.func5 (by kernel_rfl)
    (of_decide_eq_true (by kernel_rfl)) (by unfold Func.isWrapper; first | (rw [if_pos (by decide +kernel)]; kernel_rfl) | (rw [if_neg (by decide +kernel)]; exact ⟨rfl, rfl⟩))
    (fun os started H enc _ F => by rw [OpenClaim.pre_eq_preRow]; exact lifted os started H enc F)
theorem plain (f : FuncId) (fn : Func) (hf : Tryz.pinned.checked.prog.funcNamed Rows.ratioLeastUptoRow.func = some f) (hfn : Tryz.pinned.checked.prog.funcs[f]? = some fn) :
    true = Tryz.pinned.checked.prog.looks [] ∧ ∀ (j : Nat) t, fn.params[j]? = some t → Tryz.pinned.checked.prog.wantsStandIn t = false := by
  obtain rfl : f = 5 := Option.some.inj ((show Tryz.prog.funcNamed Rows.ratioLeastUptoRow.func = some 5 by kernel_rfl).symm.trans hf) |>.symm
  obtain rfl : fn = Tryz.f5 := (Option.some.inj (Tryz.func5.symm.trans hfn)).symm
  refine ⟨by kernel_rfl, fun j t ht => ?_⟩
  rw [Tryz.params5] at ht
  have hm := Array.mem_of_getElem? ht
  simp only [List.mem_toArray, List.mem_cons, List.mem_nil_iff, or_false] at hm
  rcases hm with h9 | h9 | h9
  · subst h9
    exact (show Tryz.prog.wantsStandIn 27 = false by kernel_rfl)
  · subst h9
    exact (show Tryz.prog.wantsStandIn 27 = false by kernel_rfl)
  · subst h9
    exact (show Tryz.prog.wantsStandIn 27 = false by kernel_rfl)
theorem proved : Rows.RatioLeastUptoCardSaid :=
  Claim7.holds_tied_plain_at .later [] _ _ _ _ said (fun _ h => by cases h) (by kernel_rfl) (fun _ h => by cases h) ratioLeastUpto_row_tie rfl ⟨rfl, rfl⟩ (by kernel_rfl) rfl plain (by kernel_rfl)
end Go.Proofs.YtnadmljoefecfaaGreatDoor.ratioLeast
