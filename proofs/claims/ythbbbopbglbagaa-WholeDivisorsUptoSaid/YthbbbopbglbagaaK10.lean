/- surdlaw06.WholeDivisors answers true for every two numbers of bulk at most 1048576, and leaves its input as it was: the greatest common divisor with its factors, inverses Texts joined: Lh, Li, RDivisors. -/
import Derived.Test.YthbbbopbglbagaaK9
import Derived.Test.YthbbbopbglbagaaRows
import Derived.WalkKit
import Derived.ProofKit
import Derived.OpenShut
import Derived.Carry
import Derived.JoinedCond
set_option linter.unusedVariables false
set_option linter.unusedSimpArgs false
set_option maxHeartbeats 4000000
namespace Go.Proofs.Ythbbbopbglbagaa.Vc
open Go Go.RowKit
set_option maxRecDepth 100000 in
theorem Su (v g : Int) (hv : (dg v).length ≤ 4194304) (hgg : g = ((Nat.gcd v.natAbs (0 : Int).natAbs : Nat) : Int)) : Spec Try.prog 7 [.a [.b (decide (v < 0)), .n false .u64 (dg v)], .a [.b (decide (0 < 0)), .n false .u64 (dg 0)]] (fun o => o = .ret (.t [.a [.b (decide (g < 0)), .n false .u64 (dg g)], .a [.b (decide ((Cb v) < 0)), .n false .u64 (dg (Cb v))], .a [.b (decide (0 < 0)), .n false .u64 (dg 0)]])) := by
  refine Az [(0, .a [.b (decide (v < 0)), .n false .u64 (dg v)]), (1, .a [.b (decide (0 < 0)), .n false .u64 (dg 0)])] rfl Try.func7 rfl (zlb rfl) fun Γ hN hds hL hR => ?_
  have hd := B5 40 hN
  have hd0 := Adf
  have hGc : Spec Try.prog 27 [.a [.b (decide (v < 0)), .n false .u64 (dg v)], .a [.b (decide (0 < 0)), .n false .u64 (dg 0)]] (fun o => o = .ret (.a [.b (decide (g < 0)), .n false .u64 (dg g)])) := by rw [hgg]; exact Ab3 v 0 (by omega) (by rw [show dg 0 = [] from Dg]; decide)
  refine zsr <| Ay (Br (id := 0) (n := 2) rfl rfl rfl (by decide) rfl) (hd 2 rfl) <| Ay (Br (id := 1) (n := 2) rfl rfl rfl (by decide) rfl) (hd 3 rfl) <| Ay (An (id := 2) Bx (by decide) rfl (by decide) rfl) (hd 4 rfl) <| Ay (An (id := 3) Bx (by decide) rfl (by decide) rfl) (hd 5 rfl) <| Ay (An (id := 4) Bx (by decide) rfl (by decide) rfl) (hd 6 rfl) <| Ab <| zsr <| Ac (Ah Bt rfl rfl rfl rfl) (hd 11 rfl) <| Ac (Ah Bt rfl rfl rfl rfl) (hd 12 rfl) ?_
  refine Aj Try.f27 (hGc) rfl Try.func27 rfl rfl (Aa rfl (Aa rfl Ad)) (.cons (.a1 .b (.a1 .n .a0)) (.cons (.a1 .b (.a1 .n .a0)) .nil)) (hd 13 rfl) ?_ (fun ch hp => by simp at hp)
  rintro _ ⟨⟩; refine Ay (An (id := 5) Bx (by decide) rfl (by decide) rfl) (hd 7 rfl) <| A1 (Ae rfl rfl rfl Ca rfl rfl (zlb rfl)) <| Ab <| Af <| zsr <| Ac (Ah Bt rfl rfl rfl rfl) (hd 14 rfl) ?_
  refine Aj Try.f11 (H3 0) rfl Try.func11 rfl rfl (Aa rfl Ad) (.cons (.a1 .b (.a1 .n .a0)) .nil) (hd 15 rfl) ?_ (fun ch hp => by simp at hp)
  rintro _ ⟨⟩; refine Ac (Ft (Dy rfl rfl) (Ex.2 rfl)) (hd 16 rfl) <| Ab <| Dm rfl <| Af <| Cs (H' := [(oqz 0 v), (oqz 0 0), (oqn 0), (oqn 0), (oqn 0), (oqz 0 g)]) rfl <| Be (n := 8) _ rfl B2 ?_; refine Db (fun _ _ _ _ h => h) fun ops1 Q1 F0 hpan ho hq hF => ?_
  have S3_11111111 : JA Try.prog ops1 0 #[true, true, true, true, true, true, true, true] Γ ([(17, (qz g)), (18, (qz v)), (19, .i .i64 (Cb v)), (20, (qz (Cb v))), (21, .a [.b false, .c (.slice none 0 0)])] ++ F0) [(oqz 0 v), (oqz 0 0), (oqz 0 g), (oqz 0 (Cb v)), (oqn 0), (oqz 0 g)] Q1 := by
    subst ho; subst hq; subst hF; refine Bi (by kernel_rfl) <| As ?_
    refine ⟨_, _, (.cons (ResV.cell Bt rfl rfl rfl rfl) (.cons (ResV.cell Bt rfl rfl rfl rfl) (.cons (ResV.cell Bt rfl rfl rfl rfl) .nil))), (.t1 (.a1 .b (.a1 .n .a0)) (.t1 (.a1 .b (.a1 .n .a0)) (.t1 (.a1 .b (.a1 (.nil (fr := false) (k := .u64)) .a0)) .t0))), ?_⟩
    rw [show dg 0 = [] from Dg]
    rfl
  have S3_11111110 : JA Try.prog ops1 1 #[true, true, true, true, true, true, true, false] Γ ([(17, (qz g)), (18, (qz v)), (19, .i .i64 (Cb v)), (20, (qz (Cb v))), (21, .a [.b false, .c (.slice none 0 0)])] ++ F0) [(oqz 0 v), (oqz 0 0), (oqz 0 g), (oqz 0 (Cb v)), (oqn 0), (oqz 0 g)] Q1 := by
    subst ho; subst hF
    refine Bb 7 ?_ rfl (by kernel_rfl)
    refine A7 (Ae rfl rfl rfl Ca rfl rfl (zlb rfl)) rfl ?_
    refine Ai S3_11111111 5 (.cons rfl (.cons rfl (.cons rfl (.cons rfl (.cons rfl .nil)))))
  have S3_11111100 : JA Try.prog ops1 2 #[true, true, true, true, true, true, false, false] Γ ([(17, (qz g)), (18, (qz v)), (19, .i .i64 (Cb v)), (20, (qz (Cb v))), (21, .a [.b false, .c (.slice none 0 0)])] ++ F0) [(oqz 0 v), (oqz 0 0), (oqz 0 g), (oqn 0), (oqn 0), (oqz 0 g)] Q1 := by
    subst ho; subst hF
    refine Bb 6 ?_ rfl (by kernel_rfl)
    refine A7 (Ae rfl rfl rfl Ca rfl rfl (zlb rfl)) rfl ?_
    refine Ai S3_11111110 5 (.cons rfl (.cons rfl (.cons rfl (.cons rfl (.cons rfl .nil)))))
  have S3_11111000 : JA Try.prog ops1 3 #[true, true, true, true, true, false, false, false] Γ ([(17, (qz g)), (18, (qz v)), (19, .i .i64 (Cb v)), (20, (qz (Cb v))), (21, .a [.b false, .c (.slice none 0 0)])] ++ F0) [(oqz 0 v), (oqz 0 0), (oqn 0), (oqn 0), (oqn 0), (oqz 0 g)] Q1 := by
    subst ho; subst hF
    refine Bb 5 ?_ rfl (by kernel_rfl)
    refine A7 (Ae rfl rfl rfl Ca rfl rfl (zlb rfl)) rfl ?_
    refine Ai S3_11111100 5 (.cons rfl (.cons rfl (.cons rfl (.cons rfl (.cons rfl .nil)))))
  have S3_11110110 : JA Try.prog ops1 2 #[true, true, true, true, false, true, true, false] Γ ([(17, (qz g)), (18, (qz v)), (19, .i .i64 (Cb v)), (20, (qz (Cb v)))] ++ F0) [(oqz 0 v), (oqz 0 0), (oqz 0 g), (oqz 0 (Cb v)), (oqn 0), (oqz 0 g)] Q1 := by
    subst ho; subst hF; refine Bz 4 [7] (Ao (B3 (is := []) (xs := []) (pls := []) Bx Kg rfl Ad rfl trivial (Cj rfl) rfl) (hd 21 rfl)) rfl (by kernel_rfl) (by kernel_rfl) (by kernel_rfl) (by kernel_rfl) hpan ?_
    refine Ai S3_11111110 5 (.cons rfl (.cons rfl (.cons rfl (.cons rfl (.cons rfl .nil)))))
  have S3_11110100 : JA Try.prog ops1 3 #[true, true, true, true, false, true, false, false] Γ ([(17, (qz g)), (18, (qz v)), (19, .i .i64 (Cb v)), (20, (qz (Cb v)))] ++ F0) [(oqz 0 v), (oqz 0 0), (oqz 0 g), (oqn 0), (oqn 0), (oqz 0 g)] Q1 := by
    subst ho; subst hF
    refine Ct 4 6 ?_ ?_ rfl rfl (by kernel_rfl)
    · refine C4 (B3 (is := []) (xs := []) (pls := []) Bx Kg rfl Ad rfl trivial (Cj rfl) rfl) (hd 21 rfl) ?_
      refine Ai S3_11111100 5 (.cons rfl (.cons rfl (.cons rfl (.cons rfl (.cons rfl .nil)))))
    · refine A7 (Ae rfl rfl rfl Ca rfl rfl (zlb rfl)) rfl ?_
      refine Ai S3_11110110 4 (.cons rfl (.cons rfl (.cons rfl (.cons rfl .nil))))
  have S3_11110000 : JA Try.prog ops1 4 #[true, true, true, true, false, false, false, false] Γ ([(17, (qz g)), (18, (qz v)), (19, .i .i64 (Cb v)), (20, (qz (Cb v)))] ++ F0) [(oqz 0 v), (oqz 0 0), (oqn 0), (oqn 0), (oqn 0), (oqz 0 g)] Q1 := by
    subst ho; subst hF
    refine Ct 4 5 ?_ ?_ rfl rfl (by kernel_rfl)
    · refine C4 (B3 (is := []) (xs := []) (pls := []) Bx Kg rfl Ad rfl trivial (Cj rfl) rfl) (hd 21 rfl) ?_
      refine Ai S3_11111000 5 (.cons rfl (.cons rfl (.cons rfl (.cons rfl (.cons rfl .nil)))))
    · refine A7 (Ae rfl rfl rfl Ca rfl rfl (zlb rfl)) rfl ?_
      refine Ai S3_11110100 4 (.cons rfl (.cons rfl (.cons rfl (.cons rfl .nil))))
  have S3_11101000 : JA Try.prog ops1 4 #[true, true, true, false, true, false, false, false] Γ ([(17, (qz g)), (18, (qz v)), (19, .i .i64 (Cb v)), (21, .a [.b false, .c (.slice none 0 0)])] ++ F0) [(oqz 0 v), (oqz 0 0), (oqn 0), (oqn 0), (oqn 0), (oqz 0 g)] Q1 := by
    subst ho; subst hF
    refine Bb 3 ?_ rfl (by kernel_rfl)
    refine A4 Try.f28 (Nq (Cb v) (by have := Ib v; unfold inI; omega)) rfl Try.func28 rfl rfl (Aa rfl Ad) (.cons .i .nil) (hd 20 rfl) ?_ (fun ch hp => by simp at hp)
    rintro y hy; injection hy with hy; subst hy
    refine Ai S3_11111000 5 (.cons rfl (.cons rfl (.cons rfl (.cons rfl (.cons rfl .nil)))))
  have S3_11100000 : JA Try.prog ops1 5 #[true, true, true, false, false, false, false, false] Γ ([(17, (qz g)), (18, (qz v)), (19, .i .i64 (Cb v))] ++ F0) [(oqz 0 v), (oqz 0 0), (oqn 0), (oqn 0), (oqn 0), (oqz 0 g)] Q1 := by
    subst ho; subst hF
    refine Ct 3 4 ?_ ?_ rfl rfl (by kernel_rfl)
    · refine A4 Try.f28 (Nq (Cb v) (by have := Ib v; unfold inI; omega)) rfl Try.func28 rfl rfl (Aa rfl Ad) (.cons .i .nil) (hd 20 rfl) ?_ (fun ch hp => by simp at hp)
      rintro y hy; injection hy with hy; subst hy
      refine Ai S3_11110000 4 (.cons rfl (.cons rfl (.cons rfl (.cons rfl .nil))))
    · refine C4 (B3 (is := []) (xs := []) (pls := []) Bx Kg rfl Ad rfl trivial (Cj rfl) rfl) (hd 21 rfl) ?_
      refine Ai S3_11101000 4 (.cons rfl (.cons rfl (.cons rfl (.cons rfl .nil))))
  have S3_11001000 : JA Try.prog ops1 5 #[true, true, false, false, true, false, false, false] Γ ([(17, (qz g)), (18, (qz v)), (21, .a [.b false, .c (.slice none 0 0)])] ++ F0) [(oqz 0 v), (oqz 0 0), (oqn 0), (oqn 0), (oqn 0), (oqz 0 g)] Q1 := by
    subst ho; subst hF
    refine Bb 2 ?_ rfl (by kernel_rfl)
    refine A4 Try.f11 (H3 v) rfl Try.func11 rfl rfl (Aa rfl Ad) (.cons (.a1 .b (.a1 .n .a0)) .nil) (hd 19 rfl) ?_ (fun ch hp => by simp at hp)
    rintro y hy; injection hy with hy; subst hy
    refine Ai S3_11101000 4 (.cons rfl (.cons rfl (.cons rfl (.cons rfl .nil))))
  have S3_11000000 : JA Try.prog ops1 6 #[true, true, false, false, false, false, false, false] Γ ([(17, (qz g)), (18, (qz v))] ++ F0) [(oqz 0 v), (oqz 0 0), (oqn 0), (oqn 0), (oqn 0), (oqz 0 g)] Q1 := by
    subst ho; subst hF
    refine Ct 2 4 ?_ ?_ rfl rfl (by kernel_rfl)
    · refine A4 Try.f11 (H3 v) rfl Try.func11 rfl rfl (Aa rfl Ad) (.cons (.a1 .b (.a1 .n .a0)) .nil) (hd 19 rfl) ?_ (fun ch hp => by simp at hp)
      rintro y hy; injection hy with hy; subst hy
      refine Ai S3_11100000 3 (.cons rfl (.cons rfl (.cons rfl .nil)))
    · refine C4 (B3 (is := []) (xs := []) (pls := []) Bx Kg rfl Ad rfl trivial (Cj rfl) rfl) (hd 21 rfl) ?_
      refine Ai S3_11001000 3 (.cons rfl (.cons rfl (.cons rfl .nil)))
  have S3_10000000 : JA Try.prog ops1 7 #[true, false, false, false, false, false, false, false] Γ ([(17, (qz g))] ++ F0) [(oqz 0 v), (oqz 0 0), (oqn 0), (oqn 0), (oqn 0), (oqz 0 g)] Q1 := by
    subst ho; subst hF; refine Bz 1 [2, 3, 5, 6, 7] (Ao (Ah Bt rfl rfl rfl rfl) (hd 18 rfl)) rfl (by kernel_rfl) (by kernel_rfl) (by kernel_rfl) (by kernel_rfl) hpan ?_
    refine Ai S3_11000000 2 (.cons rfl (.cons rfl .nil))
  have S3_00000000 : JA Try.prog ops1 8 #[false, false, false, false, false, false, false, false] Γ ([] ++ F0) [(oqz 0 v), (oqz 0 0), (oqn 0), (oqn 0), (oqn 0), (oqz 0 g)] Q1 := by
    subst ho; subst hF; refine Bz 0 [5, 6, 7] (Ao (Ah Bt rfl rfl rfl rfl) (hd 17 rfl)) rfl (by kernel_rfl) (by kernel_rfl) (by kernel_rfl) (by kernel_rfl) hpan ?_
    refine Ai S3_10000000 1 (.cons rfl .nil)
  subst ho; subst hF
  exact D2 (m := []) (by decide) rfl (Ba 0 rfl rfl .nil) S3_00000000

set_option maxRecDepth 100000 in
theorem Ss (v w g x : Int) (hv : (dg v).length ≤ 4194304) (hw : (dg w).length ≤ 4194304) (h0 : w ≠ 0) (hE : CoE v w g x) (hgg : g = ((Nat.gcd v.natAbs w.natAbs : Nat) : Int)) : Spec Try.prog 7 [.a [.b (decide (v < 0)), .n false .u64 (dg v)], .a [.b (decide (w < 0)), .n false .u64 (dg w)]] (fun o => o = .ret (.t [.a [.b (decide (g < 0)), .n false .u64 (dg g)], .a [.b (decide ((x % qn w g) < 0)), .n false .u64 (dg (x % qn w g))], .a [.b (decide ((wq 0 (g - v * (x % qn w g)) w) < 0)), .n false .u64 (dg (wq 0 (g - v * (x % qn w g)) w))]])) := by
  refine Az [(0, .a [.b (decide (v < 0)), .n false .u64 (dg v)]), (1, .a [.b (decide (w < 0)), .n false .u64 (dg w)])] rfl Try.func7 rfl (zlb rfl) fun Γ hN hds hL hR => ?_
  have hd := B5 40 hN
  have hd0 := Adf
  have hGc : Spec Try.prog 27 [.a [.b (decide (v < 0)), .n false .u64 (dg v)], .a [.b (decide (w < 0)), .n false .u64 (dg w)]] (fun o => o = .ret (.a [.b (decide (g < 0)), .n false .u64 (dg g)])) := by rw [hgg]; exact Ab3 v w (by omega) (by omega)
  have hg0 := hE.ne h0
  have hXb := G1 (v := x) (Fc hE h0).1
  obtain ⟨hb1, hb2, hb3⟩ := Fc hE h0
  have hdX : (dg (x % qn w g)).length ≤ 4194304 := Nat.le_trans (E8 (w := w) (by omega)) hw
  have hdg : (dg g).length ≤ 4194304 := Nat.le_trans (E8 (hE.le h0)) hw
  have hdP := Fd v (x % qn w g)
  have hdD := Lg g (v * (x % qn w g))
  have hIv : Spec Try.prog 12 [.a [.b (decide (v < 0)), .n false .u64 (dg v)], .a [.b (decide (((w.natAbs : Nat) : Int) < 0)), .n false .u64 (dg ((w.natAbs : Nat) : Int))], .a [.b (decide (g < 0)), .n false .u64 (dg g)]] (fun o => o = .ret (.a [.b (decide ((x % qn w g) < 0)), .n false .u64 (dg (x % qn w g))])) := K5 v w g x hv hw h0 hE
  have hFl : Spec Try.prog 29 [.a [.b (decide ((g - v * (x % qn w g)) < 0)), .n false .u64 (dg (g - v * (x % qn w g)))], .a [.b (decide (w < 0)), .n false .u64 (dg w)]] (fun o => o = .ret (.t [.a [.b (decide ((wq 0 (g - v * (x % qn w g)) w) < 0)), .n false .u64 (dg (wq 0 (g - v * (x % qn w g)) w))], .a [.b (decide (((g - v * (x % qn w g)) - (wq 0 (g - v * (x % qn w g)) w) * w) < 0)), .n false .u64 (dg ((g - v * (x % qn w g)) - (wq 0 (g - v * (x % qn w g)) w) * w))]])) := by have h := If (g - v * (x % qn w g)) w (by omega) (by omega) h0; rwa [Aeq hE h0] at h
  obtain ⟨R9, eR9⟩ : ∃ R9 : Int, R9 = ((g - v * (x % qn w g)) - (wq 0 (g - v * (x % qn w g)) w) * w) := ⟨_, rfl⟩
  rw [← eR9] at hFl
  obtain ⟨Y9, eY9⟩ : ∃ Y9 : Int, Y9 = (wq 0 (g - v * (x % qn w g)) w) := ⟨_, rfl⟩
  rw [← eY9] at hFl
  obtain ⟨D9, eD9⟩ : ∃ D9 : Int, D9 = (g - v * (x % qn w g)) := ⟨_, rfl⟩
  rw [← eD9] at hFl hdD eY9
  obtain ⟨P9, eP9⟩ : ∃ P9 : Int, P9 = (v * (x % qn w g)) := ⟨_, rfl⟩
  rw [← eP9] at hdP hdD eD9
  obtain ⟨X9, eX9⟩ : ∃ X9 : Int, X9 = (x % qn w g) := ⟨_, rfl⟩
  rw [← eX9] at hIv hdX hdP hXb eP9
  have hMz : Spec Try.prog 31 [.a [.b (decide (v < 0)), .n false .u64 (dg v)], .a [.b (decide (X9 < 0)), .n false .u64 (dg X9)]] (fun o => o = .ret (.a [.b (decide (P9 < 0)), .n false .u64 (dg P9)])) := by have h := Lm v X9 (by omega) (by omega); rwa [← eP9] at h
  have hSz : Spec Try.prog 30 [.a [.b (decide (g < 0)), .n false .u64 (dg g)], .a [.b (decide (P9 < 0)), .n false .u64 (dg P9)]] (fun o => o = .ret (.a [.b (decide (D9 < 0)), .n false .u64 (dg D9)])) := by have h := Kr g P9 (by omega) (by omega); rwa [← eD9] at h
  refine zsr <| Ay (Br (id := 0) (n := 2) rfl rfl rfl (by decide) rfl) (hd 2 rfl) <| Ay (Br (id := 1) (n := 2) rfl rfl rfl (by decide) rfl) (hd 3 rfl) <| Ay (An (id := 2) Bx (by decide) rfl (by decide) rfl) (hd 4 rfl) <| Ay (An (id := 3) Bx (by decide) rfl (by decide) rfl) (hd 5 rfl) <| Ay (An (id := 4) Bx (by decide) rfl (by decide) rfl) (hd 6 rfl) <| Ab <| zsr <| Ac (Ah Bt rfl rfl rfl rfl) (hd 11 rfl) <| Ac (Ah Bt rfl rfl rfl rfl) (hd 12 rfl) ?_
  refine Aj Try.f27 (hGc) rfl Try.func27 rfl rfl (Aa rfl (Aa rfl Ad)) (.cons (.a1 .b (.a1 .n .a0)) (.cons (.a1 .b (.a1 .n .a0)) .nil)) (hd 13 rfl) ?_ (fun ch hp => by simp at hp)
  rintro _ ⟨⟩; refine Ay (An (id := 5) Bx (by decide) rfl (by decide) rfl) (hd 7 rfl) <| A1 (Ae rfl rfl rfl Ca rfl rfl (zlb rfl)) <| Ab <| Af <| zsr <| Ac (Ah Bt rfl rfl rfl rfl) (hd 14 rfl) ?_
  refine Aj Try.f11 (H3 w) rfl Try.func11 rfl rfl (Aa rfl Ad) (.cons (.a1 .b (.a1 .n .a0)) .nil) (hd 15 rfl) ?_ (fun ch hp => by simp at hp)
  rintro _ ⟨⟩; refine Ac (Cd (Dy rfl rfl) (fun h => h0 (Ex.1 h))) (hd 16 rfl) <| Ab <| Bl rfl <| Am <| Af <| Cs (H' := [(oqz 0 v), (oqz 0 w), (oqn 0), (oqn 0), (oqn 0), (oqz 0 g)]) rfl <| G0 1 _ <| Be (n := 7) _ rfl B2 ?_; refine Db (fun _ _ _ _ h => h) fun ops1 Q1 F0 hpan ho hq hF => ?_
  have S4_1111111 : JA Try.prog ops1 0 #[true, true, true, true, true, true, true] Γ ([(8, .p 6 1 0), (22, (qz v)), (23, (qz w)), (24, (qz ((w.natAbs : Nat) : Int))), (25, (qz g)), (26, (qz X9))] ++ F0) [(oqz 0 v), (oqz 0 w), (oqn 0), (oqn 0), (oqn 0), (oqz 0 g), (oqz 1 X9)] Q1 := by
    subst ho; subst hq; subst hF; refine Bi (by kernel_rfl) <| Af <| G0 2 _ <| Be (n := 14) _ rfl B2 ?_; refine Db (fun _ _ _ _ h => h) fun ops1 Q1 F0 hpan ho hq hF => ?_
    have S5_11111111111111 : JA Try.prog ops1 0 #[true, true, true, true, true, true, true, true, true, true, true, true, true, true] Γ ([(9, .p 7 1 0), (10, .p 8 1 0), (27, .t [(qz Y9), (qz R9)]), (28, (qz g)), (29, (qz v)), (30, (qz X9)), (31, (qz P9)), (32, (qz D9)), (33, (qz w)), (34, .t [(qz Y9), (qz R9)]), (35, (qz Y9)), (36, (qz R9))] ++ F0) [(oqz 0 v), (oqz 0 w), (oqn 0), (oqn 0), (oqn 0), (oqz 0 g), (oqz 1 X9), (oqz 1 Y9), (oqz 1 R9)] Q1 := by
      subst ho; subst hq; subst hF; refine Bi (by kernel_rfl) <| Af <| Be (n := 6) _ rfl B2 ?_; refine Db (fun _ _ _ _ h => h) fun ops1 Q1 F0 hpan ho hq hF => ?_
      have S6_111111 : JA Try.prog ops1 0 #[true, true, true, true, true, true] Γ ([(37, (qz g)), (38, (qz X9)), (39, (qz Y9))] ++ F0) [(oqz 0 v), (oqz 0 w), (oqz 0 g), (oqz 0 X9), (oqz 0 Y9), (oqz 0 g), (oqz 1 X9), (oqz 1 Y9), (oqz 1 R9)] Q1 := by
        subst ho; subst hq; subst hF; refine Bi (by kernel_rfl) <| As ?_
        refine ⟨_, _, (.cons (ResV.cell Bt rfl rfl rfl rfl) (.cons (ResV.cell Bt rfl rfl rfl rfl) (.cons (ResV.cell Bt rfl rfl rfl rfl) .nil))), (.t1 (.a1 .b (.a1 .n .a0)) (.t1 (.a1 .b (.a1 .n .a0)) (.t1 (.a1 .b (.a1 .n .a0)) .t0))), ?_⟩
        rw [← eX9, ← eP9, ← eD9, ← eY9]
      have S6_111110 : JA Try.prog ops1 1 #[true, true, true, true, true, false] Γ ([(37, (qz g)), (38, (qz X9)), (39, (qz Y9))] ++ F0) [(oqz 0 v), (oqz 0 w), (oqz 0 g), (oqz 0 X9), (oqn 0), (oqz 0 g), (oqz 1 X9), (oqz 1 Y9), (oqz 1 R9)] Q1 := by
        subst ho; subst hF
        refine Bb 5 ?_ rfl (by kernel_rfl)
        refine A7 (Ae rfl rfl rfl Ca rfl rfl (zlb rfl)) rfl ?_
        refine Ai S6_111111 3 (.cons rfl (.cons rfl (.cons rfl .nil)))
      have S6_111100 : JA Try.prog ops1 2 #[true, true, true, true, false, false] Γ ([(37, (qz g)), (38, (qz X9)), (39, (qz Y9))] ++ F0) [(oqz 0 v), (oqz 0 w), (oqz 0 g), (oqn 0), (oqn 0), (oqz 0 g), (oqz 1 X9), (oqz 1 Y9), (oqz 1 R9)] Q1 := by
        subst ho; subst hF
        refine Bb 4 ?_ rfl (by kernel_rfl)
        refine A7 (Ae rfl rfl rfl Ca rfl rfl (zlb rfl)) rfl ?_
        refine Ai S6_111110 3 (.cons rfl (.cons rfl (.cons rfl .nil)))
      have S6_111000 : JA Try.prog ops1 3 #[true, true, true, false, false, false] Γ ([(37, (qz g)), (38, (qz X9)), (39, (qz Y9))] ++ F0) [(oqz 0 v), (oqz 0 w), (oqn 0), (oqn 0), (oqn 0), (oqz 0 g), (oqz 1 X9), (oqz 1 Y9), (oqz 1 R9)] Q1 := by
        subst ho; subst hF
        refine Bb 3 ?_ rfl (by kernel_rfl)
        refine A7 (Ae rfl rfl rfl Ca rfl rfl (zlb rfl)) rfl ?_
        refine Ai S6_111100 3 (.cons rfl (.cons rfl (.cons rfl .nil)))
      have S6_110110 : JA Try.prog ops1 2 #[true, true, false, true, true, false] Γ ([(37, (qz g)), (38, (qz X9))] ++ F0) [(oqz 0 v), (oqz 0 w), (oqz 0 g), (oqz 0 X9), (oqn 0), (oqz 0 g), (oqz 1 X9), (oqz 1 Y9), (oqz 1 R9)] Q1 := by
        subst ho; subst hF; refine Bz 2 [5] (Ao (Ah Bt rfl rfl rfl rfl) (hd 39 rfl)) rfl (by kernel_rfl) (by kernel_rfl) (by kernel_rfl) (by kernel_rfl) hpan ?_
        refine Ai S6_111110 3 (.cons rfl (.cons rfl (.cons rfl .nil)))
      have S6_110100 : JA Try.prog ops1 3 #[true, true, false, true, false, false] Γ ([(37, (qz g)), (38, (qz X9))] ++ F0) [(oqz 0 v), (oqz 0 w), (oqz 0 g), (oqn 0), (oqn 0), (oqz 0 g), (oqz 1 X9), (oqz 1 Y9), (oqz 1 R9)] Q1 := by
        subst ho; subst hF
        refine Ct 2 4 ?_ ?_ rfl rfl (by kernel_rfl)
        · refine C4 (Ah Bt rfl rfl rfl rfl) (hd 39 rfl) ?_
          refine Ai S6_111100 3 (.cons rfl (.cons rfl (.cons rfl .nil)))
        · refine A7 (Ae rfl rfl rfl Ca rfl rfl (zlb rfl)) rfl ?_
          refine Ai S6_110110 2 (.cons rfl (.cons rfl .nil))
      have S6_110000 : JA Try.prog ops1 4 #[true, true, false, false, false, false] Γ ([(37, (qz g)), (38, (qz X9))] ++ F0) [(oqz 0 v), (oqz 0 w), (oqn 0), (oqn 0), (oqn 0), (oqz 0 g), (oqz 1 X9), (oqz 1 Y9), (oqz 1 R9)] Q1 := by
        subst ho; subst hF
        refine Ct 2 3 ?_ ?_ rfl rfl (by kernel_rfl)
        · refine C4 (Ah Bt rfl rfl rfl rfl) (hd 39 rfl) ?_
          refine Ai S6_111000 3 (.cons rfl (.cons rfl (.cons rfl .nil)))
        · refine A7 (Ae rfl rfl rfl Ca rfl rfl (zlb rfl)) rfl ?_
          refine Ai S6_110100 2 (.cons rfl (.cons rfl .nil))
      have S6_101100 : JA Try.prog ops1 3 #[true, false, true, true, false, false] Γ ([(37, (qz g)), (39, (qz Y9))] ++ F0) [(oqz 0 v), (oqz 0 w), (oqz 0 g), (oqn 0), (oqn 0), (oqz 0 g), (oqz 1 X9), (oqz 1 Y9), (oqz 1 R9)] Q1 := by
        subst ho; subst hF; refine Bz 1 [4, 5] (Ao (Ah Bt rfl rfl rfl rfl) (hd 38 rfl)) rfl (by kernel_rfl) (by kernel_rfl) (by kernel_rfl) (by kernel_rfl) hpan ?_
        refine Ai S6_111100 3 (.cons rfl (.cons rfl (.cons rfl .nil)))
      have S6_101000 : JA Try.prog ops1 4 #[true, false, true, false, false, false] Γ ([(37, (qz g)), (39, (qz Y9))] ++ F0) [(oqz 0 v), (oqz 0 w), (oqn 0), (oqn 0), (oqn 0), (oqz 0 g), (oqz 1 X9), (oqz 1 Y9), (oqz 1 R9)] Q1 := by
        subst ho; subst hF
        refine Ct 1 3 ?_ ?_ rfl rfl (by kernel_rfl)
        · refine C4 (Ah Bt rfl rfl rfl rfl) (hd 38 rfl) ?_
          refine Ai S6_111000 3 (.cons rfl (.cons rfl (.cons rfl .nil)))
        · refine A7 (Ae rfl rfl rfl Ca rfl rfl (zlb rfl)) rfl ?_
          refine Ai S6_101100 2 (.cons rfl (.cons rfl .nil))
      have S6_100100 : JA Try.prog ops1 4 #[true, false, false, true, false, false] Γ ([(37, (qz g))] ++ F0) [(oqz 0 v), (oqz 0 w), (oqz 0 g), (oqn 0), (oqn 0), (oqz 0 g), (oqz 1 X9), (oqz 1 Y9), (oqz 1 R9)] Q1 := by
        subst ho; subst hF; refine Bz 1 [4, 5] (Ao (Ah Bt rfl rfl rfl rfl) (hd 38 rfl)) rfl (by kernel_rfl) (by kernel_rfl) (by kernel_rfl) (by kernel_rfl) hpan ?_
        refine Ai S6_110100 2 (.cons rfl (.cons rfl .nil))
      have S6_100000 : JA Try.prog ops1 5 #[true, false, false, false, false, false] Γ ([(37, (qz g))] ++ F0) [(oqz 0 v), (oqz 0 w), (oqn 0), (oqn 0), (oqn 0), (oqz 0 g), (oqz 1 X9), (oqz 1 Y9), (oqz 1 R9)] Q1 := by
        subst ho; subst hF
        refine Rc 1 2 3 ?_ ?_ ?_ rfl rfl rfl (by kernel_rfl)
        · refine C4 (Ah Bt rfl rfl rfl rfl) (hd 38 rfl) ?_
          refine Ai S6_110000 2 (.cons rfl (.cons rfl .nil))
        · refine C4 (Ah Bt rfl rfl rfl rfl) (hd 39 rfl) ?_
          refine Ai S6_101000 2 (.cons rfl (.cons rfl .nil))
        · refine A7 (Ae rfl rfl rfl Ca rfl rfl (zlb rfl)) rfl ?_
          refine Ai S6_100100 1 (.cons rfl .nil)
      have S6_000000 : JA Try.prog ops1 6 #[false, false, false, false, false, false] Γ ([] ++ F0) [(oqz 0 v), (oqz 0 w), (oqn 0), (oqn 0), (oqn 0), (oqz 0 g), (oqz 1 X9), (oqz 1 Y9), (oqz 1 R9)] Q1 := by
        subst ho; subst hF; refine Bz 0 [3, 4, 5] (Ao (Ah Bt rfl rfl rfl rfl) (hd 37 rfl)) rfl (by kernel_rfl) (by kernel_rfl) (by kernel_rfl) (by kernel_rfl) hpan ?_
        refine Ai S6_100000 1 (.cons rfl .nil)
      subst ho; subst hF
      exact D2 (m := []) (by decide) rfl (Ba 0 rfl rfl .nil) S6_000000
    have S5_11111111111110 : JA Try.prog ops1 1 #[true, true, true, true, true, true, true, true, true, true, true, true, true, false] Γ ([(9, .p 7 1 0), (10, .p 8 1 0), (27, .t [(qz Y9), (qz R9)]), (28, (qz g)), (29, (qz v)), (30, (qz X9)), (31, (qz P9)), (32, (qz D9)), (33, (qz w)), (34, .t [(qz Y9), (qz R9)]), (35, (qz Y9)), (36, (qz R9))] ++ F0) [(oqz 0 v), (oqz 0 w), (oqn 0), (oqn 0), (oqn 0), (oqz 0 g), (oqz 1 X9), (oqz 1 Y9), (oqn 1)] Q1 := by
      subst ho; subst hF
      refine Bb 13 ?_ rfl (by kernel_rfl)
      refine A7 (Ae rfl rfl rfl Ca rfl rfl (zlb rfl)) rfl ?_
      refine Ai S5_11111111111111 12 (.cons rfl (.cons rfl (.cons rfl (.cons rfl (.cons rfl (.cons rfl (.cons rfl (.cons rfl (.cons rfl (.cons rfl (.cons rfl (.cons rfl .nil))))))))))))
    have S5_11111111111100 : JA Try.prog ops1 2 #[true, true, true, true, true, true, true, true, true, true, true, true, false, false] Γ ([(9, .p 7 1 0), (10, .p 8 1 0), (27, .t [(qz Y9), (qz R9)]), (28, (qz g)), (29, (qz v)), (30, (qz X9)), (31, (qz P9)), (32, (qz D9)), (33, (qz w)), (34, .t [(qz Y9), (qz R9)]), (35, (qz Y9)), (36, (qz R9))] ++ F0) [(oqz 0 v), (oqz 0 w), (oqn 0), (oqn 0), (oqn 0), (oqz 0 g), (oqz 1 X9), (oqn 1), (oqn 1)] Q1 := by
      subst ho; subst hF
      refine Bb 12 ?_ rfl (by kernel_rfl)
      refine A7 (Ae rfl rfl rfl Ca rfl rfl (zlb rfl)) rfl ?_
      refine Ai S5_11111111111110 12 (.cons rfl (.cons rfl (.cons rfl (.cons rfl (.cons rfl (.cons rfl (.cons rfl (.cons rfl (.cons rfl (.cons rfl (.cons rfl (.cons rfl .nil))))))))))))
    have S5_11111111111000 : JA Try.prog ops1 3 #[true, true, true, true, true, true, true, true, true, true, true, false, false, false] Γ ([(9, .p 7 1 0), (27, .t [(qz Y9), (qz R9)]), (28, (qz g)), (29, (qz v)), (30, (qz X9)), (31, (qz P9)), (32, (qz D9)), (33, (qz w)), (34, .t [(qz Y9), (qz R9)]), (35, (qz Y9)), (36, (qz R9))] ++ F0) [(oqz 0 v), (oqz 0 w), (oqn 0), (oqn 0), (oqn 0), (oqz 0 g), (oqz 1 X9), (oqn 1), oqh] Q1 := by
      subst ho; subst hF
      refine Bb 11 ?_ rfl (by kernel_rfl)
      refine Cw (A6 (id := 8) Bx (by decide) rfl (by decide) rfl) (hd 10 rfl) ?_
      refine Ai S5_11111111111100 12 (.cons rfl (.cons rfl (.cons rfl (.cons rfl (.cons rfl (.cons rfl (.cons rfl (.cons rfl (.cons rfl (.cons rfl (.cons rfl (.cons rfl .nil))))))))))))
    have S5_11111111110100 : JA Try.prog ops1 3 #[true, true, true, true, true, true, true, true, true, true, false, true, false, false] Γ ([(10, .p 8 1 0), (27, .t [(qz Y9), (qz R9)]), (28, (qz g)), (29, (qz v)), (30, (qz X9)), (31, (qz P9)), (32, (qz D9)), (33, (qz w)), (34, .t [(qz Y9), (qz R9)]), (35, (qz Y9)), (36, (qz R9))] ++ F0) [(oqz 0 v), (oqz 0 w), (oqn 0), (oqn 0), (oqn 0), (oqz 0 g), (oqz 1 X9), oqh, (oqn 1)] Q1 := by
      subst ho; subst hF
      refine Bb 10 ?_ rfl (by kernel_rfl)
      refine Cw (A6 (id := 7) Bx (by decide) rfl (by decide) rfl) (hd 9 rfl) ?_
      refine Ai S5_11111111111100 12 (.cons rfl (.cons rfl (.cons rfl (.cons rfl (.cons rfl (.cons rfl (.cons rfl (.cons rfl (.cons rfl (.cons rfl (.cons rfl (.cons rfl .nil))))))))))))
    have S5_11111111110000 : JA Try.prog ops1 4 #[true, true, true, true, true, true, true, true, true, true, false, false, false, false] Γ ([(27, .t [(qz Y9), (qz R9)]), (28, (qz g)), (29, (qz v)), (30, (qz X9)), (31, (qz P9)), (32, (qz D9)), (33, (qz w)), (34, .t [(qz Y9), (qz R9)]), (35, (qz Y9)), (36, (qz R9))] ++ F0) [(oqz 0 v), (oqz 0 w), (oqn 0), (oqn 0), (oqn 0), (oqz 0 g), (oqz 1 X9), oqh, oqh] Q1 := by
      subst ho; subst hF
      refine Ct 10 11 ?_ ?_ rfl rfl (by kernel_rfl)
      · refine Cw (A6 (id := 7) Bx (by decide) rfl (by decide) rfl) (hd 9 rfl) ?_
        refine Ai S5_11111111111000 11 (.cons rfl (.cons rfl (.cons rfl (.cons rfl (.cons rfl (.cons rfl (.cons rfl (.cons rfl (.cons rfl (.cons rfl (.cons rfl .nil)))))))))))
      · refine Cw (A6 (id := 8) Bx (by decide) rfl (by decide) rfl) (hd 10 rfl) ?_
        refine Ai S5_11111111110100 11 (.cons rfl (.cons rfl (.cons rfl (.cons rfl (.cons rfl (.cons rfl (.cons rfl (.cons rfl (.cons rfl (.cons rfl (.cons rfl .nil)))))))))))
    have S5_11111111100000 : JA Try.prog ops1 5 #[true, true, true, true, true, true, true, true, true, false, false, false, false, false] Γ ([(27, .t [(qz Y9), (qz R9)]), (28, (qz g)), (29, (qz v)), (30, (qz X9)), (31, (qz P9)), (32, (qz D9)), (33, (qz w)), (34, .t [(qz Y9), (qz R9)]), (35, (qz Y9))] ++ F0) [(oqz 0 v), (oqz 0 w), (oqn 0), (oqn 0), (oqn 0), (oqz 0 g), (oqz 1 X9), oqh, oqh] Q1 := by
      subst ho; subst hF; refine Bz 9 [13] (Gy rfl rfl (hd 36 rfl)) rfl (by kernel_rfl) (by kernel_rfl) (by kernel_rfl) (by kernel_rfl) hpan ?_
      refine Ai S5_11111111110000 10 (.cons rfl (.cons rfl (.cons rfl (.cons rfl (.cons rfl (.cons rfl (.cons rfl (.cons rfl (.cons rfl (.cons rfl .nil))))))))))
    have S5_11111111000000 : JA Try.prog ops1 6 #[true, true, true, true, true, true, true, true, false, false, false, false, false, false] Γ ([(27, .t [(qz Y9), (qz R9)]), (28, (qz g)), (29, (qz v)), (30, (qz X9)), (31, (qz P9)), (32, (qz D9)), (33, (qz w)), (34, .t [(qz Y9), (qz R9)])] ++ F0) [(oqz 0 v), (oqz 0 w), (oqn 0), (oqn 0), (oqn 0), (oqz 0 g), (oqz 1 X9), oqh, oqh] Q1 := by
      subst ho; subst hF; refine Bz 8 [12, 13] (Gy rfl rfl (hd 35 rfl)) rfl (by kernel_rfl) (by kernel_rfl) (by kernel_rfl) (by kernel_rfl) hpan ?_
      refine Ai S5_11111111100000 9 (.cons rfl (.cons rfl (.cons rfl (.cons rfl (.cons rfl (.cons rfl (.cons rfl (.cons rfl (.cons rfl .nil)))))))))
    have S5_11111110000000 : JA Try.prog ops1 7 #[true, true, true, true, true, true, true, false, false, false, false, false, false, false] Γ ([(28, (qz g)), (29, (qz v)), (30, (qz X9)), (31, (qz P9)), (32, (qz D9)), (33, (qz w)), (34, .t [(qz Y9), (qz R9)])] ++ F0) [(oqz 0 v), (oqz 0 w), (oqn 0), (oqn 0), (oqn 0), (oqz 0 g), (oqz 1 X9), oqh, oqh] Q1 := by
      subst ho; subst hF; refine Bz 7 [8, 9, 12, 13] (Wa rfl (hd 27 rfl)) rfl (by kernel_rfl) (by kernel_rfl) (by kernel_rfl) (by kernel_rfl) hpan ?_
      refine Ai S5_11111111000000 8 (.cons rfl (.cons rfl (.cons rfl (.cons rfl (.cons rfl (.cons rfl (.cons rfl (.cons rfl .nil))))))))
    have S5_11111111101000 : JA Try.prog ops1 4 #[true, true, true, true, true, true, true, true, true, false, true, false, false, false] Γ ([(9, .p 7 1 0), (27, .t [(qz Y9), (qz R9)]), (28, (qz g)), (29, (qz v)), (30, (qz X9)), (31, (qz P9)), (32, (qz D9)), (33, (qz w)), (34, .t [(qz Y9), (qz R9)]), (35, (qz Y9))] ++ F0) [(oqz 0 v), (oqz 0 w), (oqn 0), (oqn 0), (oqn 0), (oqz 0 g), (oqz 1 X9), (oqn 1), oqh] Q1 := by
      subst ho; subst hF; refine Bz 9 [13] (Gy rfl rfl (hd 36 rfl)) rfl (by kernel_rfl) (by kernel_rfl) (by kernel_rfl) (by kernel_rfl) hpan ?_
      refine Ai S5_11111111111000 11 (.cons rfl (.cons rfl (.cons rfl (.cons rfl (.cons rfl (.cons rfl (.cons rfl (.cons rfl (.cons rfl (.cons rfl (.cons rfl .nil)))))))))))
    have S5_11111111001000 : JA Try.prog ops1 5 #[true, true, true, true, true, true, true, true, false, false, true, false, false, false] Γ ([(9, .p 7 1 0), (27, .t [(qz Y9), (qz R9)]), (28, (qz g)), (29, (qz v)), (30, (qz X9)), (31, (qz P9)), (32, (qz D9)), (33, (qz w)), (34, .t [(qz Y9), (qz R9)])] ++ F0) [(oqz 0 v), (oqz 0 w), (oqn 0), (oqn 0), (oqn 0), (oqz 0 g), (oqz 1 X9), (oqn 1), oqh] Q1 := by
      subst ho; subst hF; refine Bz 8 [12, 13] (Gy rfl rfl (hd 35 rfl)) rfl (by kernel_rfl) (by kernel_rfl) (by kernel_rfl) (by kernel_rfl) hpan ?_
      refine Ai S5_11111111101000 10 (.cons rfl (.cons rfl (.cons rfl (.cons rfl (.cons rfl (.cons rfl (.cons rfl (.cons rfl (.cons rfl (.cons rfl .nil))))))))))
    have S5_11111110001000 : JA Try.prog ops1 6 #[true, true, true, true, true, true, true, false, false, false, true, false, false, false] Γ ([(9, .p 7 1 0), (28, (qz g)), (29, (qz v)), (30, (qz X9)), (31, (qz P9)), (32, (qz D9)), (33, (qz w)), (34, .t [(qz Y9), (qz R9)])] ++ F0) [(oqz 0 v), (oqz 0 w), (oqn 0), (oqn 0), (oqn 0), (oqz 0 g), (oqz 1 X9), (oqn 1), oqh] Q1 := by
      subst ho; subst hF; refine Bz 7 [8, 9, 12, 13] (Wa rfl (hd 27 rfl)) rfl (by kernel_rfl) (by kernel_rfl) (by kernel_rfl) (by kernel_rfl) hpan ?_
      refine Ai S5_11111111001000 9 (.cons rfl (.cons rfl (.cons rfl (.cons rfl (.cons rfl (.cons rfl (.cons rfl (.cons rfl (.cons rfl .nil)))))))))
    have S5_11111111101100 : JA Try.prog ops1 3 #[true, true, true, true, true, true, true, true, true, false, true, true, false, false] Γ ([(9, .p 7 1 0), (10, .p 8 1 0), (27, .t [(qz Y9), (qz R9)]), (28, (qz g)), (29, (qz v)), (30, (qz X9)), (31, (qz P9)), (32, (qz D9)), (33, (qz w)), (34, .t [(qz Y9), (qz R9)]), (35, (qz Y9))] ++ F0) [(oqz 0 v), (oqz 0 w), (oqn 0), (oqn 0), (oqn 0), (oqz 0 g), (oqz 1 X9), (oqn 1), (oqn 1)] Q1 := by
      subst ho; subst hF; refine Bz 9 [13] (Gy rfl rfl (hd 36 rfl)) rfl (by kernel_rfl) (by kernel_rfl) (by kernel_rfl) (by kernel_rfl) hpan ?_
      refine Ai S5_11111111111100 12 (.cons rfl (.cons rfl (.cons rfl (.cons rfl (.cons rfl (.cons rfl (.cons rfl (.cons rfl (.cons rfl (.cons rfl (.cons rfl (.cons rfl .nil))))))))))))
    have S5_11111111001100 : JA Try.prog ops1 4 #[true, true, true, true, true, true, true, true, false, false, true, true, false, false] Γ ([(9, .p 7 1 0), (10, .p 8 1 0), (27, .t [(qz Y9), (qz R9)]), (28, (qz g)), (29, (qz v)), (30, (qz X9)), (31, (qz P9)), (32, (qz D9)), (33, (qz w)), (34, .t [(qz Y9), (qz R9)])] ++ F0) [(oqz 0 v), (oqz 0 w), (oqn 0), (oqn 0), (oqn 0), (oqz 0 g), (oqz 1 X9), (oqn 1), (oqn 1)] Q1 := by
      subst ho; subst hF; refine Bz 8 [12, 13] (Gy rfl rfl (hd 35 rfl)) rfl (by kernel_rfl) (by kernel_rfl) (by kernel_rfl) (by kernel_rfl) hpan ?_
      refine Ai S5_11111111101100 11 (.cons rfl (.cons rfl (.cons rfl (.cons rfl (.cons rfl (.cons rfl (.cons rfl (.cons rfl (.cons rfl (.cons rfl (.cons rfl .nil)))))))))))
    have S5_11111110001100 : JA Try.prog ops1 5 #[true, true, true, true, true, true, true, false, false, false, true, true, false, false] Γ ([(9, .p 7 1 0), (10, .p 8 1 0), (28, (qz g)), (29, (qz v)), (30, (qz X9)), (31, (qz P9)), (32, (qz D9)), (33, (qz w)), (34, .t [(qz Y9), (qz R9)])] ++ F0) [(oqz 0 v), (oqz 0 w), (oqn 0), (oqn 0), (oqn 0), (oqz 0 g), (oqz 1 X9), (oqn 1), (oqn 1)] Q1 := by
      subst ho; subst hF; refine Bz 7 [8, 9, 12, 13] (Wa rfl (hd 27 rfl)) rfl (by kernel_rfl) (by kernel_rfl) (by kernel_rfl) (by kernel_rfl) hpan ?_
      refine Ai S5_11111111001100 10 (.cons rfl (.cons rfl (.cons rfl (.cons rfl (.cons rfl (.cons rfl (.cons rfl (.cons rfl (.cons rfl (.cons rfl .nil))))))))))
    have S5_11111100001100 : JA Try.prog ops1 6 #[true, true, true, true, true, true, false, false, false, false, true, true, false, false] Γ ([(9, .p 7 1 0), (10, .p 8 1 0), (28, (qz g)), (29, (qz v)), (30, (qz X9)), (31, (qz P9)), (32, (qz D9)), (33, (qz w))] ++ F0) [(oqz 0 v), (oqz 0 w), (oqn 0), (oqn 0), (oqn 0), (oqz 0 g), (oqz 1 X9), (oqn 1), (oqn 1)] Q1 := by
      subst ho; subst hF
      refine Bb 6 ?_ rfl (by kernel_rfl)
      refine A4 Try.f29 (hFl) rfl Try.func29 rfl rfl (Aa rfl (Aa rfl Ad)) (.cons (.a1 .b (.a1 .n .a0)) (.cons (.a1 .b (.a1 .n .a0)) .nil)) (hd 34 rfl) ?_ (fun ch hp => by simp at hp)
      rintro y hy; injection hy with hy; subst hy
      refine Ai S5_11111110001100 9 (.cons rfl (.cons rfl (.cons rfl (.cons rfl (.cons rfl (.cons rfl (.cons rfl (.cons rfl (.cons rfl .nil)))))))))
    have S5_11111100001000 : JA Try.prog ops1 7 #[true, true, true, true, true, true, false, false, false, false, true, false, false, false] Γ ([(9, .p 7 1 0), (28, (qz g)), (29, (qz v)), (30, (qz X9)), (31, (qz P9)), (32, (qz D9)), (33, (qz w))] ++ F0) [(oqz 0 v), (oqz 0 w), (oqn 0), (oqn 0), (oqn 0), (oqz 0 g), (oqz 1 X9), (oqn 1), oqh] Q1 := by
      subst ho; subst hF
      refine Ct 6 11 ?_ ?_ rfl rfl (by kernel_rfl)
      · refine A4 Try.f29 (hFl) rfl Try.func29 rfl rfl (Aa rfl (Aa rfl Ad)) (.cons (.a1 .b (.a1 .n .a0)) (.cons (.a1 .b (.a1 .n .a0)) .nil)) (hd 34 rfl) ?_ (fun ch hp => by simp at hp)
        rintro y hy; injection hy with hy; subst hy
        refine Ai S5_11111110001000 8 (.cons rfl (.cons rfl (.cons rfl (.cons rfl (.cons rfl (.cons rfl (.cons rfl (.cons rfl .nil))))))))
      · refine Cw (A6 (id := 8) Bx (by decide) rfl (by decide) rfl) (hd 10 rfl) ?_
        refine Ai S5_11111100001100 8 (.cons rfl (.cons rfl (.cons rfl (.cons rfl (.cons rfl (.cons rfl (.cons rfl (.cons rfl .nil))))))))
    have S5_11111111100100 : JA Try.prog ops1 4 #[true, true, true, true, true, true, true, true, true, false, false, true, false, false] Γ ([(10, .p 8 1 0), (27, .t [(qz Y9), (qz R9)]), (28, (qz g)), (29, (qz v)), (30, (qz X9)), (31, (qz P9)), (32, (qz D9)), (33, (qz w)), (34, .t [(qz Y9), (qz R9)]), (35, (qz Y9))] ++ F0) [(oqz 0 v), (oqz 0 w), (oqn 0), (oqn 0), (oqn 0), (oqz 0 g), (oqz 1 X9), oqh, (oqn 1)] Q1 := by
      subst ho; subst hF; refine Bz 9 [13] (Gy rfl rfl (hd 36 rfl)) rfl (by kernel_rfl) (by kernel_rfl) (by kernel_rfl) (by kernel_rfl) hpan ?_
      refine Ai S5_11111111110100 11 (.cons rfl (.cons rfl (.cons rfl (.cons rfl (.cons rfl (.cons rfl (.cons rfl (.cons rfl (.cons rfl (.cons rfl (.cons rfl .nil)))))))))))
    have S5_11111111000100 : JA Try.prog ops1 5 #[true, true, true, true, true, true, true, true, false, false, false, true, false, false] Γ ([(10, .p 8 1 0), (27, .t [(qz Y9), (qz R9)]), (28, (qz g)), (29, (qz v)), (30, (qz X9)), (31, (qz P9)), (32, (qz D9)), (33, (qz w)), (34, .t [(qz Y9), (qz R9)])] ++ F0) [(oqz 0 v), (oqz 0 w), (oqn 0), (oqn 0), (oqn 0), (oqz 0 g), (oqz 1 X9), oqh, (oqn 1)] Q1 := by
      subst ho; subst hF; refine Bz 8 [12, 13] (Gy rfl rfl (hd 35 rfl)) rfl (by kernel_rfl) (by kernel_rfl) (by kernel_rfl) (by kernel_rfl) hpan ?_
      refine Ai S5_11111111100100 10 (.cons rfl (.cons rfl (.cons rfl (.cons rfl (.cons rfl (.cons rfl (.cons rfl (.cons rfl (.cons rfl (.cons rfl .nil))))))))))
    have S5_11111110000100 : JA Try.prog ops1 6 #[true, true, true, true, true, true, true, false, false, false, false, true, false, false] Γ ([(10, .p 8 1 0), (28, (qz g)), (29, (qz v)), (30, (qz X9)), (31, (qz P9)), (32, (qz D9)), (33, (qz w)), (34, .t [(qz Y9), (qz R9)])] ++ F0) [(oqz 0 v), (oqz 0 w), (oqn 0), (oqn 0), (oqn 0), (oqz 0 g), (oqz 1 X9), oqh, (oqn 1)] Q1 := by
      subst ho; subst hF; refine Bz 7 [8, 9, 12, 13] (Wa rfl (hd 27 rfl)) rfl (by kernel_rfl) (by kernel_rfl) (by kernel_rfl) (by kernel_rfl) hpan ?_
      refine Ai S5_11111111000100 9 (.cons rfl (.cons rfl (.cons rfl (.cons rfl (.cons rfl (.cons rfl (.cons rfl (.cons rfl (.cons rfl .nil)))))))))
    have S5_11111100000100 : JA Try.prog ops1 7 #[true, true, true, true, true, true, false, false, false, false, false, true, false, false] Γ ([(10, .p 8 1 0), (28, (qz g)), (29, (qz v)), (30, (qz X9)), (31, (qz P9)), (32, (qz D9)), (33, (qz w))] ++ F0) [(oqz 0 v), (oqz 0 w), (oqn 0), (oqn 0), (oqn 0), (oqz 0 g), (oqz 1 X9), oqh, (oqn 1)] Q1 := by
      subst ho; subst hF
      refine Ct 6 10 ?_ ?_ rfl rfl (by kernel_rfl)
      · refine A4 Try.f29 (hFl) rfl Try.func29 rfl rfl (Aa rfl (Aa rfl Ad)) (.cons (.a1 .b (.a1 .n .a0)) (.cons (.a1 .b (.a1 .n .a0)) .nil)) (hd 34 rfl) ?_ (fun ch hp => by simp at hp)
        rintro y hy; injection hy with hy; subst hy
        refine Ai S5_11111110000100 8 (.cons rfl (.cons rfl (.cons rfl (.cons rfl (.cons rfl (.cons rfl (.cons rfl (.cons rfl .nil))))))))
      · refine Cw (A6 (id := 7) Bx (by decide) rfl (by decide) rfl) (hd 9 rfl) ?_
        refine Ai S5_11111100001100 8 (.cons rfl (.cons rfl (.cons rfl (.cons rfl (.cons rfl (.cons rfl (.cons rfl (.cons rfl .nil))))))))
    have S5_11111100000000 : JA Try.prog ops1 8 #[true, true, true, true, true, true, false, false, false, false, false, false, false, false] Γ ([(28, (qz g)), (29, (qz v)), (30, (qz X9)), (31, (qz P9)), (32, (qz D9)), (33, (qz w))] ++ F0) [(oqz 0 v), (oqz 0 w), (oqn 0), (oqn 0), (oqn 0), (oqz 0 g), (oqz 1 X9), oqh, oqh] Q1 := by
      subst ho; subst hF
      refine Rc 6 10 11 ?_ ?_ ?_ rfl rfl rfl (by kernel_rfl)
      · refine A4 Try.f29 (hFl) rfl Try.func29 rfl rfl (Aa rfl (Aa rfl Ad)) (.cons (.a1 .b (.a1 .n .a0)) (.cons (.a1 .b (.a1 .n .a0)) .nil)) (hd 34 rfl) ?_ (fun ch hp => by simp at hp)
        rintro y hy; injection hy with hy; subst hy
        refine Ai S5_11111110000000 7 (.cons rfl (.cons rfl (.cons rfl (.cons rfl (.cons rfl (.cons rfl (.cons rfl .nil)))))))
      · refine Cw (A6 (id := 7) Bx (by decide) rfl (by decide) rfl) (hd 9 rfl) ?_
        refine Ai S5_11111100001000 7 (.cons rfl (.cons rfl (.cons rfl (.cons rfl (.cons rfl (.cons rfl (.cons rfl .nil)))))))
      · refine Cw (A6 (id := 8) Bx (by decide) rfl (by decide) rfl) (hd 10 rfl) ?_
        refine Ai S5_11111100000100 7 (.cons rfl (.cons rfl (.cons rfl (.cons rfl (.cons rfl (.cons rfl (.cons rfl .nil)))))))
    have S5_11110100001100 : JA Try.prog ops1 7 #[true, true, true, true, false, true, false, false, false, false, true, true, false, false] Γ ([(9, .p 7 1 0), (10, .p 8 1 0), (28, (qz g)), (29, (qz v)), (30, (qz X9)), (31, (qz P9)), (33, (qz w))] ++ F0) [(oqz 0 v), (oqz 0 w), (oqn 0), (oqn 0), (oqn 0), (oqz 0 g), (oqz 1 X9), (oqn 1), (oqn 1)] Q1 := by
      subst ho; subst hF
      refine Bb 4 ?_ rfl (by kernel_rfl)
      refine A4 Try.f30 (hSz) rfl Try.func30 rfl rfl (Aa rfl (Aa rfl Ad)) (.cons (.a1 .b (.a1 .n .a0)) (.cons (.a1 .b (.a1 .n .a0)) .nil)) (hd 32 rfl) ?_ (fun ch hp => by simp at hp)
      rintro y hy; injection hy with hy; subst hy
      refine Ai S5_11111100001100 8 (.cons rfl (.cons rfl (.cons rfl (.cons rfl (.cons rfl (.cons rfl (.cons rfl (.cons rfl .nil))))))))
    have S5_11110100001000 : JA Try.prog ops1 8 #[true, true, true, true, false, true, false, false, false, false, true, false, false, false] Γ ([(9, .p 7 1 0), (28, (qz g)), (29, (qz v)), (30, (qz X9)), (31, (qz P9)), (33, (qz w))] ++ F0) [(oqz 0 v), (oqz 0 w), (oqn 0), (oqn 0), (oqn 0), (oqz 0 g), (oqz 1 X9), (oqn 1), oqh] Q1 := by
      subst ho; subst hF
      refine Ct 4 11 ?_ ?_ rfl rfl (by kernel_rfl)
      · refine A4 Try.f30 (hSz) rfl Try.func30 rfl rfl (Aa rfl (Aa rfl Ad)) (.cons (.a1 .b (.a1 .n .a0)) (.cons (.a1 .b (.a1 .n .a0)) .nil)) (hd 32 rfl) ?_ (fun ch hp => by simp at hp)
        rintro y hy; injection hy with hy; subst hy
        refine Ai S5_11111100001000 7 (.cons rfl (.cons rfl (.cons rfl (.cons rfl (.cons rfl (.cons rfl (.cons rfl .nil)))))))
      · refine Cw (A6 (id := 8) Bx (by decide) rfl (by decide) rfl) (hd 10 rfl) ?_
        refine Ai S5_11110100001100 7 (.cons rfl (.cons rfl (.cons rfl (.cons rfl (.cons rfl (.cons rfl (.cons rfl .nil)))))))
    have S5_11110100000100 : JA Try.prog ops1 8 #[true, true, true, true, false, true, false, false, false, false, false, true, false, false] Γ ([(10, .p 8 1 0), (28, (qz g)), (29, (qz v)), (30, (qz X9)), (31, (qz P9)), (33, (qz w))] ++ F0) [(oqz 0 v), (oqz 0 w), (oqn 0), (oqn 0), (oqn 0), (oqz 0 g), (oqz 1 X9), oqh, (oqn 1)] Q1 := by
      subst ho; subst hF
      refine Ct 4 10 ?_ ?_ rfl rfl (by kernel_rfl)
      · refine A4 Try.f30 (hSz) rfl Try.func30 rfl rfl (Aa rfl (Aa rfl Ad)) (.cons (.a1 .b (.a1 .n .a0)) (.cons (.a1 .b (.a1 .n .a0)) .nil)) (hd 32 rfl) ?_ (fun ch hp => by simp at hp)
        rintro y hy; injection hy with hy; subst hy
        refine Ai S5_11111100000100 7 (.cons rfl (.cons rfl (.cons rfl (.cons rfl (.cons rfl (.cons rfl (.cons rfl .nil)))))))
      · refine Cw (A6 (id := 7) Bx (by decide) rfl (by decide) rfl) (hd 9 rfl) ?_
        refine Ai S5_11110100001100 7 (.cons rfl (.cons rfl (.cons rfl (.cons rfl (.cons rfl (.cons rfl (.cons rfl .nil)))))))
    have S5_11110100000000 : JA Try.prog ops1 9 #[true, true, true, true, false, true, false, false, false, false, false, false, false, false] Γ ([(28, (qz g)), (29, (qz v)), (30, (qz X9)), (31, (qz P9)), (33, (qz w))] ++ F0) [(oqz 0 v), (oqz 0 w), (oqn 0), (oqn 0), (oqn 0), (oqz 0 g), (oqz 1 X9), oqh, oqh] Q1 := by
      subst ho; subst hF
      refine Rc 4 10 11 ?_ ?_ ?_ rfl rfl rfl (by kernel_rfl)
      · refine A4 Try.f30 (hSz) rfl Try.func30 rfl rfl (Aa rfl (Aa rfl Ad)) (.cons (.a1 .b (.a1 .n .a0)) (.cons (.a1 .b (.a1 .n .a0)) .nil)) (hd 32 rfl) ?_ (fun ch hp => by simp at hp)
        rintro y hy; injection hy with hy; subst hy
        refine Ai S5_11111100000000 6 (.cons rfl (.cons rfl (.cons rfl (.cons rfl (.cons rfl (.cons rfl .nil))))))
      · refine Cw (A6 (id := 7) Bx (by decide) rfl (by decide) rfl) (hd 9 rfl) ?_
        refine Ai S5_11110100001000 6 (.cons rfl (.cons rfl (.cons rfl (.cons rfl (.cons rfl (.cons rfl .nil))))))
      · refine Cw (A6 (id := 8) Bx (by decide) rfl (by decide) rfl) (hd 10 rfl) ?_
        refine Ai S5_11110100000100 6 (.cons rfl (.cons rfl (.cons rfl (.cons rfl (.cons rfl (.cons rfl .nil))))))
    have S5_11100100001100 : JA Try.prog ops1 8 #[true, true, true, false, false, true, false, false, false, false, true, true, false, false] Γ ([(9, .p 7 1 0), (10, .p 8 1 0), (28, (qz g)), (29, (qz v)), (30, (qz X9)), (33, (qz w))] ++ F0) [(oqz 0 v), (oqz 0 w), (oqn 0), (oqn 0), (oqn 0), (oqz 0 g), (oqz 1 X9), (oqn 1), (oqn 1)] Q1 := by
      subst ho; subst hF
      refine Bb 3 ?_ rfl (by kernel_rfl)
      refine A4 Try.f31 (hMz) rfl Try.func31 rfl rfl (Aa rfl (Aa rfl Ad)) (.cons (.a1 .b (.a1 .n .a0)) (.cons (.a1 .b (.a1 .n .a0)) .nil)) (hd 31 rfl) ?_ (fun ch hp => by simp at hp)
      rintro y hy; injection hy with hy; subst hy
      refine Ai S5_11110100001100 7 (.cons rfl (.cons rfl (.cons rfl (.cons rfl (.cons rfl (.cons rfl (.cons rfl .nil)))))))
    have S5_11100100001000 : JA Try.prog ops1 9 #[true, true, true, false, false, true, false, false, false, false, true, false, false, false] Γ ([(9, .p 7 1 0), (28, (qz g)), (29, (qz v)), (30, (qz X9)), (33, (qz w))] ++ F0) [(oqz 0 v), (oqz 0 w), (oqn 0), (oqn 0), (oqn 0), (oqz 0 g), (oqz 1 X9), (oqn 1), oqh] Q1 := by
      subst ho; subst hF
      refine Ct 3 11 ?_ ?_ rfl rfl (by kernel_rfl)
      · refine A4 Try.f31 (hMz) rfl Try.func31 rfl rfl (Aa rfl (Aa rfl Ad)) (.cons (.a1 .b (.a1 .n .a0)) (.cons (.a1 .b (.a1 .n .a0)) .nil)) (hd 31 rfl) ?_ (fun ch hp => by simp at hp)
        rintro y hy; injection hy with hy; subst hy
        refine Ai S5_11110100001000 6 (.cons rfl (.cons rfl (.cons rfl (.cons rfl (.cons rfl (.cons rfl .nil))))))
      · refine Cw (A6 (id := 8) Bx (by decide) rfl (by decide) rfl) (hd 10 rfl) ?_
        refine Ai S5_11100100001100 6 (.cons rfl (.cons rfl (.cons rfl (.cons rfl (.cons rfl (.cons rfl .nil))))))
    have S5_11100100000100 : JA Try.prog ops1 9 #[true, true, true, false, false, true, false, false, false, false, false, true, false, false] Γ ([(10, .p 8 1 0), (28, (qz g)), (29, (qz v)), (30, (qz X9)), (33, (qz w))] ++ F0) [(oqz 0 v), (oqz 0 w), (oqn 0), (oqn 0), (oqn 0), (oqz 0 g), (oqz 1 X9), oqh, (oqn 1)] Q1 := by
      subst ho; subst hF
      refine Ct 3 10 ?_ ?_ rfl rfl (by kernel_rfl)
      · refine A4 Try.f31 (hMz) rfl Try.func31 rfl rfl (Aa rfl (Aa rfl Ad)) (.cons (.a1 .b (.a1 .n .a0)) (.cons (.a1 .b (.a1 .n .a0)) .nil)) (hd 31 rfl) ?_ (fun ch hp => by simp at hp)
        rintro y hy; injection hy with hy; subst hy
        refine Ai S5_11110100000100 6 (.cons rfl (.cons rfl (.cons rfl (.cons rfl (.cons rfl (.cons rfl .nil))))))
      · refine Cw (A6 (id := 7) Bx (by decide) rfl (by decide) rfl) (hd 9 rfl) ?_
        refine Ai S5_11100100001100 6 (.cons rfl (.cons rfl (.cons rfl (.cons rfl (.cons rfl (.cons rfl .nil))))))
    have S5_11100100000000 : JA Try.prog ops1 10 #[true, true, true, false, false, true, false, false, false, false, false, false, false, false] Γ ([(28, (qz g)), (29, (qz v)), (30, (qz X9)), (33, (qz w))] ++ F0) [(oqz 0 v), (oqz 0 w), (oqn 0), (oqn 0), (oqn 0), (oqz 0 g), (oqz 1 X9), oqh, oqh] Q1 := by
      subst ho; subst hF
      refine Rc 3 10 11 ?_ ?_ ?_ rfl rfl rfl (by kernel_rfl)
      · refine A4 Try.f31 (hMz) rfl Try.func31 rfl rfl (Aa rfl (Aa rfl Ad)) (.cons (.a1 .b (.a1 .n .a0)) (.cons (.a1 .b (.a1 .n .a0)) .nil)) (hd 31 rfl) ?_ (fun ch hp => by simp at hp)
        rintro y hy; injection hy with hy; subst hy
        refine Ai S5_11110100000000 5 (.cons rfl (.cons rfl (.cons rfl (.cons rfl (.cons rfl .nil)))))
      · refine Cw (A6 (id := 7) Bx (by decide) rfl (by decide) rfl) (hd 9 rfl) ?_
        refine Ai S5_11100100001000 5 (.cons rfl (.cons rfl (.cons rfl (.cons rfl (.cons rfl .nil)))))
      · refine Cw (A6 (id := 8) Bx (by decide) rfl (by decide) rfl) (hd 10 rfl) ?_
        refine Ai S5_11100100000100 5 (.cons rfl (.cons rfl (.cons rfl (.cons rfl (.cons rfl .nil)))))
    have S5_11100000000000 : JA Try.prog ops1 11 #[true, true, true, false, false, false, false, false, false, false, false, false, false, false] Γ ([(28, (qz g)), (29, (qz v)), (30, (qz X9))] ++ F0) [(oqz 0 v), (oqz 0 w), (oqn 0), (oqn 0), (oqn 0), (oqz 0 g), (oqz 1 X9), oqh, oqh] Q1 := by
      subst ho; subst hF; refine Bz 5 [6, 7, 8, 9, 12, 13] (Ao (Ah Bt rfl rfl rfl rfl) (hd 33 rfl)) rfl (by kernel_rfl) (by kernel_rfl) (by kernel_rfl) (by kernel_rfl) hpan ?_
      refine Ai S5_11100100000000 4 (.cons rfl (.cons rfl (.cons rfl (.cons rfl .nil))))
    have S5_11000000000000 : JA Try.prog ops1 12 #[true, true, false, false, false, false, false, false, false, false, false, false, false, false] Γ ([(28, (qz g)), (29, (qz v))] ++ F0) [(oqz 0 v), (oqz 0 w), (oqn 0), (oqn 0), (oqn 0), (oqz 0 g), (oqz 1 X9), oqh, oqh] Q1 := by
      subst ho; subst hF; refine Bz 2 [3, 4, 6, 7, 8, 9, 12, 13] (Ao (Ah Bt rfl rfl rfl rfl) (hd 30 rfl)) rfl (by kernel_rfl) (by kernel_rfl) (by kernel_rfl) (by kernel_rfl) hpan ?_
      refine Ai S5_11100000000000 3 (.cons rfl (.cons rfl (.cons rfl .nil)))
    have S5_10000000000000 : JA Try.prog ops1 13 #[true, false, false, false, false, false, false, false, false, false, false, false, false, false] Γ ([(28, (qz g))] ++ F0) [(oqz 0 v), (oqz 0 w), (oqn 0), (oqn 0), (oqn 0), (oqz 0 g), (oqz 1 X9), oqh, oqh] Q1 := by
      subst ho; subst hF; refine Bz 1 [3, 4, 6, 7, 8, 9, 12, 13] (Ao (Ah Bt rfl rfl rfl rfl) (hd 29 rfl)) rfl (by kernel_rfl) (by kernel_rfl) (by kernel_rfl) (by kernel_rfl) hpan ?_
      refine Ai S5_11000000000000 2 (.cons rfl (.cons rfl .nil))
    have S5_00000000000000 : JA Try.prog ops1 14 #[false, false, false, false, false, false, false, false, false, false, false, false, false, false] Γ ([] ++ F0) [(oqz 0 v), (oqz 0 w), (oqn 0), (oqn 0), (oqn 0), (oqz 0 g), (oqz 1 X9), oqh, oqh] Q1 := by
      subst ho; subst hF; refine Bz 0 [4, 6, 7, 8, 9, 12, 13] (Ao (Ah Bt rfl rfl rfl rfl) (hd 28 rfl)) rfl (by kernel_rfl) (by kernel_rfl) (by kernel_rfl) (by kernel_rfl) hpan ?_
      refine Ai S5_10000000000000 1 (.cons rfl .nil)
    subst ho; subst hF
    exact D2 (m := []) (by decide) rfl (Ba 0 rfl rfl .nil) S5_00000000000000
  have S4_1111110 : JA Try.prog ops1 1 #[true, true, true, true, true, true, false] Γ ([(8, .p 6 1 0), (22, (qz v)), (23, (qz w)), (24, (qz ((w.natAbs : Nat) : Int))), (25, (qz g)), (26, (qz X9))] ++ F0) [(oqz 0 v), (oqz 0 w), (oqn 0), (oqn 0), (oqn 0), (oqz 0 g), (oqn 1)] Q1 := by
    subst ho; subst hF
    refine Bb 6 ?_ rfl (by kernel_rfl)
    refine A7 (Ae rfl rfl rfl Ca rfl rfl (zlb rfl)) rfl ?_
    refine Ai S4_1111111 6 (.cons rfl (.cons rfl (.cons rfl (.cons rfl (.cons rfl (.cons rfl .nil))))))
  have S4_1111100 : JA Try.prog ops1 2 #[true, true, true, true, true, false, false] Γ ([(22, (qz v)), (23, (qz w)), (24, (qz ((w.natAbs : Nat) : Int))), (25, (qz g)), (26, (qz X9))] ++ F0) [(oqz 0 v), (oqz 0 w), (oqn 0), (oqn 0), (oqn 0), (oqz 0 g), oqh] Q1 := by
    subst ho; subst hF
    refine Bb 5 ?_ rfl (by kernel_rfl)
    refine Cw (A6 (id := 6) Bx (by decide) rfl (by decide) rfl) (hd 8 rfl) ?_
    refine Ai S4_1111110 6 (.cons rfl (.cons rfl (.cons rfl (.cons rfl (.cons rfl (.cons rfl .nil))))))
  have S4_1111010 : JA Try.prog ops1 2 #[true, true, true, true, false, true, false] Γ ([(8, .p 6 1 0), (22, (qz v)), (23, (qz w)), (24, (qz ((w.natAbs : Nat) : Int))), (25, (qz g))] ++ F0) [(oqz 0 v), (oqz 0 w), (oqn 0), (oqn 0), (oqn 0), (oqz 0 g), (oqn 1)] Q1 := by
    subst ho; subst hF
    refine Bb 4 ?_ rfl (by kernel_rfl)
    refine A4 Try.f12 (hIv) rfl Try.func12 rfl rfl (Aa rfl (Aa rfl (Aa rfl Ad))) (.cons (.a1 .b (.a1 .n .a0)) (.cons (.a1 .b (.a1 .n .a0)) (.cons (.a1 .b (.a1 .n .a0)) .nil))) (hd 26 rfl) ?_ (fun ch hp => by simp at hp)
    rintro y hy; injection hy with hy; subst hy
    refine Ai S4_1111110 6 (.cons rfl (.cons rfl (.cons rfl (.cons rfl (.cons rfl (.cons rfl .nil))))))
  have S4_1111000 : JA Try.prog ops1 3 #[true, true, true, true, false, false, false] Γ ([(22, (qz v)), (23, (qz w)), (24, (qz ((w.natAbs : Nat) : Int))), (25, (qz g))] ++ F0) [(oqz 0 v), (oqz 0 w), (oqn 0), (oqn 0), (oqn 0), (oqz 0 g), oqh] Q1 := by
    subst ho; subst hF
    refine Ct 4 5 ?_ ?_ rfl rfl (by kernel_rfl)
    · refine A4 Try.f12 (hIv) rfl Try.func12 rfl rfl (Aa rfl (Aa rfl (Aa rfl Ad))) (.cons (.a1 .b (.a1 .n .a0)) (.cons (.a1 .b (.a1 .n .a0)) (.cons (.a1 .b (.a1 .n .a0)) .nil))) (hd 26 rfl) ?_ (fun ch hp => by simp at hp)
      rintro y hy; injection hy with hy; subst hy
      refine Ai S4_1111100 5 (.cons rfl (.cons rfl (.cons rfl (.cons rfl (.cons rfl .nil)))))
    · refine Cw (A6 (id := 6) Bx (by decide) rfl (by decide) rfl) (hd 8 rfl) ?_
      refine Ai S4_1111010 5 (.cons rfl (.cons rfl (.cons rfl (.cons rfl (.cons rfl .nil)))))
  have S4_1101010 : JA Try.prog ops1 3 #[true, true, false, true, false, true, false] Γ ([(8, .p 6 1 0), (22, (qz v)), (23, (qz w)), (25, (qz g))] ++ F0) [(oqz 0 v), (oqz 0 w), (oqn 0), (oqn 0), (oqn 0), (oqz 0 g), (oqn 1)] Q1 := by
    subst ho; subst hF
    refine Bb 2 ?_ rfl (by kernel_rfl)
    refine A4 Try.f13 (U4 w) rfl Try.func13 rfl rfl (Aa rfl Ad) (.cons (.a1 .b (.a1 .n .a0)) .nil) (hd 24 rfl) ?_ (fun ch hp => by simp at hp)
    rintro y hy; injection hy with hy; subst hy
    refine Ai S4_1111010 5 (.cons rfl (.cons rfl (.cons rfl (.cons rfl (.cons rfl .nil)))))
  have S4_1101000 : JA Try.prog ops1 4 #[true, true, false, true, false, false, false] Γ ([(22, (qz v)), (23, (qz w)), (25, (qz g))] ++ F0) [(oqz 0 v), (oqz 0 w), (oqn 0), (oqn 0), (oqn 0), (oqz 0 g), oqh] Q1 := by
    subst ho; subst hF
    refine Ct 2 5 ?_ ?_ rfl rfl (by kernel_rfl)
    · refine A4 Try.f13 (U4 w) rfl Try.func13 rfl rfl (Aa rfl Ad) (.cons (.a1 .b (.a1 .n .a0)) .nil) (hd 24 rfl) ?_ (fun ch hp => by simp at hp)
      rintro y hy; injection hy with hy; subst hy
      refine Ai S4_1111000 4 (.cons rfl (.cons rfl (.cons rfl (.cons rfl .nil))))
    · refine Cw (A6 (id := 6) Bx (by decide) rfl (by decide) rfl) (hd 8 rfl) ?_
      refine Ai S4_1101010 4 (.cons rfl (.cons rfl (.cons rfl (.cons rfl .nil))))
  have S4_1100000 : JA Try.prog ops1 5 #[true, true, false, false, false, false, false] Γ ([(22, (qz v)), (23, (qz w))] ++ F0) [(oqz 0 v), (oqz 0 w), (oqn 0), (oqn 0), (oqn 0), (oqz 0 g), oqh] Q1 := by
    subst ho; subst hF; refine Bz 3 [4, 6] (Ao (Ah Bt rfl rfl rfl rfl) (hd 25 rfl)) rfl (by kernel_rfl) (by kernel_rfl) (by kernel_rfl) (by kernel_rfl) hpan ?_
    refine Ai S4_1101000 3 (.cons rfl (.cons rfl (.cons rfl .nil)))
  have S4_1000000 : JA Try.prog ops1 6 #[true, false, false, false, false, false, false] Γ ([(22, (qz v))] ++ F0) [(oqz 0 v), (oqz 0 w), (oqn 0), (oqn 0), (oqn 0), (oqz 0 g), oqh] Q1 := by
    subst ho; subst hF; refine Bz 1 [2, 4, 6] (Ao (Ah Bt rfl rfl rfl rfl) (hd 23 rfl)) rfl (by kernel_rfl) (by kernel_rfl) (by kernel_rfl) (by kernel_rfl) hpan ?_
    refine Ai S4_1100000 2 (.cons rfl (.cons rfl .nil))
  have S4_0000000 : JA Try.prog ops1 7 #[false, false, false, false, false, false, false] Γ ([] ++ F0) [(oqz 0 v), (oqz 0 w), (oqn 0), (oqn 0), (oqn 0), (oqz 0 g), oqh] Q1 := by
    subst ho; subst hF; refine Bz 0 [4, 6] (Ao (Ah Bt rfl rfl rfl rfl) (hd 22 rfl)) rfl (by kernel_rfl) (by kernel_rfl) (by kernel_rfl) (by kernel_rfl) hpan ?_
    refine Ai S4_1000000 1 (.cons rfl .nil)
  subst ho; subst hF
  exact D2 (m := []) (by decide) rfl (Ba 0 rfl rfl .nil) S4_0000000

set_option maxHeartbeats 20000000 in
set_option maxRecDepth 100000 in
theorem Fs (sa sb : Bool) (a b : List Int) (hab : a.length + b.length ≤ 1048572) (ua : A3 a) (ub : A3 b) (g X9 Y9 e : Int) (si wb : Bool) (li wl : List Int) (hll : li.length ≤ 1048576) (hlg : Bm g ≤ 67108864) (hlX : Bm X9 ≤ 67108864) (hlY : Bm Y9 ≤ 67108864) (hBz : Spec Try.prog 7 [.a [.b (decide ((sv sa a) < 0)), .n false .u64 (dg (sv sa a))], .a [.b (decide ((sv sb b) < 0)), .n false .u64 (dg (sv sb b))]] (fun o => o = .ret (.t [.a [.b (decide (g < 0)), .n false .u64 (dg g)], .a [.b (decide (X9 < 0)), .n false .u64 (dg X9)], .a [.b (decide (Y9 < 0)), .n false .u64 (dg Y9)]]))) (hBn : SpecM Try.prog 8 [.a [.b sa, .n false .u64 a], .a [.b sb, .n false .u64 b]] [] (fun o G => o = .ret (.t [.a [.b (decide (g < 0)), .o 0 0 0 (lm g).length], .a [.b (decide (X9 < 0)), .o 1 0 0 (lm X9).length], .a [.b (decide (Y9 < 0)), .o 2 0 0 (lm Y9).length], .i .i64 0]) ∧ G = [⟨79, 1, 0, true, A2 .u64 (lm g)⟩, ⟨79, 1, 0, true, A2 .u64 (lm X9)⟩, ⟨79, 1, 0, true, A2 .u64 (lm Y9)⟩])) (hIn : SpecM Try.prog 14 [.a [.b sa, .n false .u64 a], .a [.b sb, .n false .u64 b]] [] (fun o G => o = .ret (.t [.a [.b si, .o 0 0 0 li.length], .i .i64 e]) ∧ G = [⟨79, 1, 0, true, A2 .u64 li⟩])) (hAl : Spec Try.prog 10 [.a [.b si, .n false .u64 li], .i .i64 e, .a [.b wb, .n false .u64 wl], .i .i64 e] (fun o => o = .ret (.b true))) (hbr : ((sv sb b) = 0 ∧ e = 30 ∧ wb = false ∧ wl = []) ∨ ((sv sb b) ≠ 0 ∧ ((Bm g : Nat) : Int) > 1 ∧ e = 61 ∧ wb = false ∧ wl = []) ∨ ((sv sb b) ≠ 0 ∧ ¬ ((Bm g : Nat) : Int) > 1 ∧ e = 0 ∧ wb = decide (X9 < 0) ∧ wl = dg X9 ∧ Spec Try.prog 12 [.a [.b (decide ((sv sa a) < 0)), .n false .u64 (dg (sv sa a))], .a [.b (decide (((((sv sb b)).natAbs : Nat) : Int) < 0)), .n false .u64 (dg ((((sv sb b)).natAbs : Nat) : Int))], .a [.b (decide (g < 0)), .n false .u64 (dg g)]] (fun o => o = .ret (.a [.b (decide (X9 < 0)), .n false .u64 (dg X9)])))) : Spec Try.prog 3 [.a [.b sa, .n false .u64 a], .a [.b sb, .n false .u64 b]] (fun o => o = .ret (.b true)) := by
  refine Az [(0, .a [.b sa, .n false .u64 a]), (1, .a [.b sb, .n false .u64 b])] rfl Try.func3 rfl (zlb rfl) fun Γ hN hds hL hR => ?_
  have hd := B5 140 hN
  have l9g := Bf (v := g) (by omega)
  have l9X := Bf (v := X9) (by omega)
  have l9Y := Bf (v := Y9) (by omega)
  have d9g := Md hlg
  have d9X := Md hlX
  have d9Y := Md hlY
  refine zsr <| Ay (Br (id := 0) (n := 2) rfl rfl rfl (by decide) rfl) (hd 2 rfl) <| Ay (Br (id := 1) (n := 2) rfl rfl rfl (by decide) rfl) (hd 3 rfl) <| zas rfl (hd 4 rfl) <| Ab <| zsr <| Ac (Ah Wx rfl rfl rfl rfl) (hd 23 rfl) ?_
  refine Aj Try.f5 (Xv sa a (by omega)) rfl Try.func5 rfl rfl (Aa rfl Ad) (.cons (.a1 .b (.a1 .n .a0)) .nil) (hd 24 rfl) ?_ (fun ch hp => by simp at hp)
  rintro _ ⟨⟩; refine zmv rfl (hd 22 rfl) <| Ac (Ak rfl rfl) (hd 25 rfl) <| Ac (Ak rfl rfl) (hd 26 rfl) <| Ay (An (id := 2) At (by decide) rfl (by decide) rfl) (hd 6 rfl) <| zas rfl (hd 5 rfl) <| A1 (Ae rfl rfl rfl Au rfl rfl (zlb rfl)) <| Ab <| zsr <| Ac (Ah Wx rfl rfl rfl rfl) (hd 28 rfl) ?_
  refine Aj Try.f5 (Xv sb b (by omega)) rfl Try.func5 rfl rfl (Aa rfl Ad) (.cons (.a1 .b (.a1 .n .a0)) .nil) (hd 29 rfl) ?_ (fun ch hp => by simp at hp)
  rintro _ ⟨⟩; refine zmv rfl (hd 27 rfl) <| Ac (Ak rfl rfl) (hd 30 rfl) <| Ac (Ak rfl rfl) (hd 31 rfl) <| Ay (An (id := 3) At (by decide) rfl (by decide) rfl) (hd 8 rfl) <| zas rfl (hd 7 rfl) <| A1 (Ae rfl rfl rfl Au rfl rfl (zlb rfl)) <| Ab <| Af <| Cs (H' := [(oqb sa a), (oqb sb b), ⟨27, 2, 0, true, [.b sa, .n true .u64 a]⟩, ⟨27, 2, 0, true, [.b sb, .n true .u64 b]⟩]) rfl <| G0 2 _ <| Be (n := 8) _ rfl B2 ?_; refine Db (fun _ _ _ _ h => h) fun ops1 Q1 F0 hpan ho hq hF => ?_
  have S3_11111111 : JA Try.prog ops1 0 #[true, true, true, true, true, true, true, true] Γ ([(9, .p 4 1 0), (10, .p 5 1 0), (32, .a [.b sa, .n false .u64 a]), (33, (qz (sv sa a))), (34, .a [.b sb, .n false .u64 b]), (35, (qz (sv sb b)))] ++ F0) [(oqb sa a), (oqb sb b), ⟨27, 2, 0, true, [.b sa, .n true .u64 a]⟩, ⟨27, 2, 0, true, [.b sb, .n true .u64 b]⟩, (oqz 1 (sv sa a)), (oqz 1 (sv sb b))] Q1 := by
    subst ho; subst hq; subst hF; refine Bi (by kernel_rfl) <| Af <| Cs (H' := [(oqb sa a), (oqb sb b), ⟨27, 2, 0, true, [.b sa, .n true .u64 a]⟩, ⟨27, 2, 0, true, [.b sb, .n true .u64 b]⟩, (oqz 1 (sv sa a)), (oqz 1 (sv sb b))]) rfl <| Ag <| Ac (Ah Bt rfl rfl rfl rfl) (hd 37 rfl) <| Ac (Ah Bt rfl rfl rfl rfl) (hd 38 rfl) ?_
    refine Aj Try.f7 (hBz) rfl Try.func7 rfl rfl (Aa rfl (Aa rfl Ad)) (.cons (.a1 .b (.a1 .n .a0)) (.cons (.a1 .b (.a1 .n .a0)) .nil)) (hd 39 rfl) ?_ (fun ch hp => by simp at hp)
    rintro _ ⟨⟩; refine zmv rfl (hd 36 rfl) <| Ac (Ak rfl rfl) (hd 40 rfl) <| Ac (Ak rfl rfl) (hd 41 rfl) <| Ac (Ak rfl rfl) (hd 42 rfl) <| Ay (An (id := 6) Bx (by decide) rfl (by decide) rfl) (hd 11 rfl) <| Ay (An (id := 7) Bx (by decide) rfl (by decide) rfl) (hd 12 rfl) <| Ay (An (id := 8) Bx (by decide) rfl (by decide) rfl) (hd 13 rfl) <| A1 (Ae rfl rfl rfl Ca rfl rfl (zlb rfl)) <| A1 (Ae rfl rfl rfl Ca rfl rfl (zlb rfl)) ?_
    as_aux_lemma =>
      refine A1 (Ae rfl rfl rfl Ca rfl rfl (zlb rfl)) <| Ab <| Af <| Cs (H' := [(oqb sa a), (oqb sb b), ⟨27, 2, 0, true, [.b sa, .n true .u64 a]⟩, ⟨27, 2, 0, true, [.b sb, .n true .u64 b]⟩, (oqz 1 (sv sa a)), (oqz 1 (sv sb b)), (oqz 0 g), (oqz 0 X9), (oqz 0 Y9)]) rfl <| Ag <| Ac (Ah Aq rfl rfl rfl rfl) (hd 44 rfl) <| Ac (Ah Aq rfl rfl rfl rfl) (hd 45 rfl) ?_
      refine C9 Try.f8 (hBn) (fun o G ⟨_, h⟩ => h ▸ Al Bc (Al Bc (Al Bc Ar))) rfl Try.func8 rfl rfl (Aa rfl (Aa rfl Ad)) (.cons (.a1 .b (.a1 .n .a0)) (.cons (.a1 .b (.a1 .n .a0)) .nil)) (hd 46 rfl) ?_ (fun ch G hp => by simp at hp)
      rintro y G ⟨hy, rfl⟩; injection hy with hy; subst hy
      show JO _ _ _ _ ((46, .t [.a [.b (decide (g < 0)), .o 9 0 0 (lm g).length], .a [.b (decide (X9 < 0)), .o 10 0 0 (lm X9).length], .a [.b (decide (Y9 < 0)), .o 11 0 0 (lm Y9).length], .i .i64 0]) :: _) _ _
      refine zmv rfl (hd 43 rfl) <| Ac (Ak rfl rfl) (hd 47 rfl) <| Ac (Ak rfl rfl) (hd 48 rfl) <| Ac (Ak rfl rfl) (hd 49 rfl) <| Ac (Ak rfl rfl) (hd 50 rfl) <| Ay (An (id := 12) At (by decide) rfl (by decide) rfl) (hd 14 rfl) <| Ay (An (id := 13) At (by decide) rfl (by decide) rfl) (hd 15 rfl) <| Ay (An (id := 14) At (by decide) rfl (by decide) rfl) (hd 16 rfl) <| A1 (Ae rfl rfl rfl Au rfl rfl (zlb rfl)) ?_
      as_aux_lemma =>
        refine A1 (Ae rfl rfl rfl Au rfl rfl (zlb rfl)) <| A1 (Ae rfl rfl rfl Au rfl rfl (zlb rfl)) <| zas rfl (hd 17 rfl) <| Ab <| zsr <| zas rfl (hd 18 rfl) <| Ab <| Af <| Af <| Cs (H' := [(oqb sa a), (oqb sb b), ⟨27, 2, 0, true, [.b sa, .n true .u64 a]⟩, ⟨27, 2, 0, true, [.b sb, .n true .u64 b]⟩, (oqz 1 (sv sa a)), (oqz 1 (sv sb b)), (oqz 0 g), (oqz 0 X9), (oqz 0 Y9), (oqr g), (oqr X9), (oqr Y9), (oqo 0 9 g), (oqo 0 10 X9), (oqo 0 11 Y9)]) rfl <| Ag <| Ac (Bd Dl rfl rfl rfl) (hd 51 rfl) ?_; refine Ac (A8 Fl rfl rfl rfl) (hd 52 rfl) ?_
        refine Aj Try.f9 (U8 g (by omega)) rfl Try.func9 rfl rfl (Aa rfl Ad) (.cons .n .nil) (hd 53 rfl) ?_ (fun ch hp => by simp at hp)
        rintro _ ⟨⟩; refine Ac (Cd (C0 rfl rfl) (by omega)) (hd 54 rfl) <| zmv rfl (hd 55 rfl) <| Bn 55 rfl rfl (Bd Dl rfl rfl rfl) (hd 56 rfl) <| Bn 55 rfl rfl (A8 Fl rfl rfl rfl) (hd 57 rfl) ?_
        refine Eb Try.f9 55 rfl rfl (U8 X9 (by omega)) rfl Try.func9 rfl rfl (Aa rfl Ad) (.cons .n .nil) (hd 58 rfl) ?_ (fun ch hp => by simp at hp)
        rintro _ ⟨⟩; refine Bn 55 rfl rfl (Cd (C0 rfl rfl) (by omega)) (hd 59 rfl) <| Ac (B9 rfl rfl) (hd 60 rfl) <| zmv rfl (hd 61 rfl) <| Bn 61 rfl rfl (Bd Dl rfl rfl rfl) (hd 62 rfl) ?_
        as_aux_lemma =>
          refine Bn 61 rfl rfl (A8 Fl rfl rfl rfl) (hd 63 rfl) ?_
          refine Eb Try.f9 61 rfl rfl (U8 Y9 (by omega)) rfl Try.func9 rfl rfl (Aa rfl Ad) (.cons .n .nil) (hd 64 rfl) ?_ (fun ch hp => by simp at hp)
          rintro _ ⟨⟩; refine Bn 61 rfl rfl (Cd (C0 rfl rfl) (by omega)) (hd 65 rfl) <| Ac (B9 rfl rfl) (hd 66 rfl) <| Ab <| Bl rfl <| Am <| Af <| zsr <| Ac (Ah Aq rfl rfl rfl rfl) (hd 67 rfl) <| zmv rfl (hd 68 rfl) <| Ac (Ah Bt rfl rfl rfl rfl) (hd 69 rfl) <| zmv rfl (hd 70 rfl) ?_
          refine Fz Try.f10 (J3 g (by omega)) rfl Try.func10 rfl rfl (Aa rfl (Aa rfl (Aa rfl (Aa rfl Ad)))) (.a1 (.a1 .b (.a1 (.o rfl (by simp) (by rw [List.drop_zero, List.take_length])) .a0)) (.a1 .i (.a1 (.a1 .b (.a1 .n .a0)) (.a1 .i .a0)))) (.cons (.a1 .b (.a1 .n .a0)) (.cons .i (.cons (.a1 .b (.a1 .n .a0)) (.cons .i .nil)))) hL (fun y hy => by injection hy with hy; subst hy; rfl) (hd 71 rfl) ?_ (fun ch hp => by simp at hp)
          rintro _ ⟨⟩; refine Ac (Fn rfl) (hd 72 rfl) <| zmv rfl (hd 73 rfl) <| Bn 73 rfl rfl (Ah Aq rfl rfl rfl rfl) (hd 74 rfl) <| Bn 73 rfl rfl (A0 rfl) (hd 75 rfl) <| Bn 73 rfl rfl (Ah Bt rfl rfl rfl rfl) (hd 76 rfl) <| Bn 73 rfl rfl (A0 rfl) (hd 77 rfl) ?_
          refine Kk Try.f10 73 rfl rfl (J3 X9 (by omega)) rfl Try.func10 rfl rfl (Aa rfl (Aa rfl (Aa rfl (Aa rfl Ad)))) (.a1 (.a1 .b (.a1 (.o rfl (by simp) (by rw [List.drop_zero, List.take_length])) .a0)) (.a1 .i (.a1 (.a1 .b (.a1 .n .a0)) (.a1 .i .a0)))) (.cons (.a1 .b (.a1 .n .a0)) (.cons .i (.cons (.a1 .b (.a1 .n .a0)) (.cons .i .nil)))) hL (fun y hy => by injection hy with hy; subst hy; rfl) (hd 78 rfl) ?_ (fun ch hp => by simp at hp)
          rintro y hy; injection hy with hy; subst hy
          as_aux_lemma =>
            refine Bn 73 rfl rfl (Fn rfl) (hd 79 rfl) <| Ac (B9 rfl rfl) (hd 80 rfl) <| zmv rfl (hd 81 rfl) <| Bn 81 rfl rfl (Ah Aq rfl rfl rfl rfl) (hd 82 rfl) <| Bn 81 rfl rfl (A0 rfl) (hd 83 rfl) <| Bn 81 rfl rfl (Ah Bt rfl rfl rfl rfl) (hd 84 rfl) <| Bn 81 rfl rfl (A0 rfl) (hd 85 rfl) ?_
            refine Kk Try.f10 81 rfl rfl (J3 Y9 (by omega)) rfl Try.func10 rfl rfl (Aa rfl (Aa rfl (Aa rfl (Aa rfl Ad)))) (.a1 (.a1 .b (.a1 (.o rfl (by simp) (by rw [List.drop_zero, List.take_length])) .a0)) (.a1 .i (.a1 (.a1 .b (.a1 .n .a0)) (.a1 .i .a0)))) (.cons (.a1 .b (.a1 .n .a0)) (.cons .i (.cons (.a1 .b (.a1 .n .a0)) (.cons .i .nil)))) hL (fun y hy => by injection hy with hy; subst hy; rfl) (hd 86 rfl) ?_ (fun ch hp => by simp at hp)
            rintro _ ⟨⟩; refine Bn 81 rfl rfl (Fn rfl) (hd 87 rfl) <| Ac (B9 rfl rfl) (hd 88 rfl) <| Ab <| Bl rfl <| Am <| zsr <| zas rfl (hd 18 rfl) <| Ab <| zsr <| Ac (B3 (is := []) (xs := []) (pls := []) Bx Kg rfl Ad rfl trivial (Cj rfl) rfl) (hd 89 rfl) <| Tl 89 rfl ?_; refine Ay (An (id := 15) Bx (by decide) rfl (by decide) rfl) (hd 19 rfl) <| A1 (Ae rfl rfl rfl Ca rfl rfl (zlb rfl)) <| Ab ?_
            refine Mf (G := Unit) (fun _ => True) (fun _ => [(18, .i .i64 e), (90, .u), (91, .u), (92, .u), (93, .u), (94, .u), (95, .u), (96, .u), (97, .u), (98, .u), (99, .u), (100, .u), (101, .u)]) (fun _ => [⟨24, 2, 0, true, [.b sa, .n false .u64 a]⟩, ⟨24, 2, 0, true, [.b sb, .n false .u64 b]⟩, ⟨27, 2, 0, true, [.b sa, .n true .u64 a]⟩, ⟨27, 2, 0, true, [.b sb, .n true .u64 b]⟩, ⟨32, 2, 1, true, [.b (decide ((sv sa a) < 0)), .n false .u64 (dg (sv sa a))]⟩, ⟨32, 2, 1, true, [.b (decide ((sv sb b) < 0)), .n false .u64 (dg (sv sb b))]⟩, ⟨32, 2, 0, true, [.b (decide (g < 0)), .n false .u64 (dg g)]⟩, ⟨32, 2, 0, true, [.b (decide (X9 < 0)), .n false .u64 (dg X9)]⟩, ⟨32, 2, 0, true, [.b (decide (Y9 < 0)), .n false .u64 (dg Y9)]⟩, ⟨79, 1, 0, true, A2 .u64 (lm g)⟩, ⟨79, 1, 0, true, A2 .u64 (lm X9)⟩, ⟨79, 1, 0, true, A2 .u64 (lm Y9)⟩, ⟨27, 2, 0, true, [.b (decide (g < 0)), .o 9 0 0 (lm g).length]⟩, ⟨27, 2, 0, true, [.b (decide (X9 < 0)), .o 10 0 0 (lm X9).length]⟩, ⟨27, 2, 0, true, [.b (decide (Y9 < 0)), .o 11 0 0 (lm Y9).length]⟩, ⟨32, 2, 0, true, [.b wb, .n false .u64 wl]⟩]) ?_ ?_
            · refine Af <| Cs (H' := [(oqb sa a), (oqb sb b), ⟨27, 2, 0, true, [.b sa, .n true .u64 a]⟩, ⟨27, 2, 0, true, [.b sb, .n true .u64 b]⟩, (oqz 1 (sv sa a)), (oqz 1 (sv sb b)), (oqz 0 g), (oqz 0 X9), (oqz 0 Y9), (oqr g), (oqr X9), (oqr Y9), (oqo 0 9 g), (oqo 0 10 X9), (oqo 0 11 Y9), ⟨32, 2, 0, true, [.b false, .n false .u64 []]⟩]) rfl <| Ag <| Ac (Ah Bt rfl rfl rfl rfl) (hd 90 rfl) ?_
              refine Aj Try.f11 (H3 (sv sb b)) rfl Try.func11 rfl rfl (Aa rfl Ad) (.cons (.a1 .b (.a1 .n .a0)) .nil) (hd 91 rfl) ?_ (fun ch hp => by simp at hp)
              rintro _ ⟨⟩; refine Ac (Dy rfl rfl) (hd 92 rfl) <| Ab ?_
              refine Bu rfl (fun h3 => ?_) (fun h3 => ?_)
              · have hv0 := Ex.1 h3
                obtain ⟨e1, e2, e3⟩ : e = 30 ∧ wb = false ∧ wl = [] := by
                  rcases hbr with ⟨_, h9⟩ | ⟨h9, _⟩ | ⟨h9, _⟩
                  · exact h9
                  · exact absurd hv0 h9
                  · exact absurd hv0 h9
                subst e1; subst e2; subst e3; refine Ag <| zas rfl (hd 18 rfl) <| Ab ?_
                refine ⟨(), ?_, rfl, Ba 4 rfl rfl ?_⟩
                · trivial
                · exact (.cons rfl (.v9 (.u (.u .nil))))
              · have hv0 : (sv sb b) ≠ 0 := fun h9 => h3 (Ex.2 h9)
                refine zsr <| Ac (Bd Dl rfl rfl rfl) (hd 93 rfl) <| Ac (A8 Fl rfl rfl rfl) (hd 94 rfl) ?_
                refine Aj Try.f9 (U8 g (by omega)) rfl Try.func9 rfl rfl (Aa rfl Ad) (.cons .n .nil) (hd 95 rfl) ?_ (fun ch hp => by simp at hp)
                rintro _ ⟨⟩; refine Ac (C0 rfl rfl) (hd 96 rfl) <| Ab ?_
                refine Bu rfl (fun h4 => ?_) (fun h4 => ?_)
                · obtain ⟨e1, e2, e3⟩ : e = 61 ∧ wb = false ∧ wl = [] := by
                    rcases hbr with ⟨h9, _⟩ | ⟨_, _, h9⟩ | ⟨_, h9, _⟩
                    · exact absurd h9 hv0
                    · exact h9
                    · exact absurd h4 h9
                  subst e1; subst e2; subst e3; refine Ag <| zas rfl (hd 18 rfl) <| Ab ?_
                  refine ⟨(), ?_, rfl, Ba 8 rfl rfl ?_⟩
                  · trivial
                  · exact (.cons rfl (.v9 (.u (.u .nil))))
                · obtain ⟨e1, e2, e3, hIv⟩ : e = 0 ∧ wb = decide (X9 < 0) ∧ wl = dg X9 ∧ Spec Try.prog 12 [.a [.b (decide ((sv sa a) < 0)), .n false .u64 (dg (sv sa a))], .a [.b (decide (((((sv sb b)).natAbs : Nat) : Int) < 0)), .n false .u64 (dg ((((sv sb b)).natAbs : Nat) : Int))], .a [.b (decide (g < 0)), .n false .u64 (dg g)]] (fun o => o = .ret (.a [.b (decide (X9 < 0)), .n false .u64 (dg X9)])) := by
                    rcases hbr with ⟨h9, _⟩ | ⟨_, h9, _⟩ | ⟨_, _, h9⟩
                    · exact absurd h9 hv0
                    · exact absurd h9 h4
                    · exact h9
                  subst e1; subst e2; subst e3; refine Be (n := 6) _ rfl B2 ?_; refine Db (fun _ _ _ _ h => h) fun ops1 Q1 F0 hpan ho hq hF => ?_
                  have S17_111111 : JA Try.prog ops1 0 #[true, true, true, true, true, true] Γ ([(97, (qz (sv sa a))), (98, (qz (sv sb b))), (99, (qz ((((sv sb b)).natAbs : Nat) : Int))), (100, (qz g)), (101, (qz X9))] ++ F0) [(oqb sa a), (oqb sb b), ⟨27, 2, 0, true, [.b sa, .n true .u64 a]⟩, ⟨27, 2, 0, true, [.b sb, .n true .u64 b]⟩, (oqz 1 (sv sa a)), (oqz 1 (sv sb b)), (oqz 0 g), (oqz 0 X9), (oqz 0 Y9), (oqr g), (oqr X9), (oqr Y9), (oqo 0 9 g), (oqo 0 10 X9), (oqo 0 11 Y9), (oqz 0 X9)] Q1 := by
                    subst ho; subst hq; subst hF; refine Bi (by kernel_rfl) ?_
                    refine ⟨(), ?_, rfl, Ba 12 rfl rfl ?_⟩
                    · trivial
                    · exact (.cons rfl (.v9 (.u (.u .nil))))
                  have S17_111110 : JA Try.prog ops1 1 #[true, true, true, true, true, false] Γ ([(97, (qz (sv sa a))), (98, (qz (sv sb b))), (99, (qz ((((sv sb b)).natAbs : Nat) : Int))), (100, (qz g)), (101, (qz X9))] ++ F0) [(oqb sa a), (oqb sb b), ⟨27, 2, 0, true, [.b sa, .n true .u64 a]⟩, ⟨27, 2, 0, true, [.b sb, .n true .u64 b]⟩, (oqz 1 (sv sa a)), (oqz 1 (sv sb b)), (oqz 0 g), (oqz 0 X9), (oqz 0 Y9), (oqr g), (oqr X9), (oqr Y9), (oqo 0 9 g), (oqo 0 10 X9), (oqo 0 11 Y9), ⟨32, 2, 0, true, [.b false, .n false .u64 []]⟩] Q1 := by
                    subst ho; subst hF
                    refine Bb 5 ?_ rfl (by kernel_rfl)
                    refine A7 (Ae rfl rfl rfl Ca rfl rfl (zlb rfl)) rfl ?_
                    refine Ai S17_111111 5 (.cons rfl (.cons rfl (.cons rfl (.cons rfl (.cons rfl .nil)))))
                  have S17_111100 : JA Try.prog ops1 2 #[true, true, true, true, false, false] Γ ([(97, (qz (sv sa a))), (98, (qz (sv sb b))), (99, (qz ((((sv sb b)).natAbs : Nat) : Int))), (100, (qz g))] ++ F0) [(oqb sa a), (oqb sb b), ⟨27, 2, 0, true, [.b sa, .n true .u64 a]⟩, ⟨27, 2, 0, true, [.b sb, .n true .u64 b]⟩, (oqz 1 (sv sa a)), (oqz 1 (sv sb b)), (oqz 0 g), (oqz 0 X9), (oqz 0 Y9), (oqr g), (oqr X9), (oqr Y9), (oqo 0 9 g), (oqo 0 10 X9), (oqo 0 11 Y9), ⟨32, 2, 0, true, [.b false, .n false .u64 []]⟩] Q1 := by
                    subst ho; subst hF
                    refine Bb 4 ?_ rfl (by kernel_rfl)
                    refine A4 Try.f12 (hIv) rfl Try.func12 rfl rfl (Aa rfl (Aa rfl (Aa rfl Ad))) (.cons (.a1 .b (.a1 .n .a0)) (.cons (.a1 .b (.a1 .n .a0)) (.cons (.a1 .b (.a1 .n .a0)) .nil))) (hd 101 rfl) ?_ (fun ch hp => by simp at hp)
                    rintro y hy; injection hy with hy; subst hy
                    refine Ai S17_111110 5 (.cons rfl (.cons rfl (.cons rfl (.cons rfl (.cons rfl .nil)))))
                  have S17_110100 : JA Try.prog ops1 3 #[true, true, false, true, false, false] Γ ([(97, (qz (sv sa a))), (98, (qz (sv sb b))), (100, (qz g))] ++ F0) [(oqb sa a), (oqb sb b), ⟨27, 2, 0, true, [.b sa, .n true .u64 a]⟩, ⟨27, 2, 0, true, [.b sb, .n true .u64 b]⟩, (oqz 1 (sv sa a)), (oqz 1 (sv sb b)), (oqz 0 g), (oqz 0 X9), (oqz 0 Y9), (oqr g), (oqr X9), (oqr Y9), (oqo 0 9 g), (oqo 0 10 X9), (oqo 0 11 Y9), ⟨32, 2, 0, true, [.b false, .n false .u64 []]⟩] Q1 := by
                    subst ho; subst hF
                    refine Bb 2 ?_ rfl (by kernel_rfl)
                    refine A4 Try.f13 (U4 (sv sb b)) rfl Try.func13 rfl rfl (Aa rfl Ad) (.cons (.a1 .b (.a1 .n .a0)) .nil) (hd 99 rfl) ?_ (fun ch hp => by simp at hp)
                    rintro y hy; injection hy with hy; subst hy
                    refine Ai S17_111100 4 (.cons rfl (.cons rfl (.cons rfl (.cons rfl .nil))))
                  have S17_110000 : JA Try.prog ops1 4 #[true, true, false, false, false, false] Γ ([(97, (qz (sv sa a))), (98, (qz (sv sb b)))] ++ F0) [(oqb sa a), (oqb sb b), ⟨27, 2, 0, true, [.b sa, .n true .u64 a]⟩, ⟨27, 2, 0, true, [.b sb, .n true .u64 b]⟩, (oqz 1 (sv sa a)), (oqz 1 (sv sb b)), (oqz 0 g), (oqz 0 X9), (oqz 0 Y9), (oqr g), (oqr X9), (oqr Y9), (oqo 0 9 g), (oqo 0 10 X9), (oqo 0 11 Y9), ⟨32, 2, 0, true, [.b false, .n false .u64 []]⟩] Q1 := by
                    subst ho; subst hF; refine Bz 3 [4, 5] (Ao (Ah Bt rfl rfl rfl rfl) (hd 100 rfl)) rfl (by kernel_rfl) (by kernel_rfl) (by kernel_rfl) (by kernel_rfl) hpan ?_
                    refine Ai S17_110100 3 (.cons rfl (.cons rfl (.cons rfl .nil)))
                  have S17_100000 : JA Try.prog ops1 5 #[true, false, false, false, false, false] Γ ([(97, (qz (sv sa a)))] ++ F0) [(oqb sa a), (oqb sb b), ⟨27, 2, 0, true, [.b sa, .n true .u64 a]⟩, ⟨27, 2, 0, true, [.b sb, .n true .u64 b]⟩, (oqz 1 (sv sa a)), (oqz 1 (sv sb b)), (oqz 0 g), (oqz 0 X9), (oqz 0 Y9), (oqr g), (oqr X9), (oqr Y9), (oqo 0 9 g), (oqo 0 10 X9), (oqo 0 11 Y9), ⟨32, 2, 0, true, [.b false, .n false .u64 []]⟩] Q1 := by
                    subst ho; subst hF; refine Bz 1 [2, 4, 5] (Ao (Ah Bt rfl rfl rfl rfl) (hd 98 rfl)) rfl (by kernel_rfl) (by kernel_rfl) (by kernel_rfl) (by kernel_rfl) hpan ?_
                    refine Ai S17_110000 2 (.cons rfl (.cons rfl .nil))
                  have S17_000000 : JA Try.prog ops1 6 #[false, false, false, false, false, false] Γ ([] ++ F0) [(oqb sa a), (oqb sb b), ⟨27, 2, 0, true, [.b sa, .n true .u64 a]⟩, ⟨27, 2, 0, true, [.b sb, .n true .u64 b]⟩, (oqz 1 (sv sa a)), (oqz 1 (sv sb b)), (oqz 0 g), (oqz 0 X9), (oqz 0 Y9), (oqr g), (oqr X9), (oqr Y9), (oqo 0 9 g), (oqo 0 10 X9), (oqo 0 11 Y9), ⟨32, 2, 0, true, [.b false, .n false .u64 []]⟩] Q1 := by
                    subst ho; subst hF; refine Bz 0 [4, 5] (Ao (Ah Bt rfl rfl rfl rfl) (hd 97 rfl)) rfl (by kernel_rfl) (by kernel_rfl) (by kernel_rfl) (by kernel_rfl) hpan ?_
                    refine Ai S17_100000 1 (.cons rfl .nil)
                  subst ho; subst hF
                  exact D2 (m := []) (by decide) rfl (Ba 0 rfl rfl .nil) S17_000000
            · rintro _ _; refine Af <| Cs (H' := [(oqb sa a), (oqb sb b), ⟨27, 2, 0, true, [.b sa, .n true .u64 a]⟩, ⟨27, 2, 0, true, [.b sb, .n true .u64 b]⟩, (oqz 1 (sv sa a)), (oqz 1 (sv sb b)), (oqz 0 g), (oqz 0 X9), (oqz 0 Y9), (oqr g), (oqr X9), (oqr Y9), (oqo 0 9 g), (oqo 0 10 X9), (oqo 0 11 Y9), ⟨32, 2, 0, true, [.b wb, .n false .u64 wl]⟩]) rfl <| Ag <| Ac (Ah Aq rfl rfl rfl rfl) (hd 103 rfl) <| Ac (Ah Aq rfl rfl rfl rfl) (hd 104 rfl) ?_
              refine C9 Try.f14 (hIn) (fun o G ⟨_, h⟩ => h ▸ Al Bc Ar) rfl Try.func14 rfl rfl (Aa rfl (Aa rfl Ad)) (.cons (.a1 .b (.a1 .n .a0)) (.cons (.a1 .b (.a1 .n .a0)) .nil)) (hd 105 rfl) ?_ (fun ch G hp => by simp at hp)
              rintro y G ⟨hy, rfl⟩; injection hy with hy; subst hy
              show JO _ _ _ _ ((105, .t [.a [.b si, .o 16 0 0 li.length], .i .i64 e]) :: _) _ _
              refine zmv rfl (hd 102 rfl) <| Ac (Ak rfl rfl) (hd 106 rfl) <| Ac (Ak rfl rfl) (hd 107 rfl) <| Ay (An (id := 17) At (by decide) rfl (by decide) rfl) (hd 20 rfl) <| A1 (Ae rfl rfl rfl Au rfl rfl (zlb rfl)) <| zas rfl (hd 21 rfl) <| Ab <| zsr <| Ac (Ah Aq rfl rfl rfl rfl) (hd 108 rfl) <| zmv rfl (hd 109 rfl) <| Ac (Ah Bt rfl rfl rfl rfl) (hd 110 rfl) <| zmv rfl (hd 111 rfl) ?_
              refine Fz Try.f10 (hAl) rfl Try.func10 rfl rfl (Aa rfl (Aa rfl (Aa rfl (Aa rfl Ad)))) (.a1 (.a1 .b (.a1 (.o rfl (by simp) (by rw [List.drop_zero, List.take_length])) .a0)) (.a1 .i (.a1 (.a1 .b (.a1 .n .a0)) (.a1 .i .a0)))) (.cons (.a1 .b (.a1 .n .a0)) (.cons .i (.cons (.a1 .b (.a1 .n .a0)) (.cons .i .nil)))) hL (fun y hy => by injection hy with hy; subst hy; rfl) (hd 112 rfl) ?_ (fun ch hp => by simp at hp)
              rintro _ ⟨⟩; refine zmv rfl (hd 113 rfl) <| Bn 113 rfl rfl (Bd Bp rfl rfl rfl) (hd 114 rfl) <| Bn 113 rfl rfl (A8 Ce rfl rfl rfl) (hd 115 rfl) <| Bn 113 rfl rfl (Bd Bp rfl rfl rfl) (hd 116 rfl) <| Bn 113 rfl rfl (A8 Ce rfl rfl rfl) (hd 117 rfl) <| Bn 113 rfl rfl (Bd Bp rfl rfl rfl) (hd 118 rfl) <| Bn 113 rfl rfl (A8 Ce rfl rfl rfl) (hd 119 rfl) ?_
              as_aux_lemma =>
                refine Bn 113 rfl rfl (Bd Bp rfl rfl rfl) (hd 120 rfl) <| Bn 113 rfl rfl (A8 Ce rfl rfl rfl) (hd 121 rfl) <| Aep 113 rfl rfl (Hs (id := 18) (xs := [.tmp 115, .tmp 117, .tmp 119, .tmp 121]) Agj rfl (Aa rfl (Aa rfl (Aa rfl (Aa rfl Ad)))) rfl (F3 rfl) (by decide) rfl) (hd 122 rfl) ?_
                refine Tn Try.f15 113 rfl rfl (sel := [18, 9, 10, 11, 16]) (Ae2 4 (by decide) (Aee [(lm g), (lm X9), (lm Y9), li]) (fun j _ => Vw (by simp <;> omega) (by decide) j)) rfl Try.func15 rfl rfl (Aa rfl Ad) rfl rfl (.cons rfl rfl (.cons rfl (D5 _ _ _) (.cons rfl (D5 _ _ _) (.cons rfl (D5 _ _ _) (.cons rfl (D5 _ _ _) .nil))))) (by decide) Acb V5 (fun y G h => by cases h; rfl) (hd 123 rfl) ?_ (fun ch G hp => by cases hp)
                rintro y G hy; injection hy with hy; subst hy; refine Ac (Cg rfl rfl) (hd 124 rfl) <| zmv rfl (hd 125 rfl) <| Bn 125 rfl rfl (A0 rfl) (hd 126 rfl) <| Bn 125 rfl rfl (Bd Mg rfl rfl rfl) (hd 127 rfl) <| Bn 125 rfl rfl (A8 Od rfl rfl rfl) (hd 128 rfl) ?_
                refine Eb Try.f16 125 rfl rfl (Yi a (by omega)) rfl Try.func16 rfl rfl (Aa rfl (Aa rfl Ad)) (.cons .n (.cons .n .nil)) (hd 129 rfl) ?_ (fun ch hp => by simp at hp)
                rintro _ ⟨⟩; refine Ac (Cg rfl rfl) (hd 130 rfl) <| zmv rfl (hd 131 rfl) ?_
                as_aux_lemma =>
                  refine Bn 131 rfl rfl (A0 rfl) (hd 132 rfl) <| Bn 131 rfl rfl (Bd Mg rfl rfl rfl) (hd 133 rfl) <| Bn 131 rfl rfl (A8 Od rfl rfl rfl) (hd 134 rfl) ?_
                  refine Eb Try.f16 131 rfl rfl (Yi b (by omega)) rfl Try.func16 rfl rfl (Aa rfl (Aa rfl Ad)) (.cons .n (.cons .n .nil)) (hd 135 rfl) ?_ (fun ch hp => by simp at hp)
                  rintro _ ⟨⟩; refine Ac (Cg rfl rfl) (hd 136 rfl) <| zmv rfl (hd 137 rfl) ?_
                  refine Eb Try.f17 137 rfl rfl (Aaq) rfl Try.func17 rfl rfl Ad .nil (hd 138 rfl) ?_ (fun ch hp => by simp at hp)
                  rintro _ ⟨⟩; refine Ac (Cg rfl rfl) (hd 139 rfl) <| zas rfl (hd 4 rfl) <| Ab <| As ?_
                  refine ⟨_, _, (.cons rfl .nil), .b, ?_⟩
                  exact rfl
  have S3_11111110 : JA Try.prog ops1 1 #[true, true, true, true, true, true, true, false] Γ ([(9, .p 4 1 0), (10, .p 5 1 0), (32, .a [.b sa, .n false .u64 a]), (33, (qz (sv sa a))), (34, .a [.b sb, .n false .u64 b]), (35, (qz (sv sb b)))] ++ F0) [(oqb sa a), (oqb sb b), ⟨27, 2, 0, true, [.b sa, .n true .u64 a]⟩, ⟨27, 2, 0, true, [.b sb, .n true .u64 b]⟩, (oqz 1 (sv sa a)), (oqn 1)] Q1 := by
    subst ho; subst hF
    refine Bb 7 ?_ rfl (by kernel_rfl)
    refine A7 (Ae rfl rfl rfl Ca rfl rfl (zlb rfl)) rfl ?_
    refine Ai S3_11111111 6 (.cons rfl (.cons rfl (.cons rfl (.cons rfl (.cons rfl (.cons rfl .nil))))))
  have S3_11111100 : JA Try.prog ops1 2 #[true, true, true, true, true, true, false, false] Γ ([(9, .p 4 1 0), (10, .p 5 1 0), (32, .a [.b sa, .n false .u64 a]), (33, (qz (sv sa a))), (34, .a [.b sb, .n false .u64 b]), (35, (qz (sv sb b)))] ++ F0) [(oqb sa a), (oqb sb b), ⟨27, 2, 0, true, [.b sa, .n true .u64 a]⟩, ⟨27, 2, 0, true, [.b sb, .n true .u64 b]⟩, (oqn 1), (oqn 1)] Q1 := by
    subst ho; subst hF
    refine Bb 6 ?_ rfl (by kernel_rfl)
    refine A7 (Ae rfl rfl rfl Ca rfl rfl (zlb rfl)) rfl ?_
    refine Ai S3_11111110 6 (.cons rfl (.cons rfl (.cons rfl (.cons rfl (.cons rfl (.cons rfl .nil))))))
  have S3_11111000 : JA Try.prog ops1 3 #[true, true, true, true, true, false, false, false] Γ ([(9, .p 4 1 0), (32, .a [.b sa, .n false .u64 a]), (33, (qz (sv sa a))), (34, .a [.b sb, .n false .u64 b]), (35, (qz (sv sb b)))] ++ F0) [(oqb sa a), (oqb sb b), ⟨27, 2, 0, true, [.b sa, .n true .u64 a]⟩, ⟨27, 2, 0, true, [.b sb, .n true .u64 b]⟩, (oqn 1), oqh] Q1 := by
    subst ho; subst hF
    refine Bb 5 ?_ rfl (by kernel_rfl)
    refine Cw (A6 (id := 5) Bx (by decide) rfl (by decide) rfl) (hd 10 rfl) ?_
    refine Ai S3_11111100 6 (.cons rfl (.cons rfl (.cons rfl (.cons rfl (.cons rfl (.cons rfl .nil))))))
  have S3_11110100 : JA Try.prog ops1 3 #[true, true, true, true, false, true, false, false] Γ ([(10, .p 5 1 0), (32, .a [.b sa, .n false .u64 a]), (33, (qz (sv sa a))), (34, .a [.b sb, .n false .u64 b]), (35, (qz (sv sb b)))] ++ F0) [(oqb sa a), (oqb sb b), ⟨27, 2, 0, true, [.b sa, .n true .u64 a]⟩, ⟨27, 2, 0, true, [.b sb, .n true .u64 b]⟩, oqh, (oqn 1)] Q1 := by
    subst ho; subst hF
    refine Bb 4 ?_ rfl (by kernel_rfl)
    refine Cw (A6 (id := 4) Bx (by decide) rfl (by decide) rfl) (hd 9 rfl) ?_
    refine Ai S3_11111100 6 (.cons rfl (.cons rfl (.cons rfl (.cons rfl (.cons rfl (.cons rfl .nil))))))
  have S3_11110000 : JA Try.prog ops1 4 #[true, true, true, true, false, false, false, false] Γ ([(32, .a [.b sa, .n false .u64 a]), (33, (qz (sv sa a))), (34, .a [.b sb, .n false .u64 b]), (35, (qz (sv sb b)))] ++ F0) [(oqb sa a), (oqb sb b), ⟨27, 2, 0, true, [.b sa, .n true .u64 a]⟩, ⟨27, 2, 0, true, [.b sb, .n true .u64 b]⟩, oqh, oqh] Q1 := by
    subst ho; subst hF
    refine Ct 4 5 ?_ ?_ rfl rfl (by kernel_rfl)
    · refine Cw (A6 (id := 4) Bx (by decide) rfl (by decide) rfl) (hd 9 rfl) ?_
      refine Ai S3_11111000 5 (.cons rfl (.cons rfl (.cons rfl (.cons rfl (.cons rfl .nil)))))
    · refine Cw (A6 (id := 5) Bx (by decide) rfl (by decide) rfl) (hd 10 rfl) ?_
      refine Ai S3_11110100 5 (.cons rfl (.cons rfl (.cons rfl (.cons rfl (.cons rfl .nil)))))
  have S3_11101100 : JA Try.prog ops1 3 #[true, true, true, false, true, true, false, false] Γ ([(9, .p 4 1 0), (10, .p 5 1 0), (32, .a [.b sa, .n false .u64 a]), (33, (qz (sv sa a))), (34, .a [.b sb, .n false .u64 b])] ++ F0) [(oqb sa a), (oqb sb b), ⟨27, 2, 0, true, [.b sa, .n true .u64 a]⟩, ⟨27, 2, 0, true, [.b sb, .n true .u64 b]⟩, (oqn 1), (oqn 1)] Q1 := by
    subst ho; subst hF
    refine Bb 3 ?_ rfl (by kernel_rfl)
    refine A4 Try.f6 (Xp sb b (by omega) ub) rfl Try.func6 rfl rfl (Aa rfl Ad) (.cons (.a1 .b (.a1 .n .a0)) .nil) (hd 35 rfl) ?_ (fun ch hp => by simp at hp)
    rintro y hy; injection hy with hy; subst hy
    refine Ai S3_11111100 6 (.cons rfl (.cons rfl (.cons rfl (.cons rfl (.cons rfl (.cons rfl .nil))))))
  have S3_11101000 : JA Try.prog ops1 4 #[true, true, true, false, true, false, false, false] Γ ([(9, .p 4 1 0), (32, .a [.b sa, .n false .u64 a]), (33, (qz (sv sa a))), (34, .a [.b sb, .n false .u64 b])] ++ F0) [(oqb sa a), (oqb sb b), ⟨27, 2, 0, true, [.b sa, .n true .u64 a]⟩, ⟨27, 2, 0, true, [.b sb, .n true .u64 b]⟩, (oqn 1), oqh] Q1 := by
    subst ho; subst hF
    refine Ct 3 5 ?_ ?_ rfl rfl (by kernel_rfl)
    · refine A4 Try.f6 (Xp sb b (by omega) ub) rfl Try.func6 rfl rfl (Aa rfl Ad) (.cons (.a1 .b (.a1 .n .a0)) .nil) (hd 35 rfl) ?_ (fun ch hp => by simp at hp)
      rintro y hy; injection hy with hy; subst hy
      refine Ai S3_11111000 5 (.cons rfl (.cons rfl (.cons rfl (.cons rfl (.cons rfl .nil)))))
    · refine Cw (A6 (id := 5) Bx (by decide) rfl (by decide) rfl) (hd 10 rfl) ?_
      refine Ai S3_11101100 5 (.cons rfl (.cons rfl (.cons rfl (.cons rfl (.cons rfl .nil)))))
  have S3_11100100 : JA Try.prog ops1 4 #[true, true, true, false, false, true, false, false] Γ ([(10, .p 5 1 0), (32, .a [.b sa, .n false .u64 a]), (33, (qz (sv sa a))), (34, .a [.b sb, .n false .u64 b])] ++ F0) [(oqb sa a), (oqb sb b), ⟨27, 2, 0, true, [.b sa, .n true .u64 a]⟩, ⟨27, 2, 0, true, [.b sb, .n true .u64 b]⟩, oqh, (oqn 1)] Q1 := by
    subst ho; subst hF
    refine Ct 3 4 ?_ ?_ rfl rfl (by kernel_rfl)
    · refine A4 Try.f6 (Xp sb b (by omega) ub) rfl Try.func6 rfl rfl (Aa rfl Ad) (.cons (.a1 .b (.a1 .n .a0)) .nil) (hd 35 rfl) ?_ (fun ch hp => by simp at hp)
      rintro y hy; injection hy with hy; subst hy
      refine Ai S3_11110100 5 (.cons rfl (.cons rfl (.cons rfl (.cons rfl (.cons rfl .nil)))))
    · refine Cw (A6 (id := 4) Bx (by decide) rfl (by decide) rfl) (hd 9 rfl) ?_
      refine Ai S3_11101100 5 (.cons rfl (.cons rfl (.cons rfl (.cons rfl (.cons rfl .nil)))))
  have S3_11100000 : JA Try.prog ops1 5 #[true, true, true, false, false, false, false, false] Γ ([(32, .a [.b sa, .n false .u64 a]), (33, (qz (sv sa a))), (34, .a [.b sb, .n false .u64 b])] ++ F0) [(oqb sa a), (oqb sb b), ⟨27, 2, 0, true, [.b sa, .n true .u64 a]⟩, ⟨27, 2, 0, true, [.b sb, .n true .u64 b]⟩, oqh, oqh] Q1 := by
    subst ho; subst hF
    refine Rc 3 4 5 ?_ ?_ ?_ rfl rfl rfl (by kernel_rfl)
    · refine A4 Try.f6 (Xp sb b (by omega) ub) rfl Try.func6 rfl rfl (Aa rfl Ad) (.cons (.a1 .b (.a1 .n .a0)) .nil) (hd 35 rfl) ?_ (fun ch hp => by simp at hp)
      rintro y hy; injection hy with hy; subst hy
      refine Ai S3_11110000 4 (.cons rfl (.cons rfl (.cons rfl (.cons rfl .nil))))
    · refine Cw (A6 (id := 4) Bx (by decide) rfl (by decide) rfl) (hd 9 rfl) ?_
      refine Ai S3_11101000 4 (.cons rfl (.cons rfl (.cons rfl (.cons rfl .nil))))
    · refine Cw (A6 (id := 5) Bx (by decide) rfl (by decide) rfl) (hd 10 rfl) ?_
      refine Ai S3_11100100 4 (.cons rfl (.cons rfl (.cons rfl (.cons rfl .nil))))
  have S3_10101100 : JA Try.prog ops1 4 #[true, false, true, false, true, true, false, false] Γ ([(9, .p 4 1 0), (10, .p 5 1 0), (32, .a [.b sa, .n false .u64 a]), (34, .a [.b sb, .n false .u64 b])] ++ F0) [(oqb sa a), (oqb sb b), ⟨27, 2, 0, true, [.b sa, .n true .u64 a]⟩, ⟨27, 2, 0, true, [.b sb, .n true .u64 b]⟩, (oqn 1), (oqn 1)] Q1 := by
    subst ho; subst hF
    refine Bb 1 ?_ rfl (by kernel_rfl)
    refine A4 Try.f6 (Xp sa a (by omega) ua) rfl Try.func6 rfl rfl (Aa rfl Ad) (.cons (.a1 .b (.a1 .n .a0)) .nil) (hd 33 rfl) ?_ (fun ch hp => by simp at hp)
    rintro y hy; injection hy with hy; subst hy
    refine Ai S3_11101100 5 (.cons rfl (.cons rfl (.cons rfl (.cons rfl (.cons rfl .nil)))))
  have S3_10101000 : JA Try.prog ops1 5 #[true, false, true, false, true, false, false, false] Γ ([(9, .p 4 1 0), (32, .a [.b sa, .n false .u64 a]), (34, .a [.b sb, .n false .u64 b])] ++ F0) [(oqb sa a), (oqb sb b), ⟨27, 2, 0, true, [.b sa, .n true .u64 a]⟩, ⟨27, 2, 0, true, [.b sb, .n true .u64 b]⟩, (oqn 1), oqh] Q1 := by
    subst ho; subst hF
    refine Ct 1 5 ?_ ?_ rfl rfl (by kernel_rfl)
    · refine A4 Try.f6 (Xp sa a (by omega) ua) rfl Try.func6 rfl rfl (Aa rfl Ad) (.cons (.a1 .b (.a1 .n .a0)) .nil) (hd 33 rfl) ?_ (fun ch hp => by simp at hp)
      rintro y hy; injection hy with hy; subst hy
      refine Ai S3_11101000 4 (.cons rfl (.cons rfl (.cons rfl (.cons rfl .nil))))
    · refine Cw (A6 (id := 5) Bx (by decide) rfl (by decide) rfl) (hd 10 rfl) ?_
      refine Ai S3_10101100 4 (.cons rfl (.cons rfl (.cons rfl (.cons rfl .nil))))
  have S3_10100100 : JA Try.prog ops1 5 #[true, false, true, false, false, true, false, false] Γ ([(10, .p 5 1 0), (32, .a [.b sa, .n false .u64 a]), (34, .a [.b sb, .n false .u64 b])] ++ F0) [(oqb sa a), (oqb sb b), ⟨27, 2, 0, true, [.b sa, .n true .u64 a]⟩, ⟨27, 2, 0, true, [.b sb, .n true .u64 b]⟩, oqh, (oqn 1)] Q1 := by
    subst ho; subst hF
    refine Ct 1 4 ?_ ?_ rfl rfl (by kernel_rfl)
    · refine A4 Try.f6 (Xp sa a (by omega) ua) rfl Try.func6 rfl rfl (Aa rfl Ad) (.cons (.a1 .b (.a1 .n .a0)) .nil) (hd 33 rfl) ?_ (fun ch hp => by simp at hp)
      rintro y hy; injection hy with hy; subst hy
      refine Ai S3_11100100 4 (.cons rfl (.cons rfl (.cons rfl (.cons rfl .nil))))
    · refine Cw (A6 (id := 4) Bx (by decide) rfl (by decide) rfl) (hd 9 rfl) ?_
      refine Ai S3_10101100 4 (.cons rfl (.cons rfl (.cons rfl (.cons rfl .nil))))
  have S3_10100000 : JA Try.prog ops1 6 #[true, false, true, false, false, false, false, false] Γ ([(32, .a [.b sa, .n false .u64 a]), (34, .a [.b sb, .n false .u64 b])] ++ F0) [(oqb sa a), (oqb sb b), ⟨27, 2, 0, true, [.b sa, .n true .u64 a]⟩, ⟨27, 2, 0, true, [.b sb, .n true .u64 b]⟩, oqh, oqh] Q1 := by
    subst ho; subst hF
    refine Rc 1 4 5 ?_ ?_ ?_ rfl rfl rfl (by kernel_rfl)
    · refine A4 Try.f6 (Xp sa a (by omega) ua) rfl Try.func6 rfl rfl (Aa rfl Ad) (.cons (.a1 .b (.a1 .n .a0)) .nil) (hd 33 rfl) ?_ (fun ch hp => by simp at hp)
      rintro y hy; injection hy with hy; subst hy
      refine Ai S3_11100000 3 (.cons rfl (.cons rfl (.cons rfl .nil)))
    · refine Cw (A6 (id := 4) Bx (by decide) rfl (by decide) rfl) (hd 9 rfl) ?_
      refine Ai S3_10101000 3 (.cons rfl (.cons rfl (.cons rfl .nil)))
    · refine Cw (A6 (id := 5) Bx (by decide) rfl (by decide) rfl) (hd 10 rfl) ?_
      refine Ai S3_10100100 3 (.cons rfl (.cons rfl (.cons rfl .nil)))
  have S3_10000000 : JA Try.prog ops1 7 #[true, false, false, false, false, false, false, false] Γ ([(32, .a [.b sa, .n false .u64 a])] ++ F0) [(oqb sa a), (oqb sb b), ⟨27, 2, 0, true, [.b sa, .n true .u64 a]⟩, ⟨27, 2, 0, true, [.b sb, .n true .u64 b]⟩, oqh, oqh] Q1 := by
    subst ho; subst hF; refine Bz 2 [3, 6, 7] (Ao (Ah Wx rfl rfl rfl rfl) (hd 34 rfl)) rfl (by kernel_rfl) (by kernel_rfl) (by kernel_rfl) (by kernel_rfl) hpan ?_
    refine Ai S3_10100000 2 (.cons rfl (.cons rfl .nil))
  have S3_00000000 : JA Try.prog ops1 8 #[false, false, false, false, false, false, false, false] Γ ([] ++ F0) [(oqb sa a), (oqb sb b), ⟨27, 2, 0, true, [.b sa, .n true .u64 a]⟩, ⟨27, 2, 0, true, [.b sb, .n true .u64 b]⟩, oqh, oqh] Q1 := by
    subst ho; subst hF; refine Bz 0 [1, 3, 6, 7] (Ao (Ah Wx rfl rfl rfl rfl) (hd 32 rfl)) rfl (by kernel_rfl) (by kernel_rfl) (by kernel_rfl) (by kernel_rfl) hpan ?_
    refine Ai S3_10000000 1 (.cons rfl .nil)
  subst ho; subst hF
  exact D2 (m := []) (by decide) rfl (Ba 0 rfl rfl .nil) S3_00000000

theorem WholeDivisors_s0 (sa sb : Bool) (a b : List Int) (hab : a.length + b.length ≤ 1048572) (ua : A3 a) (ub : A3 b) : Spec Try.prog 3 [.a [.b sa, .n false .u64 a], .a [.b sb, .n false .u64 b]] (fun o => o = .ret (.b true)) := by
  have hA := Oh (s := sa) ua
  have hB := Oh (s := sb) ub
  have da := Uk (s := sa) ua rfl
  have db := Uk (s := sb) ub rfl
  have hAe : ∀ f : Int, f ≠ 0 → Spec Try.prog 10 [.a [.b false, .n false .u64 []], .i .i64 f, .a [.b false, .n false .u64 []], .i .i64 f] (fun o => o = .ret (.b true)) := fun f hf => by
    have h := U0 0 f hf
    rwa [show dg 0 = [] from Dg, show decide ((0 : Int) < 0) = false from rfl] at h
  by_cases h0 : (sv sb b) = 0
  · have hsr := Ib (sv sa a)
    refine Fs sa sb a b hab ua ub (((sv sa a).natAbs : Nat) : Int) (Cb (sv sa a)) 0 30 false false [] [] (by decide) (by rw [Hb]; omega) (Nat.le_trans (C2.2 (show (Cb (sv sa a)).natAbs < 2 ^ 1 by omega)) (by decide)) (by decide +kernel) ?_ ?_ (Rb sa sb a b (sv sa a) (by omega) (by omega) ua ub rfl h0 (by omega)) (hAe 30 (by decide)) (.inl ⟨h0, rfl, rfl, rfl⟩)
    · rw [h0]; exact Su (sv sa a) (((sv sa a).natAbs : Nat) : Int) (by omega) (by rw [show (0 : Int).natAbs = 0 from rfl, Nat.gcd_zero_right])
    · rw [show lm 0 = [] from Xt, Pv, show decide ((((sv sa a).natAbs : Nat) : Int) < 0) = false from decide_eq_false (by omega)]
      exact Vf sa sb a b (sv sa a) (by omega) (by omega) ua ub rfl h0 (by omega)
  · obtain ⟨g, x, hE⟩ := Adg (a := (sv sa a)) h0
    have hg0 := hE.ne h0
    have hgn := hE.g0
    obtain ⟨hb1, hb2, hb3⟩ := Fc hE h0
    have hXb := G1 (v := x) hb1
    have hlX : Bm (x % qn (sv sb b) g) ≤ Bm (sv sb b) := A5 (by omega)
    have hlg : Bm g ≤ Bm (sv sb b) := A5 (hE.le h0)
    have hm1 := G9 (sv sa a) (x % qn (sv sb b) g)
    have hm2 := Jx g ((sv sa a) * (x % qn (sv sb b) g))
    have hYl := (Hi (k := 0) (v := g - (sv sa a) * (x % qn (sv sb b) g)) h0).1
    have hBz := Ss (sv sa a) (sv sb b) g x (by omega) (by omega) h0 hE hE.gcd
    have hBn := W2 sa sb a b (sv sa a) (sv sb b) (by omega) (by omega) ua ub rfl rfl (by omega) h0 g x hE
    have hg1i := Acr hgn hg0
    by_cases hg : g = 1
    · have hIn := Ra sa sb a b (sv sa a) (sv sb b) (by omega) (by omega) ua ub rfl rfl (by omega) h0 g x hE hg
      have l9 := Bf (v := (x % qn (sv sb b) g)) (by omega)
      exact Fs sa sb a b hab ua ub g (x % qn (sv sb b) g) (wq 0 (g - (sv sa a) * (x % qn (sv sb b) g)) (sv sb b)) 0 (decide ((x % qn (sv sb b) g) < 0)) (decide ((x % qn (sv sb b) g) < 0)) (lm (x % qn (sv sb b) g)) (dg (x % qn (sv sb b) g)) l9 (by omega) (by omega) (by omega) hBz hBn hIn (J3 (x % qn (sv sb b) g) (by omega)) (.inr (.inr ⟨h0, by omega, rfl, rfl, rfl, K5 (sv sa a) (sv sb b) g x (by omega) (by omega) h0 hE⟩))
    · exact Fs sa sb a b hab ua ub g (x % qn (sv sb b) g) (wq 0 (g - (sv sa a) * (x % qn (sv sb b) g)) (sv sb b)) 61 false false [] [] (by decide) (by omega) (by omega) (by omega) hBz hBn (Oy sa sb a b (sv sa a) (sv sb b) (by omega) (by omega) ua ub rfl rfl (by omega) h0 g x hE hg) (hAe 61 (by decide)) (.inr (.inl ⟨h0, by omega, rfl, rfl, rfl⟩))
end Go.Proofs.Ythbbbopbglbagaa.Vc

namespace Go.Proofs.Ythbbbopbglbagaa.wholeDivisors
open Go Go.ChangeShapes Go.WideShapes Go.ChangeAt Go.RowKit
open Go.ChangeMaps (open_string shut_string)

theorem own : ownKnob Try.prog.godebug = none := by kernel_rfl
theorem laidOut : laidOutB Try.prog = true := by kernel_rfl
set_option maxRecDepth 100000 in
theorem lifted (os : Os) (started : os.Started) (H : Type) (enc : TypeId × Value → H) (F : Stop.Interp) :
    ReturnsInHanded {} Try.checked os 3 .any ((Rows.OpenSpec.upto Rows.wholeDivisorsSpec).pre6 enc Try.prog Try.f3 Rows.wholeDivisorsUptoRow.domain false) (((Rows.OpenSpec.upto Rows.wholeDivisorsSpec).at F).post enc Try.prog Try.f3 false true false false) := by
  refine returnsInHanded_of_cond (C := Try.checked) (s := Rows.OpenSpec.upto Rows.wholeDivisorsSpec) (k := Rows.uptoSmall) rfl own started (by kernel_rfl) Try.func3
    (OpenSpec.witness (enc := enc) (C := Try.checked) (s := Rows.OpenSpec.upto Rows.wholeDivisorsSpec) (k := Rows.uptoSmall) rfl false ⟨#[], #[.agg #[.bool false, .slice none 0 0], .agg #[.bool false, .slice none 0 0]], []⟩ 8 (by kernel_rfl) (by kernel_rfl) (by kernel_rfl)
      (x := ([.agg [.lit (.bool false), .nil], .agg [.lit (.bool false), .nil]], [], [])) (by kernel_rfl) rfl (by kernel_rfl)) ?_
  intro W base args ds gs before hval0 hW _ hk _
  have hval : ∀ (j : Nat) t v, Try.f3.params[j]? = some t → args[j]? = some v → Value.okWide Try.prog W .any base t v := hval0
  have hW' := hW
  obtain ⟨p, q, hA0, hV, rfl, hfz, hnd⟩ := hW
  have hA : DataW.TrodAll enc Try.prog W 0 (fun _ => true) true Try.f3.params.toList args.toList ds p := hA0
  rw [Try.params3] at hA hval
  obtain ⟨v0, vs0, d0, ds0, p0, q0, hargs, rfl, rfl, h0, r0⟩ := trodAll_cons hA
  obtain ⟨v1, vs1, d1, ds1, p1, q1, rfl, rfl, rfl, h1, r1⟩ := trodAll_cons r0
  obtain ⟨rfl, rfl, rfl⟩ := trodAll_nil r1
  obtain rfl : args = #[v0, v1] := by cases args; simp_all
  obtain ⟨rfl, rfl⟩ := trodVars_none hV
  have hk0 := h0
  obtain ⟨s0, l0, rel0, hb0, ul0⟩ := Vc.openW (hval 0 24 v0 rfl rfl) h0
  have hk1 := h1
  obtain ⟨s1, l1, rel1, hb1, ul1⟩ := Vc.openW (hval 1 24 v1 rfl rfl) h1
  clear hA0 hval0
  simp only [List.append_nil] at hW' hk
  refine (Vc.spec_calls (vals := [v0, v1]) (Vc.WholeDivisors_s0 s0 s1 l0 l1 (Vc.short2b hk hb0 hb1) ul0 ul1) W (⟨_, _, rfl, rel0, ⟨_, _, rfl, rel1, rfl⟩⟩)).mono fun e W' ⟨he, hb⟩ => ?_; subst he
  have hlt : ∀ x ∈ p0 ++ p1, x.block < W.heap.size := fun x hx => by simpa using hW'.lt x (by simpa using hx)
  exact ⟨_, rfl, Vc.post_of_below (pa := (p0 ++ (p1 ++ []))) (pv := []) hW' (fun _ _ _ => (trodAll_cons_mk (shut_bool Try.underlying4 _) trodAll_mk0)) (fun sp hsp => (trodAll_cons_mk (Go.WideElems.Trod_stays laidOut (by kernel_rfl) (of_decide_eq_true (by kernel_rfl)) hk0 (fun x hx => hb.same (hlt x (by simp [hx]))) (fun x hx => hsp x (by simp [hx]))) (trodAll_cons_mk (Go.WideElems.Trod_stays laidOut (by kernel_rfl) (of_decide_eq_true (by kernel_rfl)) hk1 (fun x hx => hb.same (hlt x (by simp [hx]))) (fun x hx => hsp x (by simp [hx]))) trodAll_mk0))) (fun _ _ => rfl) (by simp) hb⟩

theorem proved : Rows.WholeDivisorsUptoSaid :=
  OpenClaim.holds_of_cond 3 Try.f3 rfl rfl rfl rfl rfl rfl rfl ⟨rfl, rfl, rfl, rfl, rfl⟩ rfl rfl rfl rfl rfl (by kernel_rfl) Try.func3 (by kernel_rfl)
    (of_decide_eq_true (by kernel_rfl)) (by unfold Func.isWrapper; first | (rw [if_pos (by decide +kernel)]; kernel_rfl) | (rw [if_neg (by decide +kernel)]; exact ⟨rfl, rfl⟩))
    (fun os started H enc _ F => lifted os started H enc F)
end Go.Proofs.Ythbbbopbglbagaa.wholeDivisors
