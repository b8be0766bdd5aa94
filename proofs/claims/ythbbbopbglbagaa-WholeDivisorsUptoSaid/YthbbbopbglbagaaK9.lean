/- surdlaw06.WholeDivisors answers true for every two numbers of bulk at most 1048576, and leaves its input as it was: the greatest common divisor with its factors, inverses Texts joined: Le, Lf, Lg. -/
import Derived.Test.YthbbbopbglbagaaK8
set_option linter.unusedVariables false
set_option linter.unusedSimpArgs false
set_option maxHeartbeats 4000000
namespace Go.Proofs.Ythbbbopbglbagaa.Vc
open Go Go.RowKit
theorem Ve (sa sb : Bool) (a b : List Int) (v w : Int) (la : a.length < 4294967296) (lb : b.length < 4294967296) (ua : A3 a) (ub : A3 b) (ev : sv sa a = v) (ew : sv sb b = w) (hab : Bm v + Bm w ≤ 67108700) (h0 : w ≠ 0) (hdv : w ∣ v) (hw0 : 0 < w) (x : Int) (hE : CoE v w w x) : SpecM Try.prog 8 [.a [.b sa, .n false .u64 a], .a [.b sb, .n false .u64 b]] [] (fun o G => o = .ret (.t [.a [.b (decide (w < 0)), .o 0 0 0 (lm w).length], .a [.b (decide ((x % qn w w) < 0)), .o 1 0 0 (lm (x % qn w w)).length], .a [.b (decide ((wq 0 (w - v * (x % qn w w)) w) < 0)), .o 2 0 0 (lm (wq 0 (w - v * (x % qn w w)) w)).length], .i .i64 0]) ∧ G = [⟨79, 1, 0, true, A2 .u64 (lm w)⟩, ⟨79, 1, 0, true, A2 .u64 (lm (x % qn w w))⟩, ⟨79, 1, 0, true, A2 .u64 (lm (wq 0 (w - v * (x % qn w w)) w))⟩]) := by
  refine Cy [(0, .a [.b sa, .n false .u64 a]), (1, .a [.b sb, .n false .u64 b])] rfl Try.func8 rfl (zlb rfl) fun Γ hN hds hL hR => ?_
  have hd := B5 116 hN
  have hlv := Bf (v := v) (by omega)
  have hlw := Bf (v := w) (by omega)
  have hne := Nb h0
  have hne1 : (lm w).length ≠ 0 := fun e => hne (List.eq_nil_of_length_eq_zero e)
  have hNa : Spec Try.prog 32 [.a [.b sa, .n false .u64 a]] (fun o => o = .ret (.a [.b (decide (v < 0)), .n false .u64 (lm v)])) := (Hm sa a v (by omega) ua ev).old1
  have hNb : SpecM Try.prog 32 [.a [.b sb, .n false .u64 b]] [] (fun o G => o = .ret (.a [.b (decide (w < 0)), .o 0 0 0 (lm w).length]) ∧ G = [⟨79, 1, 0, true, A2 .u64 (lm w)⟩]) := by
    have h := Pr sb b (by omega)
    have e := E1 (s := sb) (l := b) (v := w) ub ew
    rw [e.1, e.2.1] at h
    exact h
  have hE9 := Adh hw0 hdv
  have hg0 := hE.ne h0
  obtain ⟨hb1, hb2, hb3⟩ := Fc hE h0
  have hg1 := hE.g0
  have hX9 : 0 % (qn w w) = (x % qn w w) := hE.mod h0 hE9
  have hXb := G1 (v := x) hb1
  have hlX : Bm (x % qn w w) ≤ Bm w := A5 (by omega)
  have hlx := A5 hE9.bx
  have hlg := A5 (hE.le h0)
  have hlst : Bm (qn w w) ≤ Bm w := A5 (by omega)
  have hm1 := G9 v (x % qn w w)
  have hm2 := Jx w (v * (x % qn w w))
  have hmg := Bf (v := w) (by omega)
  have hmx := Bf (v := (0 : Int)) (by omega)
  have hmX := Bf (v := (x % qn w w)) (by omega)
  have hmst := Bf (v := (qn w w)) (by omega)
  have hmP := Bf (v := (v * (x % qn w w))) (by omega)
  have hmD := Bf (v := (w - v * (x % qn w w))) (by omega)
  have hqn : ((w.natAbs / (w).natAbs : Nat) : Int) = (qn w w) := by unfold qn; rfl
  have hDq : SpecM Try.prog 38 [.n false .u64 (lm w), .n false .u64 (lm w)] [] (fun o G => o = .ret (.t [.o 0 0 0 (lm (qn w w)).length, .i .i64 0]) ∧ G = [⟨79, 1, 0, true, A2 .u64 (lm (qn w w))⟩]) := by
    have h := Yk w.natAbs (w).natAbs (by rw [Hb]; omega) (by rw [Hb]; omega) (by omega)
    rwa [Pv, hqn] at h
  have hEu : SpecM Try.prog 39 [.a [.b false, .n false .u64 []], .a [.b false, .n false .u64 (lm (qn w w))]] [] (fun o G => o = .ret (.t [.a [.b (decide ((wq 4 0 (qn w w)) < 0)), .o 0 0 0 (lm (wq 4 0 (qn w w))).length], .a [.b (decide ((x % qn w w) < 0)), .o 1 0 0 (lm (x % qn w w)).length], .i .i64 0]) ∧ G = [⟨79, 1, 0, true, A2 .u64 (lm (wq 4 0 (qn w w)))⟩, ⟨79, 1, 0, true, A2 .u64 (lm (x % qn w w))⟩]) := by
    have h := Gj false false [] (lm (qn w w)) (0 : Int) (qn w w) (by decide) (by omega) (fun x hx => by cases hx) (Cq _) rfl (by show vl _ = _; rw [Vp (by omega)]) (by omega) (by omega) (by omega)
    rwa [euc (by omega), hX9] at h
  have hMu : SpecM Try.prog 40 [.a [.b (decide (v < 0)), .n false .u64 (lm v)], .a [.b (decide ((x % qn w w) < 0)), .n false .u64 (lm (x % qn w w))]] [] (fun o G => o = .ret (.t [.a [.b (decide ((v * (x % qn w w)) < 0)), .o 0 0 0 (lm (v * (x % qn w w))).length], .i .i64 0]) ∧ G = [⟨79, 1, 0, true, A2 .u64 (lm (v * (x % qn w w)))⟩]) := by
    have h := Ov (decide (v < 0)) (decide ((x % qn w w) < 0)) (lm v) (lm (x % qn w w)) (by omega) (by omega) (Cq _) (Cq _) (by rw [Cn, Cn]; omega)
    rwa [Cn, Cn] at h
  have hSu : SpecM Try.prog 42 [.a [.b (decide (w < 0)), .n false .u64 (lm w)], .a [.b (decide ((v * (x % qn w w)) < 0)), .n false .u64 (lm (v * (x % qn w w)))]] [] (fun o G => o = .ret (.t [.a [.b (decide ((w - v * (x % qn w w)) < 0)), .o 0 0 0 (lm (w - v * (x % qn w w))).length], .i .i64 0]) ∧ G = [⟨79, 1, 0, true, A2 .u64 (lm (w - v * (x % qn w w)))⟩]) := by
    have h := Ot (decide (w < 0)) (decide ((v * (x % qn w w)) < 0)) (lm w) (lm (v * (x % qn w w))) (by omega) (by omega) (Cq _) (Cq _) (by rw [Cn, Cn]; omega)
    rwa [Cn, Cn] at h
  have hQu : SpecM Try.prog 43 [.a [.b (decide ((w - v * (x % qn w w)) < 0)), .n false .u64 (lm (w - v * (x % qn w w)))], .a [.b (decide (w < 0)), .n false .u64 (lm w)]] [] (fun o G => o = .ret (.t [.a [.b (decide ((wq 0 (w - v * (x % qn w w)) w) < 0)), .o 0 0 0 (lm (wq 0 (w - v * (x % qn w w)) w)).length], .a [.b (decide (((w - v * (x % qn w w)) - (wq 0 (w - v * (x % qn w w)) w) * w) < 0)), .o 1 0 0 (lm ((w - v * (x % qn w w)) - (wq 0 (w - v * (x % qn w w)) w) * w)).length], .i .i64 0]) ∧ G = [⟨79, 1, 0, true, A2 .u64 (lm (wq 0 (w - v * (x % qn w w)) w))⟩, ⟨79, 1, 0, true, A2 .u64 (lm ((w - v * (x % qn w w)) - (wq 0 (w - v * (x % qn w w)) w) * w))⟩]) := Adw (decide ((w - v * (x % qn w w)) < 0)) (decide (w < 0)) (lm (w - v * (x % qn w w))) (lm w) (w - v * (x % qn w w)) w (by omega) (by omega) (Cq _) (Cq _) (Cn _) (Cn _) (by omega) (by omega) h0
  obtain ⟨R9, eR9⟩ : ∃ R9 : Int, R9 = ((w - v * (x % qn w w)) - (wq 0 (w - v * (x % qn w w)) w) * w) := ⟨_, rfl⟩
  rw [← eR9] at hQu
  obtain ⟨Y9, eY9⟩ : ∃ Y9 : Int, Y9 = (wq 0 (w - v * (x % qn w w)) w) := ⟨_, rfl⟩
  rw [← eY9] at hQu
  obtain ⟨D9, eD9⟩ : ∃ D9 : Int, D9 = (w - v * (x % qn w w)) := ⟨_, rfl⟩
  rw [← eD9] at hSu hQu hmD hm2 eY9
  obtain ⟨P9, eP9⟩ : ∃ P9 : Int, P9 = (v * (x % qn w w)) := ⟨_, rfl⟩
  rw [← eP9] at hMu hSu hm1 hm2 hmP eD9
  obtain ⟨X9, eX9⟩ : ∃ X9 : Int, X9 = (x % qn w w) := ⟨_, rfl⟩
  rw [← eX9] at hEu hMu hX9 hXb hlX hm1 hmX eP9
  refine zsr <| Ay (Br (id := 0) (n := 2) rfl rfl rfl (by decide) rfl) (hd 2 rfl) <| Ay (Br (id := 1) (n := 2) rfl rfl rfl (by decide) rfl) (hd 3 rfl) <| Ay (An (id := 2) At (by decide) rfl (by decide) rfl) (hd 4 rfl) <| Ay (An (id := 3) At (by decide) rfl (by decide) rfl) (hd 5 rfl) <| Ay (An (id := 4) At (by decide) rfl (by decide) rfl) (hd 6 rfl) <| zas rfl (hd 7 rfl) <| Ab <| Af <| Be (n := 6) _ rfl B2 ?_; refine Db (fun _ _ _ _ h => h) fun ops1 Q1 F0 hpan ho hq hF => ?_
  have S1_111111 : JA Try.prog ops1 0 #[true, true, true, true, true, true] Γ ([(18, .a [.b sa, .n false .u64 a]), (19, (qf v)), (20, .a [.b sb, .n false .u64 b]), (21, (qo 5 w))] ++ F0) [(oqf 0 v), (oqo 0 5 w), (oqm 0), (oqm 0), (oqm 0), (oqr w)] Q1 := by
    subst ho; subst hq; subst hF; refine Bi (by kernel_rfl) <| Af <| Af <| Cs (H' := [(oqf 0 v), (oqo 0 5 w), (oqm 0), (oqm 0), (oqm 0), (oqr w)]) rfl <| Ag <| Ac (Bd Bp rfl rfl rfl) (hd 22 rfl) <| Ac (A8 Ce rfl rfl rfl) (hd 23 rfl) ?_
    refine Aj Try.f33 (Ek v (by omega)) rfl Try.func33 rfl rfl (Aa rfl Ad) (.cons .n .nil) (hd 24 rfl) ?_ (fun ch hp => by simp at hp)
    rintro _ ⟨⟩; refine Ac (Cd (C0 rfl rfl) (by omega)) (hd 25 rfl) <| zmv rfl (hd 26 rfl) <| Bn 26 rfl rfl (Bd Bp rfl rfl rfl) (hd 27 rfl) <| Bn 26 rfl rfl (A8 Ce rfl rfl rfl) (hd 28 rfl) ?_
    refine Kk Try.f33 26 rfl rfl (Ek w (by omega)) rfl Try.func33 rfl rfl (Aa rfl Ad) (.a1 (.o rfl (by simp) (by rw [List.drop_zero, List.take_length])) .a0) (.cons .n .nil) hL (fun y hy => by injection hy with hy; subst hy; rfl) (hd 29 rfl) ?_ (fun ch hp => by simp at hp)
    rintro _ ⟨⟩; refine Bn 26 rfl rfl (Cd (C0 rfl rfl) (by omega)) (hd 30 rfl) <| Ac (B9 rfl rfl) (hd 31 rfl) <| Ab <| Bl rfl <| Am <| Af <| zsr <| Ac (Bd Bp rfl rfl rfl) (hd 39 rfl) <| Ac (A8 Ce rfl rfl rfl) (hd 40 rfl) <| Ac (Eo Bo rfl rfl) (hd 41 rfl) <| Ac (Cd (Dy rfl rfl) (by omega)) (hd 42 rfl) <| Ab ?_; refine Bl rfl <| Am <| zsr <| Ac (Ah Aq rfl rfl rfl rfl) (hd 51 rfl) <| Ac (Ah Aq rfl rfl rfl rfl) (hd 52 rfl) ?_
    refine Wd Try.f37 [5] (Q6 v w (by omega) (by omega) h0 hdv hw0) rfl Try.func37 rfl rfl (Aa rfl (Aa rfl Ad)) (.cons (.same rfl) (.cons (.same rfl) .nil)) rfl rfl (.cons rfl (D5 _ _ _) .nil) (by decide) (.cons Bc .nil) (Cx Dz Dj) (hd 53 rfl) ?_ (fun ch G hp => by simp at hp)
    rintro y G ⟨hy, rfl⟩; injection hy with hy; subst hy
    show JO _ _ _ _ ((53, .t [.a [.b (decide (w < 0)), .o 5 0 0 (lm w).length], .a [.b false, .c (.slice none 0 0)]]) :: _) [⟨27, 2, 0, true, [.b (decide (v < 0)), .n false .u64 (lm v)]⟩, ⟨27, 2, 0, true, [.b (decide (w < 0)), .o 5 0 0 (lm w).length]⟩, ⟨27, 2, 0, true, [.b false, .c (.slice none 0 0)]⟩, ⟨27, 2, 0, true, [.b false, .c (.slice none 0 0)]⟩, ⟨27, 2, 0, true, [.b false, .c (.slice none 0 0)]⟩, (⟨79, 1, 0, true, renL _ (A2 .u64 (lm w))⟩ : Ob)] _
    rw [← D5]
    refine zmv rfl (hd 50 rfl) <| Ac (Ak rfl rfl) (hd 54 rfl) <| Ac (Ak rfl rfl) (hd 55 rfl) <| Ay (An (id := 6) At (by decide) rfl (by decide) rfl) (hd 8 rfl) <| Ay (An (id := 7) At (by decide) rfl (by decide) rfl) (hd 9 rfl) <| A1 (Ae rfl rfl rfl Au rfl rfl (zlb rfl)) <| A1 (Ae rfl rfl rfl Au rfl rfl (zlb rfl)) <| Ab <| Af <| Cs (H' := [(oqf 0 v), (oqo 0 5 w), (oqm 0), (oqm 0), (oqm 0), (oqr w), (oqo 0 5 w), (oqm 0)]) rfl <| Ag <| Ac (Bd Bp rfl rfl rfl) (hd 57 rfl) <| Ac (A8 Ce rfl rfl rfl) (hd 58 rfl) ?_; refine Ac (Bd Bp rfl rfl rfl) (hd 59 rfl) <| Ac (A8 Ce rfl rfl rfl) (hd 60 rfl) ?_
    refine Ds Try.f38 (hDq) (fun o G ⟨_, h⟩ => h ▸ C1 Di Eg) (fun y G ⟨hy, _⟩ => by injection hy with hy; subst hy; rfl) rfl Try.func38 rfl rfl (Aa rfl (Aa rfl Ad)) (.a1 (.o rfl (by simp) (by rw [List.drop_zero, List.take_length])) (.a1 (.o rfl (by simp) (by rw [List.drop_zero, List.take_length])) .a0)) (.cons .n (.cons .n .nil)) hL (hd 61 rfl) ?_ (fun ch G hp => by simp at hp)
    rintro y G ⟨hy, rfl⟩; injection hy with hy; subst hy
    show JO _ _ _ _ ((61, .t [.o 8 0 0 (lm (qn w w)).length, .i .i64 0]) :: _) _ _
    refine zmv rfl (hd 56 rfl) <| Ac (Ak rfl rfl) (hd 62 rfl) <| Ac (Ak rfl rfl) (hd 63 rfl) <| zas rfl (hd 10 rfl) <| zas rfl (hd 11 rfl) <| Ab <| Af <| Cs (H' := [(oqf 0 v), (oqo 0 5 w), (oqm 0), (oqm 0), (oqm 0), (oqr w), (oqo 0 5 w), (oqm 0), (oqr (qn w w))]) rfl <| Ag <| Ac (Ah Aq rfl rfl rfl rfl) (hd 65 rfl) <| zmv rfl (hd 66 rfl) <| Ac (B3 (is := [1]) (xs := [.tmp 66]) At F1 rfl (Aa rfl Ad) rfl (by first | (simp [Ck, cellsV]; done) | (simp [Ck, cellsV, old]; done)) (Cj rfl) rfl) (hd 67 rfl) ?_
    refine Ds Try.f39 (hEu) (fun o G ⟨_, h⟩ => h ▸ C1 Di (C1 Di Eg)) (fun y G ⟨hy, _⟩ => by injection hy with hy; subst hy; rfl) rfl Try.func39 rfl rfl (Aa rfl (Aa rfl Ad)) (.a1 (.a1 .b (.a1 (.nil (fr := false) (k := .u64)) .a0)) (.a1 (.a1 .b (.a1 (.o rfl (by simp) (by rw [List.drop_zero, List.take_length])) .a0)) .a0)) (.cons (.a1 .b (.a1 .n .a0)) (.cons (.a1 .b (.a1 .n .a0)) .nil)) hL (hd 68 rfl) ?_ (fun ch G hp => by simp at hp)
    rintro y G ⟨hy, rfl⟩; injection hy with hy; subst hy
    show JO _ _ _ _ ((68, .t [.a [.b (decide ((wq 4 0 (qn w w)) < 0)), .o 9 0 0 (lm (wq 4 0 (qn w w))).length], .a [.b (decide (X9 < 0)), .o 10 0 0 (lm X9).length], .i .i64 0]) :: _) _ _
    refine zmv rfl (hd 64 rfl) <| Ac (Ak rfl rfl) (hd 69 rfl) <| Ac (Ak rfl rfl) (hd 70 rfl) <| Ac (Ak rfl rfl) (hd 71 rfl) <| A1 (Ae rfl rfl rfl Au rfl rfl (zlb rfl)) <| Ab <| Af <| Cs (H' := [(oqf 0 v), (oqo 0 5 w), (oqm 0), (oqm 0), (oqm 0), (oqr w), (oqo 0 5 w), (oqo 0 10 X9), (oqr (qn w w)), (oqr (wq 4 0 (qn w w))), (oqr X9)]) rfl <| Ag <| Ac (Ah Aq rfl rfl rfl rfl) (hd 73 rfl) <| Ac (Ah Aq rfl rfl rfl rfl) (hd 74 rfl) ?_
    refine Ds Try.f40 (hMu) (fun o G ⟨_, h⟩ => h ▸ C1 Di Eg) (fun y G ⟨hy, _⟩ => by injection hy with hy; subst hy; rfl) rfl Try.func40 rfl rfl (Aa rfl (Aa rfl Ad)) (.a1 (.a1 .b (.a1 .n .a0)) (.a1 (.a1 .b (.a1 (.o rfl (by simp) (by rw [List.drop_zero, List.take_length])) .a0)) .a0)) (.cons (.a1 .b (.a1 .n .a0)) (.cons (.a1 .b (.a1 .n .a0)) .nil)) hL (hd 75 rfl) ?_ (fun ch G hp => by simp at hp)
    rintro y G ⟨hy, rfl⟩; injection hy with hy; subst hy
    show JO _ _ _ _ ((75, .t [.a [.b (decide (P9 < 0)), .o 11 0 0 (lm P9).length], .i .i64 0]) :: _) _ _
    refine zmv rfl (hd 72 rfl) <| Ac (Ak rfl rfl) (hd 76 rfl) <| Ac (Ak rfl rfl) (hd 77 rfl) <| Ay (An (id := 12) At (by decide) rfl (by decide) rfl) (hd 12 rfl) <| A1 (Ae rfl rfl rfl Au rfl rfl (zlb rfl)) <| zas rfl (hd 13 rfl) <| Ab <| Af <| zsr <| zmv rfl (hd 78 rfl) <| Ac (Cd (Cm rfl rfl) (by decide)) (hd 79 rfl) <| Ab ?_; refine Bl rfl <| Am <| Af <| Cs (H' := [(oqf 0 v), (oqo 0 5 w), (oqm 0), (oqm 0), (oqm 0), (oqr w), (oqo 0 5 w), (oqo 0 10 X9), (oqr (qn w w)), (oqr (wq 4 0 (qn w w))), (oqr X9), (oqr P9), (oqo 0 11 P9)]) rfl <| Ag <| Ac (Ah Aq rfl rfl rfl rfl) (hd 90 rfl) <| Ac (Ah Aq rfl rfl rfl rfl) (hd 91 rfl) ?_
    refine Ds Try.f42 (hSu) (fun o G ⟨_, h⟩ => h ▸ C1 Di Eg) (fun y G ⟨hy, _⟩ => by injection hy with hy; subst hy; rfl) rfl Try.func42 rfl rfl (Aa rfl (Aa rfl Ad)) (.a1 (.a1 .b (.a1 (.o rfl (by simp) (by rw [List.drop_zero, List.take_length])) .a0)) (.a1 (.a1 .b (.a1 (.o rfl (by simp) (by rw [List.drop_zero, List.take_length])) .a0)) .a0)) (.cons (.a1 .b (.a1 .n .a0)) (.cons (.a1 .b (.a1 .n .a0)) .nil)) hL (hd 92 rfl) ?_ (fun ch G hp => by simp at hp)
    rintro y G ⟨hy, rfl⟩; injection hy with hy; subst hy
    show JO _ _ _ _ ((92, .t [.a [.b (decide (D9 < 0)), .o 13 0 0 (lm D9).length], .i .i64 0]) :: _) _ _
    refine zmv rfl (hd 89 rfl) <| Ac (Ak rfl rfl) (hd 93 rfl) <| Ac (Ak rfl rfl) (hd 94 rfl) <| Ay (An (id := 14) At (by decide) rfl (by decide) rfl) (hd 14 rfl) <| A1 (Ae rfl rfl rfl Au rfl rfl (zlb rfl)) <| zas rfl (hd 13 rfl) <| Ab <| Af <| zsr <| zmv rfl (hd 95 rfl) <| Ac (Cd (Cm rfl rfl) (by decide)) (hd 96 rfl) <| Ab ?_; refine Bl rfl <| Am <| Af <| Cs (H' := [(oqf 0 v), (oqo 0 5 w), (oqm 0), (oqm 0), (oqm 0), (oqr w), (oqo 0 5 w), (oqo 0 10 X9), (oqr (qn w w)), (oqr (wq 4 0 (qn w w))), (oqr X9), (oqr P9), (oqo 0 11 P9), (oqr D9), (oqo 0 13 D9)]) rfl <| Ag <| Ac (Ah Aq rfl rfl rfl rfl) (hd 107 rfl) <| Ac (Ah Aq rfl rfl rfl rfl) (hd 108 rfl) ?_
    refine Ds Try.f43 (hQu) (fun o G ⟨_, h⟩ => h ▸ C1 Di (C1 Di Eg)) (fun y G ⟨hy, _⟩ => by injection hy with hy; subst hy; rfl) rfl Try.func43 rfl rfl (Aa rfl (Aa rfl Ad)) (.a1 (.a1 .b (.a1 (.o rfl (by simp) (by rw [List.drop_zero, List.take_length])) .a0)) (.a1 (.a1 .b (.a1 (.o rfl (by simp) (by rw [List.drop_zero, List.take_length])) .a0)) .a0)) (.cons (.a1 .b (.a1 .n .a0)) (.cons (.a1 .b (.a1 .n .a0)) .nil)) hL (hd 109 rfl) ?_ (fun ch G hp => by simp at hp)
    rintro y G ⟨hy, rfl⟩; injection hy with hy; subst hy
    show JO _ _ _ _ ((109, .t [.a [.b (decide (Y9 < 0)), .o 15 0 0 (lm Y9).length], .a [.b (decide (R9 < 0)), .o 16 0 0 (lm R9).length], .i .i64 0]) :: _) _ _
    refine zmv rfl (hd 106 rfl) <| Ac (Ak rfl rfl) (hd 110 rfl) <| Ac (Ak rfl rfl) (hd 111 rfl) <| Ac (Ak rfl rfl) (hd 112 rfl) <| Ay (An (id := 17) At (by decide) rfl (by decide) rfl) (hd 15 rfl) <| Ay (An (id := 18) At (by decide) rfl (by decide) rfl) (hd 16 rfl) <| A1 (Ae rfl rfl rfl Au rfl rfl (zlb rfl)) <| A1 (Ae rfl rfl rfl Au rfl rfl (zlb rfl)) <| zas rfl (hd 17 rfl) <| Ab <| Af <| Cs (H' := [(oqf 0 v), (oqo 0 5 w), (oqm 0), (oqm 0), (oqm 0), (oqr w), (oqo 0 5 w), (oqo 0 10 X9), (oqr (qn w w)), (oqr (wq 4 0 (qn w w))), (oqr X9), (oqr P9), (oqo 0 11 P9), (oqr D9), (oqo 0 13 D9), (oqr Y9), (oqr R9), (oqo 0 15 Y9), (oqo 0 16 R9)]) rfl <| Be (n := 7) _ rfl B2 ?_; refine Db (fun _ _ _ _ h => h) fun ops1 Q1 F0 hpan ho hq hF => ?_
    have S16_1111111 : JA Try.prog ops1 0 #[true, true, true, true, true, true, true] Γ ([(7, .i .i64 0), (113, (qo 5 w)), (114, (qo 10 X9)), (115, (qo 15 Y9))] ++ F0) [(oqf 0 v), (oqo 0 5 w), (oqo 0 5 w), (oqo 0 10 X9), (oqo 0 15 Y9), (oqr w), (oqo 0 5 w), (oqo 0 10 X9), (oqr (qn w w)), (oqr (wq 4 0 (qn w w))), (oqr X9), (oqr P9), (oqo 0 11 P9), (oqr D9), (oqo 0 13 D9), (oqr Y9), (oqr R9), (oqo 0 15 Y9), (oqo 0 16 R9)] Q1 := by
      subst ho; subst hq; subst hF; refine Bi (by kernel_rfl) <| As ?_
      refine ⟨[5, 10, 15], _, (.t [.a [.b (decide (w < 0)), .o 0 0 0 (lm w).length], .a [.b (decide (X9 < 0)), .o 1 0 0 (lm X9).length], .a [.b (decide (Y9 < 0)), .o 2 0 0 (lm Y9).length], .i .i64 0]), (.cons (ResV.cell Aq rfl rfl rfl rfl) (.cons (ResV.cell Aq rfl rfl rfl rfl) (.cons (ResV.cell Aq rfl rfl rfl rfl) (.cons rfl .nil)))), rfl, rfl, (by decide), (Al Bc (Al Bc (Al Bc Ar))), ?_⟩
      rw [← eX9, ← eP9, ← eD9, ← eY9]
      exact ⟨rfl, rfl⟩
    have S16_1111110 : JA Try.prog ops1 1 #[true, true, true, true, true, true, false] Γ ([(113, (qo 5 w)), (114, (qo 10 X9)), (115, (qo 15 Y9))] ++ F0) [(oqf 0 v), (oqo 0 5 w), (oqo 0 5 w), (oqo 0 10 X9), (oqo 0 15 Y9), (oqr w), (oqo 0 5 w), (oqo 0 10 X9), (oqr (qn w w)), (oqr (wq 4 0 (qn w w))), (oqr X9), (oqr P9), (oqo 0 11 P9), (oqr D9), (oqo 0 13 D9), (oqr Y9), (oqr R9), (oqo 0 15 Y9), (oqo 0 16 R9)] Q1 := by
      subst ho; subst hF; refine Bz 6 [] (Z0 rfl (hd 7 rfl)) rfl (by kernel_rfl) (by kernel_rfl) (by kernel_rfl) (by kernel_rfl) hpan ?_
      refine Ai S16_1111111 4 (.cons rfl (.cons rfl (.cons rfl (.cons rfl .nil))))
    have S16_1111100 : JA Try.prog ops1 2 #[true, true, true, true, true, false, false] Γ ([(113, (qo 5 w)), (114, (qo 10 X9)), (115, (qo 15 Y9))] ++ F0) [(oqf 0 v), (oqo 0 5 w), (oqo 0 5 w), (oqo 0 10 X9), (oqm 0), (oqr w), (oqo 0 5 w), (oqo 0 10 X9), (oqr (qn w w)), (oqr (wq 4 0 (qn w w))), (oqr X9), (oqr P9), (oqo 0 11 P9), (oqr D9), (oqo 0 13 D9), (oqr Y9), (oqr R9), (oqo 0 15 Y9), (oqo 0 16 R9)] Q1 := by
      subst ho; subst hF
      refine Bb 5 ?_ rfl (by kernel_rfl)
      refine A7 (Ae rfl rfl rfl Au rfl rfl (zlb rfl)) rfl ?_
      refine Ai S16_1111110 3 (.cons rfl (.cons rfl (.cons rfl .nil)))
    have S16_1111000 : JA Try.prog ops1 3 #[true, true, true, true, false, false, false] Γ ([(113, (qo 5 w)), (114, (qo 10 X9)), (115, (qo 15 Y9))] ++ F0) [(oqf 0 v), (oqo 0 5 w), (oqo 0 5 w), (oqm 0), (oqm 0), (oqr w), (oqo 0 5 w), (oqo 0 10 X9), (oqr (qn w w)), (oqr (wq 4 0 (qn w w))), (oqr X9), (oqr P9), (oqo 0 11 P9), (oqr D9), (oqo 0 13 D9), (oqr Y9), (oqr R9), (oqo 0 15 Y9), (oqo 0 16 R9)] Q1 := by
      subst ho; subst hF
      refine Bb 4 ?_ rfl (by kernel_rfl)
      refine A7 (Ae rfl rfl rfl Au rfl rfl (zlb rfl)) rfl ?_
      refine Ai S16_1111100 3 (.cons rfl (.cons rfl (.cons rfl .nil)))
    have S16_1110000 : JA Try.prog ops1 4 #[true, true, true, false, false, false, false] Γ ([(113, (qo 5 w)), (114, (qo 10 X9)), (115, (qo 15 Y9))] ++ F0) [(oqf 0 v), (oqo 0 5 w), (oqm 0), (oqm 0), (oqm 0), (oqr w), (oqo 0 5 w), (oqo 0 10 X9), (oqr (qn w w)), (oqr (wq 4 0 (qn w w))), (oqr X9), (oqr P9), (oqo 0 11 P9), (oqr D9), (oqo 0 13 D9), (oqr Y9), (oqr R9), (oqo 0 15 Y9), (oqo 0 16 R9)] Q1 := by
      subst ho; subst hF
      refine Bb 3 ?_ rfl (by kernel_rfl)
      refine A7 (Ae rfl rfl rfl Au rfl rfl (zlb rfl)) rfl ?_
      refine Ai S16_1111000 3 (.cons rfl (.cons rfl (.cons rfl .nil)))
    have S16_1101100 : JA Try.prog ops1 3 #[true, true, false, true, true, false, false] Γ ([(113, (qo 5 w)), (114, (qo 10 X9))] ++ F0) [(oqf 0 v), (oqo 0 5 w), (oqo 0 5 w), (oqo 0 10 X9), (oqm 0), (oqr w), (oqo 0 5 w), (oqo 0 10 X9), (oqr (qn w w)), (oqr (wq 4 0 (qn w w))), (oqr X9), (oqr P9), (oqo 0 11 P9), (oqr D9), (oqo 0 13 D9), (oqr Y9), (oqr R9), (oqo 0 15 Y9), (oqo 0 16 R9)] Q1 := by
      subst ho; subst hF; refine Bz 2 [5, 6] (Ao (Ah Aq rfl rfl rfl rfl) (hd 115 rfl)) rfl (by kernel_rfl) (by kernel_rfl) (by kernel_rfl) (by kernel_rfl) hpan ?_
      refine Ai S16_1111100 3 (.cons rfl (.cons rfl (.cons rfl .nil)))
    have S16_1101000 : JA Try.prog ops1 4 #[true, true, false, true, false, false, false] Γ ([(113, (qo 5 w)), (114, (qo 10 X9))] ++ F0) [(oqf 0 v), (oqo 0 5 w), (oqo 0 5 w), (oqm 0), (oqm 0), (oqr w), (oqo 0 5 w), (oqo 0 10 X9), (oqr (qn w w)), (oqr (wq 4 0 (qn w w))), (oqr X9), (oqr P9), (oqo 0 11 P9), (oqr D9), (oqo 0 13 D9), (oqr Y9), (oqr R9), (oqo 0 15 Y9), (oqo 0 16 R9)] Q1 := by
      subst ho; subst hF
      refine Ct 2 4 ?_ ?_ rfl rfl (by kernel_rfl)
      · refine C4 (Ah Aq rfl rfl rfl rfl) (hd 115 rfl) ?_
        refine Ai S16_1111000 3 (.cons rfl (.cons rfl (.cons rfl .nil)))
      · refine A7 (Ae rfl rfl rfl Au rfl rfl (zlb rfl)) rfl ?_
        refine Ai S16_1101100 2 (.cons rfl (.cons rfl .nil))
    have S16_1100000 : JA Try.prog ops1 5 #[true, true, false, false, false, false, false] Γ ([(113, (qo 5 w)), (114, (qo 10 X9))] ++ F0) [(oqf 0 v), (oqo 0 5 w), (oqm 0), (oqm 0), (oqm 0), (oqr w), (oqo 0 5 w), (oqo 0 10 X9), (oqr (qn w w)), (oqr (wq 4 0 (qn w w))), (oqr X9), (oqr P9), (oqo 0 11 P9), (oqr D9), (oqo 0 13 D9), (oqr Y9), (oqr R9), (oqo 0 15 Y9), (oqo 0 16 R9)] Q1 := by
      subst ho; subst hF
      refine Ct 2 3 ?_ ?_ rfl rfl (by kernel_rfl)
      · refine C4 (Ah Aq rfl rfl rfl rfl) (hd 115 rfl) ?_
        refine Ai S16_1110000 3 (.cons rfl (.cons rfl (.cons rfl .nil)))
      · refine A7 (Ae rfl rfl rfl Au rfl rfl (zlb rfl)) rfl ?_
        refine Ai S16_1101000 2 (.cons rfl (.cons rfl .nil))
    have S16_1011000 : JA Try.prog ops1 4 #[true, false, true, true, false, false, false] Γ ([(113, (qo 5 w)), (115, (qo 15 Y9))] ++ F0) [(oqf 0 v), (oqo 0 5 w), (oqo 0 5 w), (oqm 0), (oqm 0), (oqr w), (oqo 0 5 w), (oqo 0 10 X9), (oqr (qn w w)), (oqr (wq 4 0 (qn w w))), (oqr X9), (oqr P9), (oqo 0 11 P9), (oqr D9), (oqo 0 13 D9), (oqr Y9), (oqr R9), (oqo 0 15 Y9), (oqo 0 16 R9)] Q1 := by
      subst ho; subst hF; refine Bz 1 [4, 5, 6] (Ao (Ah Aq rfl rfl rfl rfl) (hd 114 rfl)) rfl (by kernel_rfl) (by kernel_rfl) (by kernel_rfl) (by kernel_rfl) hpan ?_
      refine Ai S16_1111000 3 (.cons rfl (.cons rfl (.cons rfl .nil)))
    have S16_1010000 : JA Try.prog ops1 5 #[true, false, true, false, false, false, false] Γ ([(113, (qo 5 w)), (115, (qo 15 Y9))] ++ F0) [(oqf 0 v), (oqo 0 5 w), (oqm 0), (oqm 0), (oqm 0), (oqr w), (oqo 0 5 w), (oqo 0 10 X9), (oqr (qn w w)), (oqr (wq 4 0 (qn w w))), (oqr X9), (oqr P9), (oqo 0 11 P9), (oqr D9), (oqo 0 13 D9), (oqr Y9), (oqr R9), (oqo 0 15 Y9), (oqo 0 16 R9)] Q1 := by
      subst ho; subst hF
      refine Ct 1 3 ?_ ?_ rfl rfl (by kernel_rfl)
      · refine C4 (Ah Aq rfl rfl rfl rfl) (hd 114 rfl) ?_
        refine Ai S16_1110000 3 (.cons rfl (.cons rfl (.cons rfl .nil)))
      · refine A7 (Ae rfl rfl rfl Au rfl rfl (zlb rfl)) rfl ?_
        refine Ai S16_1011000 2 (.cons rfl (.cons rfl .nil))
    have S16_1001000 : JA Try.prog ops1 5 #[true, false, false, true, false, false, false] Γ ([(113, (qo 5 w))] ++ F0) [(oqf 0 v), (oqo 0 5 w), (oqo 0 5 w), (oqm 0), (oqm 0), (oqr w), (oqo 0 5 w), (oqo 0 10 X9), (oqr (qn w w)), (oqr (wq 4 0 (qn w w))), (oqr X9), (oqr P9), (oqo 0 11 P9), (oqr D9), (oqo 0 13 D9), (oqr Y9), (oqr R9), (oqo 0 15 Y9), (oqo 0 16 R9)] Q1 := by
      subst ho; subst hF; refine Bz 1 [4, 5, 6] (Ao (Ah Aq rfl rfl rfl rfl) (hd 114 rfl)) rfl (by kernel_rfl) (by kernel_rfl) (by kernel_rfl) (by kernel_rfl) hpan ?_
      refine Ai S16_1101000 2 (.cons rfl (.cons rfl .nil))
    have S16_1000000 : JA Try.prog ops1 6 #[true, false, false, false, false, false, false] Γ ([(113, (qo 5 w))] ++ F0) [(oqf 0 v), (oqo 0 5 w), (oqm 0), (oqm 0), (oqm 0), (oqr w), (oqo 0 5 w), (oqo 0 10 X9), (oqr (qn w w)), (oqr (wq 4 0 (qn w w))), (oqr X9), (oqr P9), (oqo 0 11 P9), (oqr D9), (oqo 0 13 D9), (oqr Y9), (oqr R9), (oqo 0 15 Y9), (oqo 0 16 R9)] Q1 := by
      subst ho; subst hF
      refine Rc 1 2 3 ?_ ?_ ?_ rfl rfl rfl (by kernel_rfl)
      · refine C4 (Ah Aq rfl rfl rfl rfl) (hd 114 rfl) ?_
        refine Ai S16_1100000 2 (.cons rfl (.cons rfl .nil))
      · refine C4 (Ah Aq rfl rfl rfl rfl) (hd 115 rfl) ?_
        refine Ai S16_1010000 2 (.cons rfl (.cons rfl .nil))
      · refine A7 (Ae rfl rfl rfl Au rfl rfl (zlb rfl)) rfl ?_
        refine Ai S16_1001000 1 (.cons rfl .nil)
    have S16_0000000 : JA Try.prog ops1 7 #[false, false, false, false, false, false, false] Γ ([] ++ F0) [(oqf 0 v), (oqo 0 5 w), (oqm 0), (oqm 0), (oqm 0), (oqr w), (oqo 0 5 w), (oqo 0 10 X9), (oqr (qn w w)), (oqr (wq 4 0 (qn w w))), (oqr X9), (oqr P9), (oqo 0 11 P9), (oqr D9), (oqo 0 13 D9), (oqr Y9), (oqr R9), (oqo 0 15 Y9), (oqo 0 16 R9)] Q1 := by
      subst ho; subst hF; refine Bz 0 [3, 4, 5, 6] (Ao (Ah Aq rfl rfl rfl rfl) (hd 113 rfl)) rfl (by kernel_rfl) (by kernel_rfl) (by kernel_rfl) (by kernel_rfl) hpan ?_
      refine Ai S16_1000000 1 (.cons rfl .nil)
    subst ho; subst hF
    exact D2 (m := []) (by decide) rfl (Ba 0 rfl rfl .nil) S16_0000000
  have S1_111110 : JA Try.prog ops1 1 #[true, true, true, true, true, false] Γ ([(18, .a [.b sa, .n false .u64 a]), (19, (qf v)), (20, .a [.b sb, .n false .u64 b]), (21, (qo 5 w))] ++ F0) [(oqf 0 v), ⟨27, 2, 0, true, [.b sb, .n false .u64 b]⟩, (oqm 0), (oqm 0), (oqm 0), (oqr w)] Q1 := by
    subst ho; subst hF
    refine Bb 5 ?_ rfl (by kernel_rfl)
    refine A7 (Ae rfl rfl rfl Au rfl rfl (zlb rfl)) rfl ?_
    refine Ai S1_111111 4 (.cons rfl (.cons rfl (.cons rfl (.cons rfl .nil))))
  have S1_111100 : JA Try.prog ops1 2 #[true, true, true, true, false, false] Γ ([(18, .a [.b sa, .n false .u64 a]), (19, (qf v)), (20, .a [.b sb, .n false .u64 b]), (21, (qo 5 w))] ++ F0) [⟨27, 2, 0, true, [.b sa, .n false .u64 a]⟩, ⟨27, 2, 0, true, [.b sb, .n false .u64 b]⟩, (oqm 0), (oqm 0), (oqm 0), (oqr w)] Q1 := by
    subst ho; subst hF
    refine Bb 4 ?_ rfl (by kernel_rfl)
    refine A7 (Ae rfl rfl rfl Au rfl rfl (zlb rfl)) rfl ?_
    refine Ai S1_111110 4 (.cons rfl (.cons rfl (.cons rfl (.cons rfl .nil))))
  have S1_111000 : JA Try.prog ops1 3 #[true, true, true, false, false, false] Γ ([(18, .a [.b sa, .n false .u64 a]), (19, (qf v)), (20, .a [.b sb, .n false .u64 b])] ++ F0) [⟨27, 2, 0, true, [.b sa, .n false .u64 a]⟩, ⟨27, 2, 0, true, [.b sb, .n false .u64 b]⟩, (oqm 0), (oqm 0), (oqm 0)] Q1 := by
    subst ho; subst hF
    refine Bb 3 ?_ rfl (by kernel_rfl)
    refine Fa Try.f32 (hNb) (fun o G ⟨_, h⟩ => h ▸ Al Bc Ar) rfl Try.func32 rfl rfl (Aa rfl Ad) (.cons (.a1 .b (.a1 .n .a0)) .nil) (hd 21 rfl) ?_ (fun ch G hp => by simp at hp)
    rintro y G ⟨hy, rfl⟩; injection hy with hy; subst hy
    show JA _ _ _ _ _ ((21, .a [.b (decide (w < 0)), .o 5 0 0 (lm w).length]) :: _) _ _
    refine Ai S1_111100 4 (.cons rfl (.cons rfl (.cons rfl (.cons rfl .nil))))
  have S1_101000 : JA Try.prog ops1 4 #[true, false, true, false, false, false] Γ ([(18, .a [.b sa, .n false .u64 a]), (20, .a [.b sb, .n false .u64 b])] ++ F0) [⟨27, 2, 0, true, [.b sa, .n false .u64 a]⟩, ⟨27, 2, 0, true, [.b sb, .n false .u64 b]⟩, (oqm 0), (oqm 0), (oqm 0)] Q1 := by
    subst ho; subst hF
    refine Bb 1 ?_ rfl (by kernel_rfl)
    refine A4 Try.f32 (hNa) rfl Try.func32 rfl rfl (Aa rfl Ad) (.cons (.a1 .b (.a1 .n .a0)) .nil) (hd 19 rfl) ?_ (fun ch hp => by simp at hp)
    rintro y hy; injection hy with hy; subst hy
    refine Ai S1_111000 3 (.cons rfl (.cons rfl (.cons rfl .nil)))
  have S1_100000 : JA Try.prog ops1 5 #[true, false, false, false, false, false] Γ ([(18, .a [.b sa, .n false .u64 a])] ++ F0) [⟨27, 2, 0, true, [.b sa, .n false .u64 a]⟩, ⟨27, 2, 0, true, [.b sb, .n false .u64 b]⟩, (oqm 0), (oqm 0), (oqm 0)] Q1 := by
    subst ho; subst hF; refine Bz 2 [3, 4, 5] (Ao (Ah Aq rfl rfl rfl rfl) (hd 20 rfl)) rfl (by kernel_rfl) (by kernel_rfl) (by kernel_rfl) (by kernel_rfl) hpan ?_
    refine Ai S1_101000 2 (.cons rfl (.cons rfl .nil))
  have S1_000000 : JA Try.prog ops1 6 #[false, false, false, false, false, false] Γ ([] ++ F0) [⟨27, 2, 0, true, [.b sa, .n false .u64 a]⟩, ⟨27, 2, 0, true, [.b sb, .n false .u64 b]⟩, (oqm 0), (oqm 0), (oqm 0)] Q1 := by
    subst ho; subst hF; refine Bz 0 [1, 3, 4, 5] (Ao (Ah Aq rfl rfl rfl rfl) (hd 18 rfl)) rfl (by kernel_rfl) (by kernel_rfl) (by kernel_rfl) (by kernel_rfl) hpan ?_
    refine Ai S1_100000 1 (.cons rfl .nil)
  subst ho; subst hF
  exact D2 (m := []) (by decide) rfl (Ba 0 rfl rfl .nil) S1_000000

theorem Nt (sa sb : Bool) (a b : List Int) (v w : Int) (la : a.length < 4294967296) (lb : b.length < 4294967296) (ua : A3 a) (ub : A3 b) (ev : sv sa a = v) (ew : sv sb b = w) (hab : Bm v + Bm w ≤ 67108700) (h0 : w ≠ 0) (hCo : SpecM Try.prog 37 [.a [.b (decide (v < 0)), .n false .u64 (lm v)], .a [.b (decide (w < 0)), .n false .u64 (lm w)]] [] (fun o G => ∃ g x : Int, (o = .ret (.t [.a [.b (decide (g < 0)), .o 0 0 0 (lm g).length], .a [.b (decide (x < 0)), .n true .u64 (lm x)]]) ∧ G = [⟨79, 1, 0, true, A2 .u64 (lm g)⟩]) ∧ CoE v w g x)) (g x : Int) (hE : CoE v w g x) : SpecM Try.prog 8 [.a [.b sa, .n false .u64 a], .a [.b sb, .n false .u64 b]] [] (fun o G => o = .ret (.t [.a [.b (decide (g < 0)), .o 0 0 0 (lm g).length], .a [.b (decide ((x % qn w g) < 0)), .o 1 0 0 (lm (x % qn w g)).length], .a [.b (decide ((wq 0 (g - v * (x % qn w g)) w) < 0)), .o 2 0 0 (lm (wq 0 (g - v * (x % qn w g)) w)).length], .i .i64 0]) ∧ G = [⟨79, 1, 0, true, A2 .u64 (lm g)⟩, ⟨79, 1, 0, true, A2 .u64 (lm (x % qn w g))⟩, ⟨79, 1, 0, true, A2 .u64 (lm (wq 0 (g - v * (x % qn w g)) w))⟩]) := by
  refine Cy [(0, .a [.b sa, .n false .u64 a]), (1, .a [.b sb, .n false .u64 b])] rfl Try.func8 rfl (zlb rfl) fun Γ hN hds hL hR => ?_
  have hd := B5 116 hN
  have hlv := Bf (v := v) (by omega)
  have hlw := Bf (v := w) (by omega)
  have hne := Nb h0
  have hne1 : (lm w).length ≠ 0 := fun e => hne (List.eq_nil_of_length_eq_zero e)
  have hNa : Spec Try.prog 32 [.a [.b sa, .n false .u64 a]] (fun o => o = .ret (.a [.b (decide (v < 0)), .n true .u64 (lm v)])) := (Hm sa a v (by omega) ua ev)
  have hNb : Spec Try.prog 32 [.a [.b sb, .n false .u64 b]] (fun o => o = .ret (.a [.b (decide (w < 0)), .n true .u64 (lm w)])) := by
    exact Hm sb b w (by omega) ub ew
  refine zsr <| Ay (Br (id := 0) (n := 2) rfl rfl rfl (by decide) rfl) (hd 2 rfl) <| Ay (Br (id := 1) (n := 2) rfl rfl rfl (by decide) rfl) (hd 3 rfl) <| Ay (An (id := 2) At (by decide) rfl (by decide) rfl) (hd 4 rfl) <| Ay (An (id := 3) At (by decide) rfl (by decide) rfl) (hd 5 rfl) <| Ay (An (id := 4) At (by decide) rfl (by decide) rfl) (hd 6 rfl) <| zas rfl (hd 7 rfl) <| Ab <| Af <| Be (n := 6) _ rfl B2 ?_; refine Db (fun _ _ _ _ h => h) fun ops1 Q1 F0 hpan ho hq hF => ?_
  have S1_111111 : JA Try.prog ops1 0 #[true, true, true, true, true, true] Γ ([(18, .a [.b sa, .n false .u64 a]), (19, (qt v)), (20, .a [.b sb, .n false .u64 b]), (21, (qt w))] ++ F0) [(oqt 0 v), (oqt 0 w), (oqm 0), (oqm 0), (oqm 0)] Q1 := by
    subst ho; subst hq; subst hF; refine Bi (by kernel_rfl) <| Af <| Af <| Cs (H' := [(oqt 0 v), (oqt 0 w), (oqm 0), (oqm 0), (oqm 0)]) rfl <| Ag <| Ac (Bd Bp rfl rfl rfl) (hd 22 rfl) <| Ac (A8 Ce rfl rfl rfl) (hd 23 rfl) ?_
    refine Aj Try.f33 (Ek v (by omega)) rfl Try.func33 rfl rfl (Aa rfl Ad) (.cons .n .nil) (hd 24 rfl) ?_ (fun ch hp => by simp at hp)
    rintro _ ⟨⟩; refine Ac (Cd (C0 rfl rfl) (by omega)) (hd 25 rfl) <| zmv rfl (hd 26 rfl) <| Bn 26 rfl rfl (Bd Bp rfl rfl rfl) (hd 27 rfl) <| Bn 26 rfl rfl (A8 Ce rfl rfl rfl) (hd 28 rfl) ?_
    refine Eb Try.f33 26 rfl rfl (Ek w (by omega)) rfl Try.func33 rfl rfl (Aa rfl Ad) (.cons .n .nil) (hd 29 rfl) ?_ (fun ch hp => by simp at hp)
    rintro _ ⟨⟩; refine Bn 26 rfl rfl (Cd (C0 rfl rfl) (by omega)) (hd 30 rfl) <| Ac (B9 rfl rfl) (hd 31 rfl) <| Ab <| Bl rfl <| Am <| Af <| zsr <| Ac (Bd Bp rfl rfl rfl) (hd 39 rfl) <| Ac (A8 Ce rfl rfl rfl) (hd 40 rfl) <| Ac (Av Bo rfl) (hd 41 rfl) <| Ac (Cd (Dy rfl rfl) (by omega)) (hd 42 rfl) <| Ab ?_; refine Bl rfl <| Am <| zsr <| Ac (Ah Aq rfl rfl rfl rfl) (hd 51 rfl) <| Ac (Ah Aq rfl rfl rfl rfl) (hd 52 rfl) ?_
    refine C9 Try.f37 (hCo) (fun o G ⟨_, _, ⟨_, h⟩, _⟩ => h ▸ Al Bc Ar) rfl Try.func37 rfl rfl (Aa rfl (Aa rfl Ad)) (.cons (.a1 .b (.a1 .n .a0)) (.cons (.a1 .b (.a1 .n .a0)) .nil)) (hd 53 rfl) ?_ (fun ch G hp => by simp at hp)
    rintro y G ⟨g9, x9, ⟨hy, hG⟩, hE9⟩; injection hy with hy; subst hy; subst hG
    obtain rfl : g = g9 := (hE.eq hE9).symm
    have hg0 := hE.ne h0
    obtain ⟨hb1, hb2, hb3⟩ := Fc hE h0
    have hg1 := hE.g0
    have hX9 : x9 % (qn w g) = (x % qn w g) := hE.mod h0 hE9
    have hXb := G1 (v := x) hb1
    have hlX : Bm (x % qn w g) ≤ Bm w := A5 (by omega)
    have hlx := A5 hE9.bx
    have hlg := A5 (hE.le h0)
    have hlst : Bm (qn w g) ≤ Bm w := A5 (by omega)
    have hm1 := G9 v (x % qn w g)
    have hm2 := Jx g (v * (x % qn w g))
    have hmg := Bf (v := g) (by omega)
    have hmx := Bf (v := (x9 : Int)) (by omega)
    have hmX := Bf (v := (x % qn w g)) (by omega)
    have hmst := Bf (v := (qn w g)) (by omega)
    have hmP := Bf (v := (v * (x % qn w g))) (by omega)
    have hmD := Bf (v := (g - v * (x % qn w g))) (by omega)
    have hqn : ((w.natAbs / (g).natAbs : Nat) : Int) = (qn w g) := by unfold qn; rfl
    have hDq : SpecM Try.prog 38 [.n false .u64 (lm w), .n false .u64 (lm g)] [] (fun o G => o = .ret (.t [.o 0 0 0 (lm (qn w g)).length, .i .i64 0]) ∧ G = [⟨79, 1, 0, true, A2 .u64 (lm (qn w g))⟩]) := by
      have h := Yk w.natAbs (g).natAbs (by rw [Hb]; omega) (by rw [Hb]; omega) (by omega)
      rwa [Pv, Pv, hqn] at h
    have hEu : SpecM Try.prog 39 [.a [.b (decide (x9 < 0)), .n false .u64 (lm x9)], .a [.b false, .n false .u64 (lm (qn w g))]] [] (fun o G => o = .ret (.t [.a [.b (decide ((wq 4 x9 (qn w g)) < 0)), .o 0 0 0 (lm (wq 4 x9 (qn w g))).length], .a [.b (decide ((x % qn w g) < 0)), .o 1 0 0 (lm (x % qn w g)).length], .i .i64 0]) ∧ G = [⟨79, 1, 0, true, A2 .u64 (lm (wq 4 x9 (qn w g)))⟩, ⟨79, 1, 0, true, A2 .u64 (lm (x % qn w g))⟩]) := by
      have h := Gj (decide (x9 < 0)) false (lm x9) (lm (qn w g)) (x9 : Int) (qn w g) (by omega) (by omega) (Cq _) (Cq _) (Cn _) (by show vl _ = _; rw [Vp (by omega)]) (by omega) (by omega) (by omega)
      rwa [euc (by omega), hX9] at h
    have hMu : SpecM Try.prog 40 [.a [.b (decide (v < 0)), .n false .u64 (lm v)], .a [.b (decide ((x % qn w g) < 0)), .n false .u64 (lm (x % qn w g))]] [] (fun o G => o = .ret (.t [.a [.b (decide ((v * (x % qn w g)) < 0)), .o 0 0 0 (lm (v * (x % qn w g))).length], .i .i64 0]) ∧ G = [⟨79, 1, 0, true, A2 .u64 (lm (v * (x % qn w g)))⟩]) := by
      have h := Ov (decide (v < 0)) (decide ((x % qn w g) < 0)) (lm v) (lm (x % qn w g)) (by omega) (by omega) (Cq _) (Cq _) (by rw [Cn, Cn]; omega)
      rwa [Cn, Cn] at h
    have hSu : SpecM Try.prog 42 [.a [.b (decide (g < 0)), .n false .u64 (lm g)], .a [.b (decide ((v * (x % qn w g)) < 0)), .n false .u64 (lm (v * (x % qn w g)))]] [] (fun o G => o = .ret (.t [.a [.b (decide ((g - v * (x % qn w g)) < 0)), .o 0 0 0 (lm (g - v * (x % qn w g))).length], .i .i64 0]) ∧ G = [⟨79, 1, 0, true, A2 .u64 (lm (g - v * (x % qn w g)))⟩]) := by
      have h := Ot (decide (g < 0)) (decide ((v * (x % qn w g)) < 0)) (lm g) (lm (v * (x % qn w g))) (by omega) (by omega) (Cq _) (Cq _) (by rw [Cn, Cn]; omega)
      rwa [Cn, Cn] at h
    have hQu : SpecM Try.prog 43 [.a [.b (decide ((g - v * (x % qn w g)) < 0)), .n false .u64 (lm (g - v * (x % qn w g)))], .a [.b (decide (w < 0)), .n false .u64 (lm w)]] [] (fun o G => o = .ret (.t [.a [.b (decide ((wq 0 (g - v * (x % qn w g)) w) < 0)), .o 0 0 0 (lm (wq 0 (g - v * (x % qn w g)) w)).length], .a [.b (decide (((g - v * (x % qn w g)) - (wq 0 (g - v * (x % qn w g)) w) * w) < 0)), .o 1 0 0 (lm ((g - v * (x % qn w g)) - (wq 0 (g - v * (x % qn w g)) w) * w)).length], .i .i64 0]) ∧ G = [⟨79, 1, 0, true, A2 .u64 (lm (wq 0 (g - v * (x % qn w g)) w))⟩, ⟨79, 1, 0, true, A2 .u64 (lm ((g - v * (x % qn w g)) - (wq 0 (g - v * (x % qn w g)) w) * w))⟩]) := Adw (decide ((g - v * (x % qn w g)) < 0)) (decide (w < 0)) (lm (g - v * (x % qn w g))) (lm w) (g - v * (x % qn w g)) w (by omega) (by omega) (Cq _) (Cq _) (Cn _) (Cn _) (by omega) (by omega) h0
    obtain ⟨R9, eR9⟩ : ∃ R9 : Int, R9 = ((g - v * (x % qn w g)) - (wq 0 (g - v * (x % qn w g)) w) * w) := ⟨_, rfl⟩
    rw [← eR9] at hQu
    obtain ⟨Y9, eY9⟩ : ∃ Y9 : Int, Y9 = (wq 0 (g - v * (x % qn w g)) w) := ⟨_, rfl⟩
    rw [← eY9] at hQu
    obtain ⟨D9, eD9⟩ : ∃ D9 : Int, D9 = (g - v * (x % qn w g)) := ⟨_, rfl⟩
    rw [← eD9] at hSu hQu hmD hm2 eY9
    obtain ⟨P9, eP9⟩ : ∃ P9 : Int, P9 = (v * (x % qn w g)) := ⟨_, rfl⟩
    rw [← eP9] at hMu hSu hm1 hm2 hmP eD9
    obtain ⟨X9, eX9⟩ : ∃ X9 : Int, X9 = (x % qn w g) := ⟨_, rfl⟩
    rw [← eX9] at hEu hMu hX9 hXb hlX hm1 hmX eP9
    show JO _ _ _ _ ((53, .t [.a [.b (decide (g < 0)), .o 5 0 0 (lm g).length], .a [.b (decide (x9 < 0)), .n true .u64 (lm x9)]]) :: _) _ _
    refine zmv rfl (hd 50 rfl) <| Ac (Ak rfl rfl) (hd 54 rfl) <| Ac (Ak rfl rfl) (hd 55 rfl) <| Ay (An (id := 6) At (by decide) rfl (by decide) rfl) (hd 8 rfl) <| Ay (An (id := 7) At (by decide) rfl (by decide) rfl) (hd 9 rfl) <| A1 (Ae rfl rfl rfl Au rfl rfl (zlb rfl)) <| A1 (Ae rfl rfl rfl Au rfl rfl (zlb rfl)) <| Ab <| Af <| Cs (H' := [(oqt 0 v), (oqt 0 w), (oqm 0), (oqm 0), (oqm 0), (oqr g), (oqo 0 5 g), (oqt 0 x9)]) rfl <| Ag <| Ac (Bd Bp rfl rfl rfl) (hd 57 rfl) <| Ac (A8 Ce rfl rfl rfl) (hd 58 rfl) ?_; refine Ac (Bd Bp rfl rfl rfl) (hd 59 rfl) <| Ac (A8 Ce rfl rfl rfl) (hd 60 rfl) ?_
    refine Ds Try.f38 (hDq) (fun o G ⟨_, h⟩ => h ▸ C1 Di Eg) (fun y G ⟨hy, _⟩ => by injection hy with hy; subst hy; rfl) rfl Try.func38 rfl rfl (Aa rfl (Aa rfl Ad)) (.a1 .n (.a1 (.o rfl (by simp) (by rw [List.drop_zero, List.take_length])) .a0)) (.cons .n (.cons .n .nil)) hL (hd 61 rfl) ?_ (fun ch G hp => by simp at hp)
    rintro y G ⟨hy, rfl⟩; injection hy with hy; subst hy
    show JO _ _ _ _ ((61, .t [.o 8 0 0 (lm (qn w g)).length, .i .i64 0]) :: _) _ _
    refine zmv rfl (hd 56 rfl) <| Ac (Ak rfl rfl) (hd 62 rfl) <| Ac (Ak rfl rfl) (hd 63 rfl) <| zas rfl (hd 10 rfl) <| zas rfl (hd 11 rfl) <| Ab <| Af <| Cs (H' := [(oqt 0 v), (oqt 0 w), (oqm 0), (oqm 0), (oqm 0), (oqr g), (oqo 0 5 g), (oqt 0 x9), (oqr (qn w g))]) rfl <| Ag <| Ac (Ah Aq rfl rfl rfl rfl) (hd 65 rfl) <| zmv rfl (hd 66 rfl) <| Ac (B3 (is := [1]) (xs := [.tmp 66]) At F1 rfl (Aa rfl Ad) rfl (by first | (simp [Ck, cellsV]; done) | (simp [Ck, cellsV, old]; done)) (Cj rfl) rfl) (hd 67 rfl) ?_
    refine Ds Try.f39 (hEu) (fun o G ⟨_, h⟩ => h ▸ C1 Di (C1 Di Eg)) (fun y G ⟨hy, _⟩ => by injection hy with hy; subst hy; rfl) rfl Try.func39 rfl rfl (Aa rfl (Aa rfl Ad)) (.a1 (.a1 .b (.a1 .n .a0)) (.a1 (.a1 .b (.a1 (.o rfl (by simp) (by rw [List.drop_zero, List.take_length])) .a0)) .a0)) (.cons (.a1 .b (.a1 .n .a0)) (.cons (.a1 .b (.a1 .n .a0)) .nil)) hL (hd 68 rfl) ?_ (fun ch G hp => by simp at hp)
    rintro y G ⟨hy, rfl⟩; injection hy with hy; subst hy
    show JO _ _ _ _ ((68, .t [.a [.b (decide ((wq 4 x9 (qn w g)) < 0)), .o 9 0 0 (lm (wq 4 x9 (qn w g))).length], .a [.b (decide (X9 < 0)), .o 10 0 0 (lm X9).length], .i .i64 0]) :: _) _ _
    refine zmv rfl (hd 64 rfl) <| Ac (Ak rfl rfl) (hd 69 rfl) <| Ac (Ak rfl rfl) (hd 70 rfl) <| Ac (Ak rfl rfl) (hd 71 rfl) <| A1 (Ae rfl rfl rfl Au rfl rfl (zlb rfl)) <| Ab <| Af <| Cs (H' := [(oqt 0 v), (oqt 0 w), (oqm 0), (oqm 0), (oqm 0), (oqr g), (oqo 0 5 g), (oqo 0 10 X9), (oqr (qn w g)), (oqr (wq 4 x9 (qn w g))), (oqr X9)]) rfl <| Ag <| Ac (Ah Aq rfl rfl rfl rfl) (hd 73 rfl) <| Ac (Ah Aq rfl rfl rfl rfl) (hd 74 rfl) ?_
    refine Ds Try.f40 (hMu) (fun o G ⟨_, h⟩ => h ▸ C1 Di Eg) (fun y G ⟨hy, _⟩ => by injection hy with hy; subst hy; rfl) rfl Try.func40 rfl rfl (Aa rfl (Aa rfl Ad)) (.a1 (.a1 .b (.a1 .n .a0)) (.a1 (.a1 .b (.a1 (.o rfl (by simp) (by rw [List.drop_zero, List.take_length])) .a0)) .a0)) (.cons (.a1 .b (.a1 .n .a0)) (.cons (.a1 .b (.a1 .n .a0)) .nil)) hL (hd 75 rfl) ?_ (fun ch G hp => by simp at hp)
    rintro y G ⟨hy, rfl⟩; injection hy with hy; subst hy
    show JO _ _ _ _ ((75, .t [.a [.b (decide (P9 < 0)), .o 11 0 0 (lm P9).length], .i .i64 0]) :: _) _ _
    refine zmv rfl (hd 72 rfl) <| Ac (Ak rfl rfl) (hd 76 rfl) <| Ac (Ak rfl rfl) (hd 77 rfl) <| Ay (An (id := 12) At (by decide) rfl (by decide) rfl) (hd 12 rfl) <| A1 (Ae rfl rfl rfl Au rfl rfl (zlb rfl)) <| zas rfl (hd 13 rfl) <| Ab <| Af <| zsr <| zmv rfl (hd 78 rfl) <| Ac (Cd (Cm rfl rfl) (by decide)) (hd 79 rfl) <| Ab ?_; refine Bl rfl <| Am <| Af <| Cs (H' := [(oqt 0 v), (oqt 0 w), (oqm 0), (oqm 0), (oqm 0), (oqr g), (oqo 0 5 g), (oqo 0 10 X9), (oqr (qn w g)), (oqr (wq 4 x9 (qn w g))), (oqr X9), (oqr P9), (oqo 0 11 P9)]) rfl <| Ag <| Ac (Ah Aq rfl rfl rfl rfl) (hd 90 rfl) <| Ac (Ah Aq rfl rfl rfl rfl) (hd 91 rfl) ?_
    refine Ds Try.f42 (hSu) (fun o G ⟨_, h⟩ => h ▸ C1 Di Eg) (fun y G ⟨hy, _⟩ => by injection hy with hy; subst hy; rfl) rfl Try.func42 rfl rfl (Aa rfl (Aa rfl Ad)) (.a1 (.a1 .b (.a1 (.o rfl (by simp) (by rw [List.drop_zero, List.take_length])) .a0)) (.a1 (.a1 .b (.a1 (.o rfl (by simp) (by rw [List.drop_zero, List.take_length])) .a0)) .a0)) (.cons (.a1 .b (.a1 .n .a0)) (.cons (.a1 .b (.a1 .n .a0)) .nil)) hL (hd 92 rfl) ?_ (fun ch G hp => by simp at hp)
    rintro y G ⟨hy, rfl⟩; injection hy with hy; subst hy
    show JO _ _ _ _ ((92, .t [.a [.b (decide (D9 < 0)), .o 13 0 0 (lm D9).length], .i .i64 0]) :: _) _ _
    refine zmv rfl (hd 89 rfl) <| Ac (Ak rfl rfl) (hd 93 rfl) <| Ac (Ak rfl rfl) (hd 94 rfl) <| Ay (An (id := 14) At (by decide) rfl (by decide) rfl) (hd 14 rfl) <| A1 (Ae rfl rfl rfl Au rfl rfl (zlb rfl)) <| zas rfl (hd 13 rfl) <| Ab <| Af <| zsr <| zmv rfl (hd 95 rfl) <| Ac (Cd (Cm rfl rfl) (by decide)) (hd 96 rfl) <| Ab ?_; refine Bl rfl <| Am <| Af <| Cs (H' := [(oqt 0 v), (oqt 0 w), (oqm 0), (oqm 0), (oqm 0), (oqr g), (oqo 0 5 g), (oqo 0 10 X9), (oqr (qn w g)), (oqr (wq 4 x9 (qn w g))), (oqr X9), (oqr P9), (oqo 0 11 P9), (oqr D9), (oqo 0 13 D9)]) rfl <| Ag <| Ac (Ah Aq rfl rfl rfl rfl) (hd 107 rfl) <| Ac (Ah Aq rfl rfl rfl rfl) (hd 108 rfl) ?_
    refine Ds Try.f43 (hQu) (fun o G ⟨_, h⟩ => h ▸ C1 Di (C1 Di Eg)) (fun y G ⟨hy, _⟩ => by injection hy with hy; subst hy; rfl) rfl Try.func43 rfl rfl (Aa rfl (Aa rfl Ad)) (.a1 (.a1 .b (.a1 (.o rfl (by simp) (by rw [List.drop_zero, List.take_length])) .a0)) (.a1 (.a1 .b (.a1 .n .a0)) .a0)) (.cons (.a1 .b (.a1 .n .a0)) (.cons (.a1 .b (.a1 .n .a0)) .nil)) hL (hd 109 rfl) ?_ (fun ch G hp => by simp at hp)
    rintro y G ⟨hy, rfl⟩; injection hy with hy; subst hy
    show JO _ _ _ _ ((109, .t [.a [.b (decide (Y9 < 0)), .o 15 0 0 (lm Y9).length], .a [.b (decide (R9 < 0)), .o 16 0 0 (lm R9).length], .i .i64 0]) :: _) _ _
    refine zmv rfl (hd 106 rfl) <| Ac (Ak rfl rfl) (hd 110 rfl) <| Ac (Ak rfl rfl) (hd 111 rfl) <| Ac (Ak rfl rfl) (hd 112 rfl) <| Ay (An (id := 17) At (by decide) rfl (by decide) rfl) (hd 15 rfl) <| Ay (An (id := 18) At (by decide) rfl (by decide) rfl) (hd 16 rfl) <| A1 (Ae rfl rfl rfl Au rfl rfl (zlb rfl)) <| A1 (Ae rfl rfl rfl Au rfl rfl (zlb rfl)) <| zas rfl (hd 17 rfl) <| Ab <| Af <| Cs (H' := [(oqt 0 v), (oqt 0 w), (oqm 0), (oqm 0), (oqm 0), (oqr g), (oqo 0 5 g), (oqo 0 10 X9), (oqr (qn w g)), (oqr (wq 4 x9 (qn w g))), (oqr X9), (oqr P9), (oqo 0 11 P9), (oqr D9), (oqo 0 13 D9), (oqr Y9), (oqr R9), (oqo 0 15 Y9), (oqo 0 16 R9)]) rfl <| Be (n := 7) _ rfl B2 ?_; refine Db (fun _ _ _ _ h => h) fun ops1 Q1 F0 hpan ho hq hF => ?_
    have S16_1111111 : JA Try.prog ops1 0 #[true, true, true, true, true, true, true] Γ ([(7, .i .i64 0), (113, (qo 5 g)), (114, (qo 10 X9)), (115, (qo 15 Y9))] ++ F0) [(oqt 0 v), (oqt 0 w), (oqo 0 5 g), (oqo 0 10 X9), (oqo 0 15 Y9), (oqr g), (oqo 0 5 g), (oqo 0 10 X9), (oqr (qn w g)), (oqr (wq 4 x9 (qn w g))), (oqr X9), (oqr P9), (oqo 0 11 P9), (oqr D9), (oqo 0 13 D9), (oqr Y9), (oqr R9), (oqo 0 15 Y9), (oqo 0 16 R9)] Q1 := by
      subst ho; subst hq; subst hF; refine Bi (by kernel_rfl) <| As ?_
      refine ⟨[5, 10, 15], _, (.t [.a [.b (decide (g < 0)), .o 0 0 0 (lm g).length], .a [.b (decide (X9 < 0)), .o 1 0 0 (lm X9).length], .a [.b (decide (Y9 < 0)), .o 2 0 0 (lm Y9).length], .i .i64 0]), (.cons (ResV.cell Aq rfl rfl rfl rfl) (.cons (ResV.cell Aq rfl rfl rfl rfl) (.cons (ResV.cell Aq rfl rfl rfl rfl) (.cons rfl .nil)))), rfl, rfl, (by decide), (Al Bc (Al Bc (Al Bc Ar))), ?_⟩
      rw [← eX9, ← eP9, ← eD9, ← eY9]
      exact ⟨rfl, rfl⟩
    have S16_1111110 : JA Try.prog ops1 1 #[true, true, true, true, true, true, false] Γ ([(113, (qo 5 g)), (114, (qo 10 X9)), (115, (qo 15 Y9))] ++ F0) [(oqt 0 v), (oqt 0 w), (oqo 0 5 g), (oqo 0 10 X9), (oqo 0 15 Y9), (oqr g), (oqo 0 5 g), (oqo 0 10 X9), (oqr (qn w g)), (oqr (wq 4 x9 (qn w g))), (oqr X9), (oqr P9), (oqo 0 11 P9), (oqr D9), (oqo 0 13 D9), (oqr Y9), (oqr R9), (oqo 0 15 Y9), (oqo 0 16 R9)] Q1 := by
      subst ho; subst hF; refine Bz 6 [] (Z0 rfl (hd 7 rfl)) rfl (by kernel_rfl) (by kernel_rfl) (by kernel_rfl) (by kernel_rfl) hpan ?_
      refine Ai S16_1111111 4 (.cons rfl (.cons rfl (.cons rfl (.cons rfl .nil))))
    have S16_1111100 : JA Try.prog ops1 2 #[true, true, true, true, true, false, false] Γ ([(113, (qo 5 g)), (114, (qo 10 X9)), (115, (qo 15 Y9))] ++ F0) [(oqt 0 v), (oqt 0 w), (oqo 0 5 g), (oqo 0 10 X9), (oqm 0), (oqr g), (oqo 0 5 g), (oqo 0 10 X9), (oqr (qn w g)), (oqr (wq 4 x9 (qn w g))), (oqr X9), (oqr P9), (oqo 0 11 P9), (oqr D9), (oqo 0 13 D9), (oqr Y9), (oqr R9), (oqo 0 15 Y9), (oqo 0 16 R9)] Q1 := by
      subst ho; subst hF
      refine Bb 5 ?_ rfl (by kernel_rfl)
      refine A7 (Ae rfl rfl rfl Au rfl rfl (zlb rfl)) rfl ?_
      refine Ai S16_1111110 3 (.cons rfl (.cons rfl (.cons rfl .nil)))
    have S16_1111000 : JA Try.prog ops1 3 #[true, true, true, true, false, false, false] Γ ([(113, (qo 5 g)), (114, (qo 10 X9)), (115, (qo 15 Y9))] ++ F0) [(oqt 0 v), (oqt 0 w), (oqo 0 5 g), (oqm 0), (oqm 0), (oqr g), (oqo 0 5 g), (oqo 0 10 X9), (oqr (qn w g)), (oqr (wq 4 x9 (qn w g))), (oqr X9), (oqr P9), (oqo 0 11 P9), (oqr D9), (oqo 0 13 D9), (oqr Y9), (oqr R9), (oqo 0 15 Y9), (oqo 0 16 R9)] Q1 := by
      subst ho; subst hF
      refine Bb 4 ?_ rfl (by kernel_rfl)
      refine A7 (Ae rfl rfl rfl Au rfl rfl (zlb rfl)) rfl ?_
      refine Ai S16_1111100 3 (.cons rfl (.cons rfl (.cons rfl .nil)))
    have S16_1110000 : JA Try.prog ops1 4 #[true, true, true, false, false, false, false] Γ ([(113, (qo 5 g)), (114, (qo 10 X9)), (115, (qo 15 Y9))] ++ F0) [(oqt 0 v), (oqt 0 w), (oqm 0), (oqm 0), (oqm 0), (oqr g), (oqo 0 5 g), (oqo 0 10 X9), (oqr (qn w g)), (oqr (wq 4 x9 (qn w g))), (oqr X9), (oqr P9), (oqo 0 11 P9), (oqr D9), (oqo 0 13 D9), (oqr Y9), (oqr R9), (oqo 0 15 Y9), (oqo 0 16 R9)] Q1 := by
      subst ho; subst hF
      refine Bb 3 ?_ rfl (by kernel_rfl)
      refine A7 (Ae rfl rfl rfl Au rfl rfl (zlb rfl)) rfl ?_
      refine Ai S16_1111000 3 (.cons rfl (.cons rfl (.cons rfl .nil)))
    have S16_1101100 : JA Try.prog ops1 3 #[true, true, false, true, true, false, false] Γ ([(113, (qo 5 g)), (114, (qo 10 X9))] ++ F0) [(oqt 0 v), (oqt 0 w), (oqo 0 5 g), (oqo 0 10 X9), (oqm 0), (oqr g), (oqo 0 5 g), (oqo 0 10 X9), (oqr (qn w g)), (oqr (wq 4 x9 (qn w g))), (oqr X9), (oqr P9), (oqo 0 11 P9), (oqr D9), (oqo 0 13 D9), (oqr Y9), (oqr R9), (oqo 0 15 Y9), (oqo 0 16 R9)] Q1 := by
      subst ho; subst hF; refine Bz 2 [5, 6] (Ao (Ah Aq rfl rfl rfl rfl) (hd 115 rfl)) rfl (by kernel_rfl) (by kernel_rfl) (by kernel_rfl) (by kernel_rfl) hpan ?_
      refine Ai S16_1111100 3 (.cons rfl (.cons rfl (.cons rfl .nil)))
    have S16_1101000 : JA Try.prog ops1 4 #[true, true, false, true, false, false, false] Γ ([(113, (qo 5 g)), (114, (qo 10 X9))] ++ F0) [(oqt 0 v), (oqt 0 w), (oqo 0 5 g), (oqm 0), (oqm 0), (oqr g), (oqo 0 5 g), (oqo 0 10 X9), (oqr (qn w g)), (oqr (wq 4 x9 (qn w g))), (oqr X9), (oqr P9), (oqo 0 11 P9), (oqr D9), (oqo 0 13 D9), (oqr Y9), (oqr R9), (oqo 0 15 Y9), (oqo 0 16 R9)] Q1 := by
      subst ho; subst hF
      refine Ct 2 4 ?_ ?_ rfl rfl (by kernel_rfl)
      · refine C4 (Ah Aq rfl rfl rfl rfl) (hd 115 rfl) ?_
        refine Ai S16_1111000 3 (.cons rfl (.cons rfl (.cons rfl .nil)))
      · refine A7 (Ae rfl rfl rfl Au rfl rfl (zlb rfl)) rfl ?_
        refine Ai S16_1101100 2 (.cons rfl (.cons rfl .nil))
    have S16_1100000 : JA Try.prog ops1 5 #[true, true, false, false, false, false, false] Γ ([(113, (qo 5 g)), (114, (qo 10 X9))] ++ F0) [(oqt 0 v), (oqt 0 w), (oqm 0), (oqm 0), (oqm 0), (oqr g), (oqo 0 5 g), (oqo 0 10 X9), (oqr (qn w g)), (oqr (wq 4 x9 (qn w g))), (oqr X9), (oqr P9), (oqo 0 11 P9), (oqr D9), (oqo 0 13 D9), (oqr Y9), (oqr R9), (oqo 0 15 Y9), (oqo 0 16 R9)] Q1 := by
      subst ho; subst hF
      refine Ct 2 3 ?_ ?_ rfl rfl (by kernel_rfl)
      · refine C4 (Ah Aq rfl rfl rfl rfl) (hd 115 rfl) ?_
        refine Ai S16_1110000 3 (.cons rfl (.cons rfl (.cons rfl .nil)))
      · refine A7 (Ae rfl rfl rfl Au rfl rfl (zlb rfl)) rfl ?_
        refine Ai S16_1101000 2 (.cons rfl (.cons rfl .nil))
    have S16_1011000 : JA Try.prog ops1 4 #[true, false, true, true, false, false, false] Γ ([(113, (qo 5 g)), (115, (qo 15 Y9))] ++ F0) [(oqt 0 v), (oqt 0 w), (oqo 0 5 g), (oqm 0), (oqm 0), (oqr g), (oqo 0 5 g), (oqo 0 10 X9), (oqr (qn w g)), (oqr (wq 4 x9 (qn w g))), (oqr X9), (oqr P9), (oqo 0 11 P9), (oqr D9), (oqo 0 13 D9), (oqr Y9), (oqr R9), (oqo 0 15 Y9), (oqo 0 16 R9)] Q1 := by
      subst ho; subst hF; refine Bz 1 [4, 5, 6] (Ao (Ah Aq rfl rfl rfl rfl) (hd 114 rfl)) rfl (by kernel_rfl) (by kernel_rfl) (by kernel_rfl) (by kernel_rfl) hpan ?_
      refine Ai S16_1111000 3 (.cons rfl (.cons rfl (.cons rfl .nil)))
    have S16_1010000 : JA Try.prog ops1 5 #[true, false, true, false, false, false, false] Γ ([(113, (qo 5 g)), (115, (qo 15 Y9))] ++ F0) [(oqt 0 v), (oqt 0 w), (oqm 0), (oqm 0), (oqm 0), (oqr g), (oqo 0 5 g), (oqo 0 10 X9), (oqr (qn w g)), (oqr (wq 4 x9 (qn w g))), (oqr X9), (oqr P9), (oqo 0 11 P9), (oqr D9), (oqo 0 13 D9), (oqr Y9), (oqr R9), (oqo 0 15 Y9), (oqo 0 16 R9)] Q1 := by
      subst ho; subst hF
      refine Ct 1 3 ?_ ?_ rfl rfl (by kernel_rfl)
      · refine C4 (Ah Aq rfl rfl rfl rfl) (hd 114 rfl) ?_
        refine Ai S16_1110000 3 (.cons rfl (.cons rfl (.cons rfl .nil)))
      · refine A7 (Ae rfl rfl rfl Au rfl rfl (zlb rfl)) rfl ?_
        refine Ai S16_1011000 2 (.cons rfl (.cons rfl .nil))
    have S16_1001000 : JA Try.prog ops1 5 #[true, false, false, true, false, false, false] Γ ([(113, (qo 5 g))] ++ F0) [(oqt 0 v), (oqt 0 w), (oqo 0 5 g), (oqm 0), (oqm 0), (oqr g), (oqo 0 5 g), (oqo 0 10 X9), (oqr (qn w g)), (oqr (wq 4 x9 (qn w g))), (oqr X9), (oqr P9), (oqo 0 11 P9), (oqr D9), (oqo 0 13 D9), (oqr Y9), (oqr R9), (oqo 0 15 Y9), (oqo 0 16 R9)] Q1 := by
      subst ho; subst hF; refine Bz 1 [4, 5, 6] (Ao (Ah Aq rfl rfl rfl rfl) (hd 114 rfl)) rfl (by kernel_rfl) (by kernel_rfl) (by kernel_rfl) (by kernel_rfl) hpan ?_
      refine Ai S16_1101000 2 (.cons rfl (.cons rfl .nil))
    have S16_1000000 : JA Try.prog ops1 6 #[true, false, false, false, false, false, false] Γ ([(113, (qo 5 g))] ++ F0) [(oqt 0 v), (oqt 0 w), (oqm 0), (oqm 0), (oqm 0), (oqr g), (oqo 0 5 g), (oqo 0 10 X9), (oqr (qn w g)), (oqr (wq 4 x9 (qn w g))), (oqr X9), (oqr P9), (oqo 0 11 P9), (oqr D9), (oqo 0 13 D9), (oqr Y9), (oqr R9), (oqo 0 15 Y9), (oqo 0 16 R9)] Q1 := by
      subst ho; subst hF
      refine Rc 1 2 3 ?_ ?_ ?_ rfl rfl rfl (by kernel_rfl)
      · refine C4 (Ah Aq rfl rfl rfl rfl) (hd 114 rfl) ?_
        refine Ai S16_1100000 2 (.cons rfl (.cons rfl .nil))
      · refine C4 (Ah Aq rfl rfl rfl rfl) (hd 115 rfl) ?_
        refine Ai S16_1010000 2 (.cons rfl (.cons rfl .nil))
      · refine A7 (Ae rfl rfl rfl Au rfl rfl (zlb rfl)) rfl ?_
        refine Ai S16_1001000 1 (.cons rfl .nil)
    have S16_0000000 : JA Try.prog ops1 7 #[false, false, false, false, false, false, false] Γ ([] ++ F0) [(oqt 0 v), (oqt 0 w), (oqm 0), (oqm 0), (oqm 0), (oqr g), (oqo 0 5 g), (oqo 0 10 X9), (oqr (qn w g)), (oqr (wq 4 x9 (qn w g))), (oqr X9), (oqr P9), (oqo 0 11 P9), (oqr D9), (oqo 0 13 D9), (oqr Y9), (oqr R9), (oqo 0 15 Y9), (oqo 0 16 R9)] Q1 := by
      subst ho; subst hF; refine Bz 0 [3, 4, 5, 6] (Ao (Ah Aq rfl rfl rfl rfl) (hd 113 rfl)) rfl (by kernel_rfl) (by kernel_rfl) (by kernel_rfl) (by kernel_rfl) hpan ?_
      refine Ai S16_1000000 1 (.cons rfl .nil)
    subst ho; subst hF
    exact D2 (m := []) (by decide) rfl (Ba 0 rfl rfl .nil) S16_0000000
  have S1_111110 : JA Try.prog ops1 1 #[true, true, true, true, true, false] Γ ([(18, .a [.b sa, .n false .u64 a]), (19, (qt v)), (20, .a [.b sb, .n false .u64 b]), (21, (qt w))] ++ F0) [(oqt 0 v), ⟨27, 2, 0, true, [.b sb, .n false .u64 b]⟩, (oqm 0), (oqm 0), (oqm 0)] Q1 := by
    subst ho; subst hF
    refine Bb 5 ?_ rfl (by kernel_rfl)
    refine A7 (Ae rfl rfl rfl Au rfl rfl (zlb rfl)) rfl ?_
    refine Ai S1_111111 4 (.cons rfl (.cons rfl (.cons rfl (.cons rfl .nil))))
  have S1_111100 : JA Try.prog ops1 2 #[true, true, true, true, false, false] Γ ([(18, .a [.b sa, .n false .u64 a]), (19, (qt v)), (20, .a [.b sb, .n false .u64 b]), (21, (qt w))] ++ F0) [⟨27, 2, 0, true, [.b sa, .n false .u64 a]⟩, ⟨27, 2, 0, true, [.b sb, .n false .u64 b]⟩, (oqm 0), (oqm 0), (oqm 0)] Q1 := by
    subst ho; subst hF
    refine Bb 4 ?_ rfl (by kernel_rfl)
    refine A7 (Ae rfl rfl rfl Au rfl rfl (zlb rfl)) rfl ?_
    refine Ai S1_111110 4 (.cons rfl (.cons rfl (.cons rfl (.cons rfl .nil))))
  have S1_111000 : JA Try.prog ops1 3 #[true, true, true, false, false, false] Γ ([(18, .a [.b sa, .n false .u64 a]), (19, (qt v)), (20, .a [.b sb, .n false .u64 b])] ++ F0) [⟨27, 2, 0, true, [.b sa, .n false .u64 a]⟩, ⟨27, 2, 0, true, [.b sb, .n false .u64 b]⟩, (oqm 0), (oqm 0), (oqm 0)] Q1 := by
    subst ho; subst hF
    refine Bb 3 ?_ rfl (by kernel_rfl)
    refine A4 Try.f32 (hNb) rfl Try.func32 rfl rfl (Aa rfl Ad) (.cons (.a1 .b (.a1 .n .a0)) .nil) (hd 21 rfl) ?_ (fun ch hp => by simp at hp)
    rintro y hy; injection hy with hy; subst hy
    refine Ai S1_111100 4 (.cons rfl (.cons rfl (.cons rfl (.cons rfl .nil))))
  have S1_101000 : JA Try.prog ops1 4 #[true, false, true, false, false, false] Γ ([(18, .a [.b sa, .n false .u64 a]), (20, .a [.b sb, .n false .u64 b])] ++ F0) [⟨27, 2, 0, true, [.b sa, .n false .u64 a]⟩, ⟨27, 2, 0, true, [.b sb, .n false .u64 b]⟩, (oqm 0), (oqm 0), (oqm 0)] Q1 := by
    subst ho; subst hF
    refine Bb 1 ?_ rfl (by kernel_rfl)
    refine A4 Try.f32 (hNa) rfl Try.func32 rfl rfl (Aa rfl Ad) (.cons (.a1 .b (.a1 .n .a0)) .nil) (hd 19 rfl) ?_ (fun ch hp => by simp at hp)
    rintro y hy; injection hy with hy; subst hy
    refine Ai S1_111000 3 (.cons rfl (.cons rfl (.cons rfl .nil)))
  have S1_100000 : JA Try.prog ops1 5 #[true, false, false, false, false, false] Γ ([(18, .a [.b sa, .n false .u64 a])] ++ F0) [⟨27, 2, 0, true, [.b sa, .n false .u64 a]⟩, ⟨27, 2, 0, true, [.b sb, .n false .u64 b]⟩, (oqm 0), (oqm 0), (oqm 0)] Q1 := by
    subst ho; subst hF; refine Bz 2 [3, 4, 5] (Ao (Ah Aq rfl rfl rfl rfl) (hd 20 rfl)) rfl (by kernel_rfl) (by kernel_rfl) (by kernel_rfl) (by kernel_rfl) hpan ?_
    refine Ai S1_101000 2 (.cons rfl (.cons rfl .nil))
  have S1_000000 : JA Try.prog ops1 6 #[false, false, false, false, false, false] Γ ([] ++ F0) [⟨27, 2, 0, true, [.b sa, .n false .u64 a]⟩, ⟨27, 2, 0, true, [.b sb, .n false .u64 b]⟩, (oqm 0), (oqm 0), (oqm 0)] Q1 := by
    subst ho; subst hF; refine Bz 0 [1, 3, 4, 5] (Ao (Ah Aq rfl rfl rfl rfl) (hd 18 rfl)) rfl (by kernel_rfl) (by kernel_rfl) (by kernel_rfl) (by kernel_rfl) hpan ?_
    refine Ai S1_100000 1 (.cons rfl .nil)
  subst ho; subst hF
  exact D2 (m := []) (by decide) rfl (Ba 0 rfl rfl .nil) S1_000000

theorem W2 (sa sb : Bool) (a b : List Int) (v w : Int) (la : a.length < 4294967296) (lb : b.length < 4294967296) (ua : A3 a) (ub : A3 b) (ev : sv sa a = v) (ew : sv sb b = w) (hab : Bm v + Bm w ≤ 67108700) (h0 : w ≠ 0) (g x : Int) (hE : CoE v w g x) : SpecM Try.prog 8 [.a [.b sa, .n false .u64 a], .a [.b sb, .n false .u64 b]] [] (fun o G => o = .ret (.t [.a [.b (decide (g < 0)), .o 0 0 0 (lm g).length], .a [.b (decide ((x % qn w g) < 0)), .o 1 0 0 (lm (x % qn w g)).length], .a [.b (decide ((wq 0 (g - v * (x % qn w g)) w) < 0)), .o 2 0 0 (lm (wq 0 (g - v * (x % qn w g)) w)).length], .i .i64 0]) ∧ G = [⟨79, 1, 0, true, A2 .u64 (lm g)⟩, ⟨79, 1, 0, true, A2 .u64 (lm (x % qn w g))⟩, ⟨79, 1, 0, true, A2 .u64 (lm (wq 0 (g - v * (x % qn w g)) w))⟩]) := by
  by_cases hdv : w ∣ v
  · rcases Int.lt_or_le w 0 with hw | hw
    · exact Nt sa sb a b v w la lb ua ub ev ew hab h0 (Q5 v w (by omega) (by omega) h0 hdv hw) g x hE
    · have hw0 : 0 < w := by omega
      obtain rfl : w = g := hE.eq (Adh hw0 hdv)
      exact Ve sa sb a b v w la lb ua ub ev ew hab h0 hdv hw0 x hE
  · exact Nt sa sb a b v w la lb ua ub ev ew hab h0 (Q4 v w (by omega) (by omega) h0 hdv) g x hE

theorem Tl {P : Program} {Γ : Ctx} {F : Fr} {H : List Ob} {Q : Exit → Fr → List Ob → Prop} {ops : Array Oper} {rest : List Oper} (t : Nat) {b : Bool} (hx : Cl F t = some (.a [.b b, .c (.slice none 0 0)])) (j : JO P ops rest Γ ((t, .a [.b b, .n false .u64 []]) :: F) H Q) : JO P ops rest Γ F H Q := fun a w ⟨ρ, s⟩ =>
  j a w ⟨ρ, s.recast t hx fun v r => by
    obtain ⟨us, e, u, us1, e1, h1, u2, us2, e2, h2, h3⟩ := r
    exact ⟨us, e, u, us1, e1, h1, u2, us2, e2, by rw [show u2 = .slice none 0 0 from h2]; exact I8, h3⟩⟩

theorem Vf (sa sb : Bool) (a b : List Int) (v : Int) (la : a.length < 4294967296) (lb : b.length < 4294967296) (ua : A3 a) (ub : A3 b) (ev : sv sa a = v) (ew : sv sb b = 0) (hab : Bm v ≤ 67108700) : SpecM Try.prog 8 [.a [.b sa, .n false .u64 a], .a [.b sb, .n false .u64 b]] [] (fun o G => o = .ret (.t [.a [.b false, .o 0 0 0 (lm v).length], .a [.b (decide ((Cb v) < 0)), .o 1 0 0 (lm (Cb v)).length], .a [.b false, .o 2 0 0 0], .i .i64 0]) ∧ G = [⟨79, 1, 0, true, A2 .u64 (lm v)⟩, ⟨79, 1, 0, true, A2 .u64 (lm (Cb v))⟩, ⟨79, 1, 0, true, A2 .u64 []⟩]) := by
  refine Cy [(0, .a [.b sa, .n false .u64 a]), (1, .a [.b sb, .n false .u64 b])] rfl Try.func8 rfl (zlb rfl) fun Γ hN hds hL hR => ?_
  have hd := B5 116 hN
  have hlv := Bf (v := v) (by omega)
  have hsr := Ib v
  have hl0 : (lm 0).length = 0 := by rw [Xt]; rfl
  have hNa : SpecM Try.prog 32 [.a [.b sa, .n false .u64 a]] [] (fun o G => o = .ret (.a [.b (decide (v < 0)), .o 0 0 0 (lm v).length]) ∧ G = [⟨79, 1, 0, true, A2 .u64 (lm v)⟩]) := by
    have h := Pr sa a (by omega)
    have e := E1 (s := sa) (l := a) (v := v) ua ev
    rw [e.1, e.2.1] at h
    exact h
  have hOf : SpecM Try.prog 35 [.i .i64 (Cb v)] [] (fun o G => o = .ret (.a [.b (decide ((Cb v) < 0)), .o 0 0 0 (lm (Cb v)).length]) ∧ G = [⟨79, 1, 0, true, A2 .u64 (lm (Cb v))⟩]) := Agp (Cb v) (by omega) (by omega)
  have hSg : Spec Try.prog 36 [.a [.b (decide (v < 0)), .n false .u64 (lm v)]] (fun o => o = .ret (.i .i64 (Cb v))) := Ec v (by omega)
  refine zsr <| Ay (Br (id := 0) (n := 2) rfl rfl rfl (by decide) rfl) (hd 2 rfl) <| Ay (Br (id := 1) (n := 2) rfl rfl rfl (by decide) rfl) (hd 3 rfl) <| Ay (An (id := 2) At (by decide) rfl (by decide) rfl) (hd 4 rfl) <| Ay (An (id := 3) At (by decide) rfl (by decide) rfl) (hd 5 rfl) <| Ay (An (id := 4) At (by decide) rfl (by decide) rfl) (hd 6 rfl) <| zas rfl (hd 7 rfl) <| Ab <| Af <| Be (n := 6) _ rfl B2 ?_; refine Db (fun _ _ _ _ h => h) fun ops1 Q1 F0 hpan ho hq hF => ?_
  have S1_111111 : JA Try.prog ops1 0 #[true, true, true, true, true, true] Γ ([(18, .a [.b sa, .n false .u64 a]), (19, (qo 5 v)), (20, .a [.b sb, .n false .u64 b]), (21, (qt 0))] ++ F0) [(oqo 0 5 v), (oqt 0 0), (oqm 0), (oqm 0), (oqm 0), (oqr v)] Q1 := by
    subst ho; subst hq; subst hF; refine Bi (by kernel_rfl) <| Af <| Af <| Cs (H' := [(oqo 0 5 v), (oqt 0 0), (oqm 0), (oqm 0), (oqm 0), (oqr v)]) rfl <| Ag <| Ac (Bd Bp rfl rfl rfl) (hd 22 rfl) <| Ac (A8 Ce rfl rfl rfl) (hd 23 rfl) ?_
    refine Fz Try.f33 (Ek v (by omega)) rfl Try.func33 rfl rfl (Aa rfl Ad) (.a1 (.o rfl (by simp) (by rw [List.drop_zero, List.take_length])) .a0) (.cons .n .nil) hL (fun y hy => by injection hy with hy; subst hy; rfl) (hd 24 rfl) ?_ (fun ch hp => by simp at hp)
    rintro _ ⟨⟩; refine Ac (Cd (C0 rfl rfl) (by omega)) (hd 25 rfl) <| zmv rfl (hd 26 rfl) <| Bn 26 rfl rfl (Bd Bp rfl rfl rfl) (hd 27 rfl) <| Bn 26 rfl rfl (A8 Ce rfl rfl rfl) (hd 28 rfl) ?_
    refine Eb Try.f33 26 rfl rfl (Ek 0 (by omega)) rfl Try.func33 rfl rfl (Aa rfl Ad) (.cons .n .nil) (hd 29 rfl) ?_ (fun ch hp => by simp at hp)
    rintro _ ⟨⟩; refine Bn 26 rfl rfl (Cd (C0 rfl rfl) (by decide)) (hd 30 rfl) <| Ac (B9 rfl rfl) (hd 31 rfl) <| Ab <| Bl rfl <| Am <| Af <| zsr <| Ac (Bd Bp rfl rfl rfl) (hd 39 rfl) <| Ac (A8 Ce rfl rfl rfl) (hd 40 rfl) <| Ac (Av Bo rfl) (hd 41 rfl) <| Ac (Ft (Dy rfl rfl) (by omega)) (hd 42 rfl) <| Ab ?_; refine Dm rfl <| Af <| Be (n := 11) _ rfl B2 ?_; refine Db (fun _ _ _ _ h => h) fun ops1 Q1 F0 hpan ho hq hF => ?_
    have S5_11111111111 : JA Try.prog ops1 0 #[true, true, true, true, true, true, true, true, true, true, true] Γ ([(7, .i .i64 0), (43, .p 0 0 1), (44, .o 5 0 0 (lm v).length), (45, .a [.b false, .o 5 0 0 (lm v).length]), (46, (qo 5 v)), (47, .i .i64 (Cb v)), (48, (qo 6 (Cb v))), (49, .a [.b false, .c (.slice none 0 0)])] ++ F0) [(oqo 0 5 v), (oqt 0 0), ⟨27, 2, 0, true, [.b false, .o 5 0 0 (lm v).length]⟩, (oqo 0 6 (Cb v)), (oqm 0), (oqr v), (oqr (Cb v))] Q1 := by
      subst ho; subst hq; subst hF; refine Bi (by kernel_rfl) <| Ip (id := 4) 1 79 1 rfl rfl rfl <| As ?_
      refine ⟨[5, 6, 7], _, (.t [.a [.b false, .o 0 0 0 (lm v).length], .a [.b (decide ((Cb v) < 0)), .o 1 0 0 (lm (Cb v)).length], .a [.b false, .o 2 0 0 0], .i .i64 0]), (.cons (ResV.cell Aq rfl rfl rfl rfl) (.cons (ResV.cell Aq rfl rfl rfl rfl) (.cons (ResV.cell Aq rfl rfl rfl rfl) (.cons rfl .nil)))), rfl, rfl, (by decide), (Al Bc (Al Bc (Al rfl Ar))), ?_⟩
      exact ⟨rfl, rfl⟩
    have S5_11111111110 : JA Try.prog ops1 1 #[true, true, true, true, true, true, true, true, true, true, false] Γ ([(43, .p 0 0 1), (44, .o 5 0 0 (lm v).length), (45, .a [.b false, .o 5 0 0 (lm v).length]), (46, (qo 5 v)), (47, .i .i64 (Cb v)), (48, (qo 6 (Cb v))), (49, .a [.b false, .c (.slice none 0 0)])] ++ F0) [(oqo 0 5 v), (oqt 0 0), ⟨27, 2, 0, true, [.b false, .o 5 0 0 (lm v).length]⟩, (oqo 0 6 (Cb v)), (oqm 0), (oqr v), (oqr (Cb v))] Q1 := by
      subst ho; subst hF; refine Bz 10 [] (Z0 rfl (hd 7 rfl)) rfl (by kernel_rfl) (by kernel_rfl) (by kernel_rfl) (by kernel_rfl) hpan ?_
      refine Ai S5_11111111111 8 (.cons rfl (.cons rfl (.cons rfl (.cons rfl (.cons rfl (.cons rfl (.cons rfl (.cons rfl .nil))))))))
    have S5_11111111100 : JA Try.prog ops1 2 #[true, true, true, true, true, true, true, true, true, false, false] Γ ([(43, .p 0 0 1), (44, .o 5 0 0 (lm v).length), (45, .a [.b false, .o 5 0 0 (lm v).length]), (46, (qo 5 v)), (47, .i .i64 (Cb v)), (48, (qo 6 (Cb v))), (49, .a [.b false, .c (.slice none 0 0)])] ++ F0) [(oqo 0 5 v), (oqt 0 0), ⟨27, 2, 0, true, [.b false, .o 5 0 0 (lm v).length]⟩, (oqo 0 6 (Cb v)), (oqm 0), (oqr v), (oqr (Cb v))] Q1 := by
      subst ho; subst hF
      refine Bb 9 ?_ rfl (by kernel_rfl)
      refine A7 (Ae rfl rfl rfl Au rfl rfl (zlb rfl)) rfl ?_
      refine Ai S5_11111111110 7 (.cons rfl (.cons rfl (.cons rfl (.cons rfl (.cons rfl (.cons rfl (.cons rfl .nil)))))))
    have S5_11111111000 : JA Try.prog ops1 3 #[true, true, true, true, true, true, true, true, false, false, false] Γ ([(43, .p 0 0 1), (44, .o 5 0 0 (lm v).length), (45, .a [.b false, .o 5 0 0 (lm v).length]), (46, (qo 5 v)), (47, .i .i64 (Cb v)), (48, (qo 6 (Cb v))), (49, .a [.b false, .c (.slice none 0 0)])] ++ F0) [(oqo 0 5 v), (oqt 0 0), ⟨27, 2, 0, true, [.b false, .o 5 0 0 (lm v).length]⟩, (oqm 0), (oqm 0), (oqr v), (oqr (Cb v))] Q1 := by
      subst ho; subst hF
      refine Bb 8 ?_ rfl (by kernel_rfl)
      refine A7 (Ae rfl rfl rfl Au rfl rfl (zlb rfl)) rfl ?_
      refine Ai S5_11111111100 7 (.cons rfl (.cons rfl (.cons rfl (.cons rfl (.cons rfl (.cons rfl (.cons rfl .nil)))))))
    have S5_11111110000 : JA Try.prog ops1 4 #[true, true, true, true, true, true, true, false, false, false, false] Γ ([(43, .p 0 0 1), (44, .o 5 0 0 (lm v).length), (45, .a [.b false, .o 5 0 0 (lm v).length]), (46, (qo 5 v)), (47, .i .i64 (Cb v)), (48, (qo 6 (Cb v))), (49, .a [.b false, .c (.slice none 0 0)])] ++ F0) [(oqo 0 5 v), (oqt 0 0), (oqm 0), (oqm 0), (oqm 0), (oqr v), (oqr (Cb v))] Q1 := by
      subst ho; subst hF
      refine Bb 7 ?_ rfl (by kernel_rfl)
      refine A7 (Ae rfl rfl rfl Au rfl rfl (zlb rfl)) rfl ?_
      refine Ai S5_11111111000 7 (.cons rfl (.cons rfl (.cons rfl (.cons rfl (.cons rfl (.cons rfl (.cons rfl .nil)))))))
    have S5_11111101100 : JA Try.prog ops1 3 #[true, true, true, true, true, true, false, true, true, false, false] Γ ([(43, .p 0 0 1), (44, .o 5 0 0 (lm v).length), (45, .a [.b false, .o 5 0 0 (lm v).length]), (46, (qo 5 v)), (47, .i .i64 (Cb v)), (48, (qo 6 (Cb v)))] ++ F0) [(oqo 0 5 v), (oqt 0 0), ⟨27, 2, 0, true, [.b false, .o 5 0 0 (lm v).length]⟩, (oqo 0 6 (Cb v)), (oqm 0), (oqr v), (oqr (Cb v))] Q1 := by
      subst ho; subst hF; refine Bz 6 [9, 10] (Ao (B3 (is := []) (xs := []) (pls := []) At Gu rfl Ad rfl trivial (Cj rfl) rfl) (hd 49 rfl)) rfl (by kernel_rfl) (by kernel_rfl) (by kernel_rfl) (by kernel_rfl) hpan ?_
      refine Ai S5_11111111100 7 (.cons rfl (.cons rfl (.cons rfl (.cons rfl (.cons rfl (.cons rfl (.cons rfl .nil)))))))
    have S5_11111101000 : JA Try.prog ops1 4 #[true, true, true, true, true, true, false, true, false, false, false] Γ ([(43, .p 0 0 1), (44, .o 5 0 0 (lm v).length), (45, .a [.b false, .o 5 0 0 (lm v).length]), (46, (qo 5 v)), (47, .i .i64 (Cb v)), (48, (qo 6 (Cb v)))] ++ F0) [(oqo 0 5 v), (oqt 0 0), ⟨27, 2, 0, true, [.b false, .o 5 0 0 (lm v).length]⟩, (oqm 0), (oqm 0), (oqr v), (oqr (Cb v))] Q1 := by
      subst ho; subst hF
      refine Ct 6 8 ?_ ?_ rfl rfl (by kernel_rfl)
      · refine C4 (B3 (is := []) (xs := []) (pls := []) At Gu rfl Ad rfl trivial (Cj rfl) rfl) (hd 49 rfl) ?_
        refine Ai S5_11111111000 7 (.cons rfl (.cons rfl (.cons rfl (.cons rfl (.cons rfl (.cons rfl (.cons rfl .nil)))))))
      · refine A7 (Ae rfl rfl rfl Au rfl rfl (zlb rfl)) rfl ?_
        refine Ai S5_11111101100 6 (.cons rfl (.cons rfl (.cons rfl (.cons rfl (.cons rfl (.cons rfl .nil))))))
    have S5_11111100000 : JA Try.prog ops1 5 #[true, true, true, true, true, true, false, false, false, false, false] Γ ([(43, .p 0 0 1), (44, .o 5 0 0 (lm v).length), (45, .a [.b false, .o 5 0 0 (lm v).length]), (46, (qo 5 v)), (47, .i .i64 (Cb v)), (48, (qo 6 (Cb v)))] ++ F0) [(oqo 0 5 v), (oqt 0 0), (oqm 0), (oqm 0), (oqm 0), (oqr v), (oqr (Cb v))] Q1 := by
      subst ho; subst hF
      refine Ct 6 7 ?_ ?_ rfl rfl (by kernel_rfl)
      · refine C4 (B3 (is := []) (xs := []) (pls := []) At Gu rfl Ad rfl trivial (Cj rfl) rfl) (hd 49 rfl) ?_
        refine Ai S5_11111110000 7 (.cons rfl (.cons rfl (.cons rfl (.cons rfl (.cons rfl (.cons rfl (.cons rfl .nil)))))))
      · refine A7 (Ae rfl rfl rfl Au rfl rfl (zlb rfl)) rfl ?_
        refine Ai S5_11111101000 6 (.cons rfl (.cons rfl (.cons rfl (.cons rfl (.cons rfl (.cons rfl .nil))))))
    have S5_11111010000 : JA Try.prog ops1 5 #[true, true, true, true, true, false, true, false, false, false, false] Γ ([(43, .p 0 0 1), (44, .o 5 0 0 (lm v).length), (45, .a [.b false, .o 5 0 0 (lm v).length]), (46, (qo 5 v)), (47, .i .i64 (Cb v)), (49, .a [.b false, .c (.slice none 0 0)])] ++ F0) [(oqo 0 5 v), (oqt 0 0), (oqm 0), (oqm 0), (oqm 0), (oqr v)] Q1 := by
      subst ho; subst hF
      refine Bb 5 ?_ rfl (by kernel_rfl)
      refine Fa Try.f35 (hOf) (fun o G ⟨_, h⟩ => h ▸ Al Bc Ar) rfl Try.func35 rfl rfl (Aa rfl Ad) (.cons .i .nil) (hd 48 rfl) ?_ (fun ch G hp => by simp at hp)
      rintro y G ⟨hy, rfl⟩; injection hy with hy; subst hy
      show JA _ _ _ _ _ ((48, .a [.b (decide ((Cb v) < 0)), .o 6 0 0 (lm (Cb v)).length]) :: _) _ _
      refine Ai S5_11111110000 7 (.cons rfl (.cons rfl (.cons rfl (.cons rfl (.cons rfl (.cons rfl (.cons rfl .nil)))))))
    have S5_11111000000 : JA Try.prog ops1 6 #[true, true, true, true, true, false, false, false, false, false, false] Γ ([(43, .p 0 0 1), (44, .o 5 0 0 (lm v).length), (45, .a [.b false, .o 5 0 0 (lm v).length]), (46, (qo 5 v)), (47, .i .i64 (Cb v))] ++ F0) [(oqo 0 5 v), (oqt 0 0), (oqm 0), (oqm 0), (oqm 0), (oqr v)] Q1 := by
      subst ho; subst hF
      refine Ct 5 6 ?_ ?_ rfl rfl (by kernel_rfl)
      · refine Fa Try.f35 (hOf) (fun o G ⟨_, h⟩ => h ▸ Al Bc Ar) rfl Try.func35 rfl rfl (Aa rfl Ad) (.cons .i .nil) (hd 48 rfl) ?_ (fun ch G hp => by simp at hp)
        rintro y G ⟨hy, rfl⟩; injection hy with hy; subst hy
        show JA _ _ _ _ _ ((48, .a [.b (decide ((Cb v) < 0)), .o 6 0 0 (lm (Cb v)).length]) :: _) _ _
        refine Ai S5_11111100000 6 (.cons rfl (.cons rfl (.cons rfl (.cons rfl (.cons rfl (.cons rfl .nil))))))
      · refine C4 (B3 (is := []) (xs := []) (pls := []) At Gu rfl Ad rfl trivial (Cj rfl) rfl) (hd 49 rfl) ?_
        refine Ai S5_11111010000 6 (.cons rfl (.cons rfl (.cons rfl (.cons rfl (.cons rfl (.cons rfl .nil))))))
    have S5_11110010000 : JA Try.prog ops1 6 #[true, true, true, true, false, false, true, false, false, false, false] Γ ([(43, .p 0 0 1), (44, .o 5 0 0 (lm v).length), (45, .a [.b false, .o 5 0 0 (lm v).length]), (46, (qo 5 v)), (49, .a [.b false, .c (.slice none 0 0)])] ++ F0) [(oqo 0 5 v), (oqt 0 0), (oqm 0), (oqm 0), (oqm 0), (oqr v)] Q1 := by
      subst ho; subst hF
      refine Bb 4 ?_ rfl (by kernel_rfl)
      refine Pz Try.f36 (hSg) rfl Try.func36 rfl rfl (Aa rfl Ad) (.a1 (.a1 .b (.a1 (.o rfl (by simp) (by rw [List.drop_zero, List.take_length])) .a0)) .a0) (.cons (.a1 .b (.a1 .n .a0)) .nil) hL (fun y hy => by injection hy with hy; subst hy; rfl) (hd 47 rfl) ?_ (fun ch hp => by simp at hp)
      rintro y hy; injection hy with hy; subst hy
      refine Ai S5_11111010000 6 (.cons rfl (.cons rfl (.cons rfl (.cons rfl (.cons rfl (.cons rfl .nil))))))
    have S5_11110000000 : JA Try.prog ops1 7 #[true, true, true, true, false, false, false, false, false, false, false] Γ ([(43, .p 0 0 1), (44, .o 5 0 0 (lm v).length), (45, .a [.b false, .o 5 0 0 (lm v).length]), (46, (qo 5 v))] ++ F0) [(oqo 0 5 v), (oqt 0 0), (oqm 0), (oqm 0), (oqm 0), (oqr v)] Q1 := by
      subst ho; subst hF
      refine Ct 4 6 ?_ ?_ rfl rfl (by kernel_rfl)
      · refine Pz Try.f36 (hSg) rfl Try.func36 rfl rfl (Aa rfl Ad) (.a1 (.a1 .b (.a1 (.o rfl (by simp) (by rw [List.drop_zero, List.take_length])) .a0)) .a0) (.cons (.a1 .b (.a1 .n .a0)) .nil) hL (fun y hy => by injection hy with hy; subst hy; rfl) (hd 47 rfl) ?_ (fun ch hp => by simp at hp)
        rintro y hy; injection hy with hy; subst hy
        refine Ai S5_11111000000 5 (.cons rfl (.cons rfl (.cons rfl (.cons rfl (.cons rfl .nil)))))
      · refine C4 (B3 (is := []) (xs := []) (pls := []) At Gu rfl Ad rfl trivial (Cj rfl) rfl) (hd 49 rfl) ?_
        refine Ai S5_11110010000 5 (.cons rfl (.cons rfl (.cons rfl (.cons rfl (.cons rfl .nil)))))
    have S5_11100000000 : JA Try.prog ops1 8 #[true, true, true, false, false, false, false, false, false, false, false] Γ ([(43, .p 0 0 1), (44, .o 5 0 0 (lm v).length), (45, .a [.b false, .o 5 0 0 (lm v).length])] ++ F0) [(oqo 0 5 v), (oqt 0 0), (oqm 0), (oqm 0), (oqm 0), (oqr v)] Q1 := by
      subst ho; subst hF; refine Bz 3 [4, 5, 7, 8, 9, 10] (Ao (Ah Aq rfl rfl rfl rfl) (hd 46 rfl)) rfl (by kernel_rfl) (by kernel_rfl) (by kernel_rfl) (by kernel_rfl) hpan ?_
      refine Ai S5_11110000000 4 (.cons rfl (.cons rfl (.cons rfl (.cons rfl .nil))))
    have S5_11000000000 : JA Try.prog ops1 9 #[true, true, false, false, false, false, false, false, false, false, false] Γ ([(43, .p 0 0 1), (44, .o 5 0 0 (lm v).length)] ++ F0) [(oqo 0 5 v), (oqt 0 0), (oqm 0), (oqm 0), (oqm 0), (oqr v)] Q1 := by
      subst ho; subst hF; refine Bz 2 [7, 8, 9, 10] (Ao (B3 (is := [1]) (xs := [.tmp 44]) At F1 rfl (Aa rfl Ad) rfl (by first | (simp [Ck, cellsV]; done) | (simp [Ck, cellsV, old]; done)) (Cj rfl) rfl) (hd 45 rfl)) rfl (by kernel_rfl) (by kernel_rfl) (by kernel_rfl) (by kernel_rfl) hpan ?_
      refine Ai S5_11100000000 3 (.cons rfl (.cons rfl (.cons rfl .nil)))
    have S5_10000000000 : JA Try.prog ops1 10 #[true, false, false, false, false, false, false, false, false, false, false] Γ ([(43, .p 0 0 1)] ++ F0) [(oqo 0 5 v), (oqt 0 0), (oqm 0), (oqm 0), (oqm 0), (oqr v)] Q1 := by
      subst ho; subst hF; refine Bz 1 [2, 7, 8, 9, 10] (Ao (A8 Ce rfl rfl rfl) (hd 44 rfl)) rfl (by kernel_rfl) (by kernel_rfl) (by kernel_rfl) (by kernel_rfl) hpan ?_
      refine Ai S5_11000000000 2 (.cons rfl (.cons rfl .nil))
    have S5_00000000000 : JA Try.prog ops1 11 #[false, false, false, false, false, false, false, false, false, false, false] Γ ([] ++ F0) [(oqo 0 5 v), (oqt 0 0), (oqm 0), (oqm 0), (oqm 0), (oqr v)] Q1 := by
      subst ho; subst hF; refine Bz 0 [1, 2, 7, 8, 9, 10] (Ao (Bd Bp rfl rfl rfl) (hd 43 rfl)) rfl (by kernel_rfl) (by kernel_rfl) (by kernel_rfl) (by kernel_rfl) hpan ?_
      refine Ai S5_10000000000 1 (.cons rfl .nil)
    subst ho; subst hF
    exact D2 (m := []) (by decide) rfl (Ba 0 rfl rfl .nil) S5_00000000000
  have S1_111110 : JA Try.prog ops1 1 #[true, true, true, true, true, false] Γ ([(18, .a [.b sa, .n false .u64 a]), (19, (qo 5 v)), (20, .a [.b sb, .n false .u64 b]), (21, (qt 0))] ++ F0) [(oqo 0 5 v), ⟨27, 2, 0, true, [.b sb, .n false .u64 b]⟩, (oqm 0), (oqm 0), (oqm 0), (oqr v)] Q1 := by
    subst ho; subst hF
    refine Bb 5 ?_ rfl (by kernel_rfl)
    refine A7 (Ae rfl rfl rfl Au rfl rfl (zlb rfl)) rfl ?_
    refine Ai S1_111111 4 (.cons rfl (.cons rfl (.cons rfl (.cons rfl .nil))))
  have S1_111100 : JA Try.prog ops1 2 #[true, true, true, true, false, false] Γ ([(18, .a [.b sa, .n false .u64 a]), (19, (qo 5 v)), (20, .a [.b sb, .n false .u64 b]), (21, (qt 0))] ++ F0) [⟨27, 2, 0, true, [.b sa, .n false .u64 a]⟩, ⟨27, 2, 0, true, [.b sb, .n false .u64 b]⟩, (oqm 0), (oqm 0), (oqm 0), (oqr v)] Q1 := by
    subst ho; subst hF
    refine Bb 4 ?_ rfl (by kernel_rfl)
    refine A7 (Ae rfl rfl rfl Au rfl rfl (zlb rfl)) rfl ?_
    refine Ai S1_111110 4 (.cons rfl (.cons rfl (.cons rfl (.cons rfl .nil))))
  have S1_111000 : JA Try.prog ops1 3 #[true, true, true, false, false, false] Γ ([(18, .a [.b sa, .n false .u64 a]), (19, (qo 5 v)), (20, .a [.b sb, .n false .u64 b])] ++ F0) [⟨27, 2, 0, true, [.b sa, .n false .u64 a]⟩, ⟨27, 2, 0, true, [.b sb, .n false .u64 b]⟩, (oqm 0), (oqm 0), (oqm 0), (oqr v)] Q1 := by
    subst ho; subst hF
    refine Bb 3 ?_ rfl (by kernel_rfl)
    refine A4 Try.f32 (Hm sb b 0 (by omega) ub ew) rfl Try.func32 rfl rfl (Aa rfl Ad) (.cons (.a1 .b (.a1 .n .a0)) .nil) (hd 21 rfl) ?_ (fun ch hp => by simp at hp)
    rintro y hy; injection hy with hy; subst hy
    refine Ai S1_111100 4 (.cons rfl (.cons rfl (.cons rfl (.cons rfl .nil))))
  have S1_101000 : JA Try.prog ops1 4 #[true, false, true, false, false, false] Γ ([(18, .a [.b sa, .n false .u64 a]), (20, .a [.b sb, .n false .u64 b])] ++ F0) [⟨27, 2, 0, true, [.b sa, .n false .u64 a]⟩, ⟨27, 2, 0, true, [.b sb, .n false .u64 b]⟩, (oqm 0), (oqm 0), (oqm 0)] Q1 := by
    subst ho; subst hF
    refine Bb 1 ?_ rfl (by kernel_rfl)
    refine Fa Try.f32 (hNa) (fun o G ⟨_, h⟩ => h ▸ Al Bc Ar) rfl Try.func32 rfl rfl (Aa rfl Ad) (.cons (.a1 .b (.a1 .n .a0)) .nil) (hd 19 rfl) ?_ (fun ch G hp => by simp at hp)
    rintro y G ⟨hy, rfl⟩; injection hy with hy; subst hy
    show JA _ _ _ _ _ ((19, .a [.b (decide (v < 0)), .o 5 0 0 (lm v).length]) :: _) _ _
    refine Ai S1_111000 3 (.cons rfl (.cons rfl (.cons rfl .nil)))
  have S1_100000 : JA Try.prog ops1 5 #[true, false, false, false, false, false] Γ ([(18, .a [.b sa, .n false .u64 a])] ++ F0) [⟨27, 2, 0, true, [.b sa, .n false .u64 a]⟩, ⟨27, 2, 0, true, [.b sb, .n false .u64 b]⟩, (oqm 0), (oqm 0), (oqm 0)] Q1 := by
    subst ho; subst hF; refine Bz 2 [3, 4, 5] (Ao (Ah Aq rfl rfl rfl rfl) (hd 20 rfl)) rfl (by kernel_rfl) (by kernel_rfl) (by kernel_rfl) (by kernel_rfl) hpan ?_
    refine Ai S1_101000 2 (.cons rfl (.cons rfl .nil))
  have S1_000000 : JA Try.prog ops1 6 #[false, false, false, false, false, false] Γ ([] ++ F0) [⟨27, 2, 0, true, [.b sa, .n false .u64 a]⟩, ⟨27, 2, 0, true, [.b sb, .n false .u64 b]⟩, (oqm 0), (oqm 0), (oqm 0)] Q1 := by
    subst ho; subst hF; refine Bz 0 [1, 3, 4, 5] (Ao (Ah Aq rfl rfl rfl rfl) (hd 18 rfl)) rfl (by kernel_rfl) (by kernel_rfl) (by kernel_rfl) (by kernel_rfl) hpan ?_
    refine Ai S1_100000 1 (.cons rfl .nil)
  subst ho; subst hF
  exact D2 (m := []) (by decide) rfl (Ba 0 rfl rfl .nil) S1_000000

theorem Rb (sa sb : Bool) (a b : List Int) (v : Int) (la : a.length < 4294967296) (lb : b.length < 4294967296) (ua : A3 a) (ub : A3 b) (ev : sv sa a = v) (ew : sv sb b = 0) (hab : Bm v ≤ 67108700) : SpecM Try.prog 14 [.a [.b sa, .n false .u64 a], .a [.b sb, .n false .u64 b]] [] (fun o G => o = .ret (.t [.a [.b false, .o 0 0 0 0], .i .i64 30]) ∧ G = [⟨79, 1, 0, true, A2 .u64 []⟩]) := by
  refine Cy [(0, .a [.b sa, .n false .u64 a]), (1, .a [.b sb, .n false .u64 b])] rfl Try.func14 rfl (zlb rfl) fun Γ hN hds hL hR => ?_
  have hd := B5 50 hN
  have htb : trm b = lm 0 := (E1 ub ew).2.1
  have hNb : Spec Try.prog 48 [.n false .u64 b] (fun o => o = .ret (.n true .u64 (lm 0))) := by have h := E9 b (by omega); rwa [htb] at h
  have hl0 : (lm 0).length = 0 := by rw [Xt]; rfl
  refine zsr <| Ay (Br (id := 0) (n := 2) rfl rfl rfl (by decide) rfl) (hd 2 rfl) <| Ay (Br (id := 1) (n := 2) rfl rfl rfl (by decide) rfl) (hd 3 rfl) <| Ay (An (id := 2) At (by decide) rfl (by decide) rfl) (hd 4 rfl) <| zas rfl (hd 5 rfl) <| Ab <| zsr <| Ac (Bd Bp rfl rfl rfl) (hd 10 rfl) <| Ac (A8 Ce rfl rfl rfl) (hd 11 rfl) ?_
  refine Aj Try.f48 (hNb) rfl Try.func48 rfl rfl (Aa rfl Ad) (.cons .n .nil) (hd 12 rfl) ?_ (fun ch hp => by simp at hp)
  rintro _ ⟨⟩; refine Ac (B3 (is := [1]) (xs := [.tmp 12]) At F1 rfl (Aa rfl Ad) rfl (by first | (simp [Ck, cellsV]; done) | (simp [Ck, cellsV, old]; done)) (Cj rfl) rfl) (hd 13 rfl) <| A1 (Ae rfl rfl rfl Au rfl rfl (zlb rfl)) <| Ab <| Af <| zsr <| Ac (Bd Bp rfl rfl rfl) (hd 14 rfl) <| Ac (A8 Ce rfl rfl rfl) (hd 15 rfl) <| Ac (Av Bo rfl) (hd 16 rfl) <| Ac (Ft (Dy rfl rfl) (by omega)) (hd 17 rfl) <| Ab <| Dm rfl <| Af ?_; refine Ag <| Ac (B3 (is := []) (xs := []) (pls := []) At Gu rfl Ad rfl trivial (Cj rfl) rfl) (hd 18 rfl) <| A1 (Ae rfl rfl rfl Au rfl rfl (zlb rfl)) <| zas rfl (hd 5 rfl) <| Ab <| Ip (id := 2) 1 79 1 rfl rfl rfl <| As ?_
  refine ⟨[3], _, (.t [.a [.b false, .o 0 0 0 0], .i .i64 30]), (.cons (ResV.cell Aq rfl rfl rfl rfl) (.cons rfl .nil)), rfl, rfl, (by decide), (Al rfl Ar), ?_⟩
  exact ⟨rfl, rfl⟩

theorem Ra (sa sb : Bool) (a b : List Int) (v w : Int) (la : a.length < 4294967296) (lb : b.length < 4294967296) (ua : A3 a) (ub : A3 b) (ev : sv sa a = v) (ew : sv sb b = w) (hab : Bm v + Bm w ≤ 67108700) (h0 : w ≠ 0) (g x : Int) (hE : CoE v w g x) (hg1 : g = 1) : SpecM Try.prog 14 [.a [.b sa, .n false .u64 a], .a [.b sb, .n false .u64 b]] [] (fun o G => o = .ret (.t [.a [.b (decide ((x % qn w g) < 0)), .o 0 0 0 (lm (x % qn w g)).length], .i .i64 0]) ∧ G = [⟨79, 1, 0, true, A2 .u64 (lm (x % qn w g))⟩]) := by
  refine Cy [(0, .a [.b sa, .n false .u64 a]), (1, .a [.b sb, .n false .u64 b])] rfl Try.func14 rfl (zlb rfl) fun Γ hN hds hL hR => ?_
  have hd := B5 50 hN
  have hlv := Bf (v := v) (by omega)
  have hlw := Bf (v := w) (by omega)
  have hab2 : (w.natAbs : Int) ≠ 0 := by omega
  have hla : lm (w.natAbs : Int) = lm w := by unfold lm; rw [Int.natAbs_natCast]
  have hlen : Bm (w.natAbs : Int) = Bm w := by unfold Bm; rw [Int.natAbs_natCast]
  have htb : trm b = lm w := (E1 ub ew).2.1
  have hNb : Spec Try.prog 48 [.n false .u64 b] (fun o => o = .ret (.n true .u64 (lm w))) := by have h := E9 b (by omega); rwa [htb] at h
  have hne := Nb h0
  have hsv : sv false (lm w) = (w.natAbs : Int) := by show vl (lm w) = _; rw [Og]
  have hR : v - wq 4 v (w.natAbs : Int) * (w.natAbs : Int) = v % w := by rw [euc hab2, J1]
  have hRb : 0 ≤ v % w ∧ v % w < (w.natAbs : Int) := by have := G1 (v := v) (w := (w.natAbs : Int)) (by omega); rwa [J1] at this
  have hlRv := A5 (v := v % w) (w := w) (by omega)
  have hlR := Bf (v := v % w) (by omega)
  have hEu : Spec Try.prog 39 [.a [.b sa, .n false .u64 a], .a [.b false, .n false .u64 (lm w)]] (fun o => o = .ret (.t [.a [.b (decide ((wq 4 v (w.natAbs : Int)) < 0)), .n true .u64 (lm (wq 4 v (w.natAbs : Int)))], .a [.b (decide ((v % w) < 0)), .n true .u64 (lm (v % w))], .i .i64 0])) := by have h := J4 sa false a (lm w) v (w.natAbs : Int) (by omega) (by omega) ua (Cq w) ev hsv (by omega) (by omega) hab2; rwa [hR] at h
  have hCo : Spec Try.prog 37 [.a [.b (decide ((v % w) < 0)), .n false .u64 (lm (v % w))], .a [.b false, .n false .u64 (lm w)]] (fun o => ∃ g x : Int, o = .ret (.t [.a [.b (decide (g < 0)), .n false .u64 (lm g)], .a [.b (decide (x < 0)), .n false .u64 (lm x)]]) ∧ CoE (v % w) (w.natAbs : Int) g x) := by have h := Lj (v % w) (w.natAbs : Int) (by omega) (by omega) hab2; rw [hla, decide_eq_false (show ¬ (w.natAbs : Int) < 0 by omega)] at h; exact h
  refine zsr <| Ay (Br (id := 0) (n := 2) rfl rfl rfl (by decide) rfl) (hd 2 rfl) <| Ay (Br (id := 1) (n := 2) rfl rfl rfl (by decide) rfl) (hd 3 rfl) <| Ay (An (id := 2) At (by decide) rfl (by decide) rfl) (hd 4 rfl) <| zas rfl (hd 5 rfl) <| Ab <| zsr <| Ac (Bd Bp rfl rfl rfl) (hd 10 rfl) <| Ac (A8 Ce rfl rfl rfl) (hd 11 rfl) ?_
  refine Aj Try.f48 (hNb) rfl Try.func48 rfl rfl (Aa rfl Ad) (.cons .n .nil) (hd 12 rfl) ?_ (fun ch hp => by simp at hp)
  rintro _ ⟨⟩; refine Ac (B3 (is := [1]) (xs := [.tmp 12]) At F1 rfl (Aa rfl Ad) rfl (by first | (simp [Ck, cellsV]; done) | (simp [Ck, cellsV, old]; done)) (Cj rfl) rfl) (hd 13 rfl) <| A1 (Ae rfl rfl rfl Au rfl rfl (zlb rfl)) <| Ab <| Af <| zsr <| Ac (Bd Bp rfl rfl rfl) (hd 14 rfl) <| Ac (A8 Ce rfl rfl rfl) (hd 15 rfl) <| Ac (Av Bo rfl) (hd 16 rfl) <| Ac (Cd (Dy rfl rfl) (fun h => hne (List.eq_nil_of_length_eq_zero (by omega)))) (hd 17 rfl) <| Ab <| Bl rfl <| Am ?_; refine zsr <| Ac (Ah Aq rfl rfl rfl rfl) (hd 20 rfl) <| Ac (Ah Aq rfl rfl rfl rfl) (hd 21 rfl) ?_
  refine Aj Try.f39 (hEu) rfl Try.func39 rfl rfl (Aa rfl (Aa rfl Ad)) (.cons (.a1 .b (.a1 .n .a0)) (.cons (.a1 .b (.a1 .n .a0)) .nil)) (hd 22 rfl) ?_ (fun ch hp => by simp at hp)
  rintro _ ⟨⟩; refine zmv rfl (hd 19 rfl) <| Ac (Ak rfl rfl) (hd 23 rfl) <| Ac (Ak rfl rfl) (hd 24 rfl) <| Ac (Ak rfl rfl) (hd 25 rfl) <| Ay (An (id := 3) At (by decide) rfl (by decide) rfl) (hd 6 rfl) <| A1 (Ae rfl rfl rfl Au rfl rfl (zlb rfl)) <| A1 (Ae rfl rfl rfl Au rfl rfl (zlb rfl)) <| zas rfl (hd 7 rfl) <| Ab <| Af <| zsr <| zmv rfl (hd 26 rfl) ?_; refine Ac (Cd (Cm rfl rfl) (by decide)) (hd 27 rfl) <| Ab <| Bl rfl <| Am <| zsr <| Ac (Ah Aq rfl rfl rfl rfl) (hd 31 rfl) <| Ac (Ah Aq rfl rfl rfl rfl) (hd 32 rfl) ?_
  refine Aj Try.f37 (hCo) rfl Try.func37 rfl rfl (Aa rfl (Aa rfl Ad)) (.cons (.a1 .b (.a1 .n .a0)) (.cons (.a1 .b (.a1 .n .a0)) .nil)) (hd 33 rfl) ?_ (fun ch hp => by simp at hp)
  rintro y ⟨g2, x2, hy, hE2⟩; injection hy with hy; subst hy
  have hlx := A5 hE2.bx
  have hlg := A5 (hE2.le hab2)
  have hmg := Bf (v := g2) (by omega)
  have hmx := Bf (v := x2) (by omega)
  have hXb := G1 (v := x2) (w := (w.natAbs : Int)) (by omega)
  have hl1 : (lm 1).length ≤ 1 := Xs (by decide)
  have hg2 : g2 = g := Lx hE hE2
  rw [hg1] at hg2
  subst hg2
  have hi := Z8 h0 hE2
  have hI : x2 % (w.natAbs : Int) = x % qn w g := by
    rw [hg1, Af5]
    exact (Wf hXb.1 hXb.2 hi (by have h9 := hE.dx; rw [hg1] at h9; exact Int.natAbs_dvd.2 h9)).symm
  have hEu2 : SpecM Try.prog 39 [.a [.b (decide (x2 < 0)), .n false .u64 (lm x2)], .a [.b false, .n false .u64 (lm w)]] [] (fun o G => o = .ret (.t [.a [.b (decide ((wq 4 x2 (w.natAbs : Int)) < 0)), .o 0 0 0 (lm (wq 4 x2 (w.natAbs : Int))).length], .a [.b (decide ((x % qn w g) < 0)), .o 1 0 0 (lm (x % qn w g)).length], .i .i64 0]) ∧ G = [⟨79, 1, 0, true, A2 .u64 (lm (wq 4 x2 (w.natAbs : Int)))⟩, ⟨79, 1, 0, true, A2 .u64 (lm (x % qn w g))⟩]) := by
    have h := Gj (decide (x2 < 0)) false (lm x2) (lm w) x2 (w.natAbs : Int) (by omega) (by omega) (Cq x2) (Cq w) (Cn x2) hsv (by omega) (by omega) hab2
    rwa [euc hab2, hI] at h
  refine zmv rfl (hd 30 rfl) <| Ac (Ak rfl rfl) (hd 34 rfl) <| Ac (Ak rfl rfl) (hd 35 rfl) <| Ay (An (id := 4) At (by decide) rfl (by decide) rfl) (hd 8 rfl) <| Ay (An (id := 5) At (by decide) rfl (by decide) rfl) (hd 9 rfl) <| A1 (Ae rfl rfl rfl Au rfl rfl (zlb rfl)) <| A1 (Ae rfl rfl rfl Au rfl rfl (zlb rfl)) <| Ab <| Af <| Af <| Be (n := 4) _ rfl B2 <| Ax 0 [2, 3] (Ao (Ah Aq rfl rfl rfl rfl) (hd 36 rfl)) rfl ?_
  refine Bb 1 ?_ rfl (by kernel_rfl)
  refine A4 Try.f35 (Wz 1 (by unfold inI; omega)) rfl Try.func35 rfl rfl (Aa rfl Ad) (.cons .i .nil) (hd 37 rfl) ?_ (fun ch hp => by simp at hp)
  rintro y hy; injection hy with hy; subst hy
  refine Bb 2 ?_ rfl (by kernel_rfl)
  refine A4 Try.f49 (Ye 1 1 (by omega) (by omega)) rfl Try.func49 rfl rfl (Aa rfl (Aa rfl Ad)) (.cons (.a1 .b (.a1 .n .a0)) (.cons (.a1 .b (.a1 .n .a0)) .nil)) (hd 38 rfl) ?_ (fun ch hp => by simp at hp)
  rintro _ ⟨⟩; refine zal 3 (Ao (Cd (Cm rfl rfl) (fun h => h (Qg.2 rfl))) (hd 39 rfl)) rfl <| Bi (by kernel_rfl) <| Bl rfl <| Am <| zsr <| Ac (Ah Aq rfl rfl rfl rfl) (hd 42 rfl) <| Ac (Ah Aq rfl rfl rfl rfl) (hd 43 rfl) ?_
  refine C9 Try.f39 (hEu2) (fun o G ⟨_, h⟩ => h ▸ Al Bc (Al Bc Ar)) rfl Try.func39 rfl rfl (Aa rfl (Aa rfl Ad)) (.cons (.a1 .b (.a1 .n .a0)) (.cons (.a1 .b (.a1 .n .a0)) .nil)) (hd 44 rfl) ?_ (fun ch G hp => by simp at hp)
  rintro y G ⟨hy, rfl⟩; injection hy with hy; subst hy
  show JO _ _ _ _ ((44, .t [.a [.b (decide ((wq 4 x2 (w.natAbs : Int)) < 0)), .o 6 0 0 (lm (wq 4 x2 (w.natAbs : Int))).length], .a [.b (decide ((x % qn w g) < 0)), .o 7 0 0 (lm (x % qn w g)).length], .i .i64 0]) :: _) _ _
  refine zmv rfl (hd 41 rfl) <| Ac (Ak rfl rfl) (hd 45 rfl) <| Ac (Ak rfl rfl) (hd 46 rfl) <| Ac (Ak rfl rfl) (hd 47 rfl) <| A1 (Ae rfl rfl rfl Au rfl rfl (zlb rfl)) <| zas rfl (hd 7 rfl) <| Ab <| zsr <| Ac (Ah Aq rfl rfl rfl rfl) (hd 48 rfl) <| zmv rfl (hd 49 rfl) <| A1 (Ae rfl rfl rfl Au rfl rfl (zlb rfl)) <| zas rfl (hd 5 rfl) ?_; refine Ab <| As ?_
  refine ⟨[7], _, (.t [.a [.b (decide ((x % qn w g) < 0)), .o 0 0 0 (lm (x % qn w g)).length], .i .i64 0]), (.cons (ResV.cell Aq rfl rfl rfl rfl) (.cons rfl .nil)), rfl, rfl, (by decide), (by first | exact Al Bc Ar | exact Al rfl Ar), ?_⟩
  exact ⟨rfl, rfl⟩

theorem Oy (sa sb : Bool) (a b : List Int) (v w : Int) (la : a.length < 4294967296) (lb : b.length < 4294967296) (ua : A3 a) (ub : A3 b) (ev : sv sa a = v) (ew : sv sb b = w) (hab : Bm v + Bm w ≤ 67108700) (h0 : w ≠ 0) (g x : Int) (hE : CoE v w g x) (hg1 : g ≠ 1) : SpecM Try.prog 14 [.a [.b sa, .n false .u64 a], .a [.b sb, .n false .u64 b]] [] (fun o G => o = .ret (.t [.a [.b false, .o 0 0 0 0], .i .i64 61]) ∧ G = [⟨79, 1, 0, true, A2 .u64 []⟩]) := by
  refine Cy [(0, .a [.b sa, .n false .u64 a]), (1, .a [.b sb, .n false .u64 b])] rfl Try.func14 rfl (zlb rfl) fun Γ hN hds hL hR => ?_
  have hd := B5 50 hN
  have hlv := Bf (v := v) (by omega)
  have hlw := Bf (v := w) (by omega)
  have hab2 : (w.natAbs : Int) ≠ 0 := by omega
  have hla : lm (w.natAbs : Int) = lm w := by unfold lm; rw [Int.natAbs_natCast]
  have hlen : Bm (w.natAbs : Int) = Bm w := by unfold Bm; rw [Int.natAbs_natCast]
  have htb : trm b = lm w := (E1 ub ew).2.1
  have hNb : Spec Try.prog 48 [.n false .u64 b] (fun o => o = .ret (.n true .u64 (lm w))) := by have h := E9 b (by omega); rwa [htb] at h
  have hne := Nb h0
  have hsv : sv false (lm w) = (w.natAbs : Int) := by show vl (lm w) = _; rw [Og]
  have hR : v - wq 4 v (w.natAbs : Int) * (w.natAbs : Int) = v % w := by rw [euc hab2, J1]
  have hRb : 0 ≤ v % w ∧ v % w < (w.natAbs : Int) := by have := G1 (v := v) (w := (w.natAbs : Int)) (by omega); rwa [J1] at this
  have hlRv := A5 (v := v % w) (w := w) (by omega)
  have hlR := Bf (v := v % w) (by omega)
  have hEu : Spec Try.prog 39 [.a [.b sa, .n false .u64 a], .a [.b false, .n false .u64 (lm w)]] (fun o => o = .ret (.t [.a [.b (decide ((wq 4 v (w.natAbs : Int)) < 0)), .n true .u64 (lm (wq 4 v (w.natAbs : Int)))], .a [.b (decide ((v % w) < 0)), .n true .u64 (lm (v % w))], .i .i64 0])) := by have h := J4 sa false a (lm w) v (w.natAbs : Int) (by omega) (by omega) ua (Cq w) ev hsv (by omega) (by omega) hab2; rwa [hR] at h
  have hCo : Spec Try.prog 37 [.a [.b (decide ((v % w) < 0)), .n false .u64 (lm (v % w))], .a [.b false, .n false .u64 (lm w)]] (fun o => ∃ g x : Int, o = .ret (.t [.a [.b (decide (g < 0)), .n false .u64 (lm g)], .a [.b (decide (x < 0)), .n false .u64 (lm x)]]) ∧ CoE (v % w) (w.natAbs : Int) g x) := by have h := Lj (v % w) (w.natAbs : Int) (by omega) (by omega) hab2; rw [hla, decide_eq_false (show ¬ (w.natAbs : Int) < 0 by omega)] at h; exact h
  refine zsr <| Ay (Br (id := 0) (n := 2) rfl rfl rfl (by decide) rfl) (hd 2 rfl) <| Ay (Br (id := 1) (n := 2) rfl rfl rfl (by decide) rfl) (hd 3 rfl) <| Ay (An (id := 2) At (by decide) rfl (by decide) rfl) (hd 4 rfl) <| zas rfl (hd 5 rfl) <| Ab <| zsr <| Ac (Bd Bp rfl rfl rfl) (hd 10 rfl) <| Ac (A8 Ce rfl rfl rfl) (hd 11 rfl) ?_
  refine Aj Try.f48 (hNb) rfl Try.func48 rfl rfl (Aa rfl Ad) (.cons .n .nil) (hd 12 rfl) ?_ (fun ch hp => by simp at hp)
  rintro _ ⟨⟩; refine Ac (B3 (is := [1]) (xs := [.tmp 12]) At F1 rfl (Aa rfl Ad) rfl (by first | (simp [Ck, cellsV]; done) | (simp [Ck, cellsV, old]; done)) (Cj rfl) rfl) (hd 13 rfl) <| A1 (Ae rfl rfl rfl Au rfl rfl (zlb rfl)) <| Ab <| Af <| zsr <| Ac (Bd Bp rfl rfl rfl) (hd 14 rfl) <| Ac (A8 Ce rfl rfl rfl) (hd 15 rfl) <| Ac (Av Bo rfl) (hd 16 rfl) <| Ac (Cd (Dy rfl rfl) (fun h => hne (List.eq_nil_of_length_eq_zero (by omega)))) (hd 17 rfl) <| Ab <| Bl rfl <| Am ?_; refine zsr <| Ac (Ah Aq rfl rfl rfl rfl) (hd 20 rfl) <| Ac (Ah Aq rfl rfl rfl rfl) (hd 21 rfl) ?_
  refine Aj Try.f39 (hEu) rfl Try.func39 rfl rfl (Aa rfl (Aa rfl Ad)) (.cons (.a1 .b (.a1 .n .a0)) (.cons (.a1 .b (.a1 .n .a0)) .nil)) (hd 22 rfl) ?_ (fun ch hp => by simp at hp)
  rintro _ ⟨⟩; refine zmv rfl (hd 19 rfl) <| Ac (Ak rfl rfl) (hd 23 rfl) <| Ac (Ak rfl rfl) (hd 24 rfl) <| Ac (Ak rfl rfl) (hd 25 rfl) <| Ay (An (id := 3) At (by decide) rfl (by decide) rfl) (hd 6 rfl) <| A1 (Ae rfl rfl rfl Au rfl rfl (zlb rfl)) <| A1 (Ae rfl rfl rfl Au rfl rfl (zlb rfl)) <| zas rfl (hd 7 rfl) <| Ab <| Af <| zsr <| zmv rfl (hd 26 rfl) ?_; refine Ac (Cd (Cm rfl rfl) (by decide)) (hd 27 rfl) <| Ab <| Bl rfl <| Am <| zsr <| Ac (Ah Aq rfl rfl rfl rfl) (hd 31 rfl) <| Ac (Ah Aq rfl rfl rfl rfl) (hd 32 rfl) ?_
  refine Aj Try.f37 (hCo) rfl Try.func37 rfl rfl (Aa rfl (Aa rfl Ad)) (.cons (.a1 .b (.a1 .n .a0)) (.cons (.a1 .b (.a1 .n .a0)) .nil)) (hd 33 rfl) ?_ (fun ch hp => by simp at hp)
  rintro y ⟨g2, x2, hy, hE2⟩; injection hy with hy; subst hy
  have hlx := A5 hE2.bx
  have hlg := A5 (hE2.le hab2)
  have hmg := Bf (v := g2) (by omega)
  have hmx := Bf (v := x2) (by omega)
  have hXb := G1 (v := x2) (w := (w.natAbs : Int)) (by omega)
  have hl1 : (lm 1).length ≤ 1 := Xs (by decide)
  have hg2 : g2 = g := Lx hE hE2
  refine zmv rfl (hd 30 rfl) <| Ac (Ak rfl rfl) (hd 34 rfl) <| Ac (Ak rfl rfl) (hd 35 rfl) <| Ay (An (id := 4) At (by decide) rfl (by decide) rfl) (hd 8 rfl) <| Ay (An (id := 5) At (by decide) rfl (by decide) rfl) (hd 9 rfl) <| A1 (Ae rfl rfl rfl Au rfl rfl (zlb rfl)) <| A1 (Ae rfl rfl rfl Au rfl rfl (zlb rfl)) <| Ab <| Af <| Af <| Be (n := 4) _ rfl B2 <| Ax 0 [2, 3] (Ao (Ah Aq rfl rfl rfl rfl) (hd 36 rfl)) rfl ?_
  refine Bb 1 ?_ rfl (by kernel_rfl)
  refine A4 Try.f35 (Wz 1 (by unfold inI; omega)) rfl Try.func35 rfl rfl (Aa rfl Ad) (.cons .i .nil) (hd 37 rfl) ?_ (fun ch hp => by simp at hp)
  rintro y hy; injection hy with hy; subst hy
  refine Bb 2 ?_ rfl (by kernel_rfl)
  refine A4 Try.f49 (Ye g2 1 (by omega) (by omega)) rfl Try.func49 rfl rfl (Aa rfl (Aa rfl Ad)) (.cons (.a1 .b (.a1 .n .a0)) (.cons (.a1 .b (.a1 .n .a0)) .nil)) (hd 38 rfl) ?_ (fun ch hp => by simp at hp)
  rintro _ ⟨⟩; refine zal 3 (Ao (Ft (Cm rfl rfl) (fun h => hg1 (by rw [← hg2]; exact Qg.1 h))) (hd 39 rfl)) rfl <| Bi (by kernel_rfl) <| Dm rfl <| zsr <| Ac (B3 (is := []) (xs := []) (pls := []) At Gu rfl Ad rfl trivial (Cj rfl) rfl) (hd 40 rfl) <| A1 (Ae rfl rfl rfl Au rfl rfl (zlb rfl)) <| zas rfl (hd 5 rfl) <| Ab <| Ip (id := 2) 1 79 1 rfl rfl rfl <| As ?_
  refine ⟨[6], _, (.t [.a [.b false, .o 0 0 0 0], .i .i64 61]), (.cons (ResV.cell Aq rfl rfl rfl rfl) (.cons rfl .nil)), rfl, rfl, (by decide), (Al rfl Ar), ?_⟩
  exact ⟨rfl, rfl⟩

theorem Ab2 (x y : Nat) (hdx : (Bj B32 x).length < 4294967296) (hdy : (Bj B32 y).length < 4294967296) : Spec Try.prog 56 [.n false .u64 (Bj B32 x), .n false .u64 (Bj B32 y)] (fun o => o = .ret (.n false .u64 (Bj B32 (Nat.gcd x y)))) := by
  refine Az [(0, .n false .u64 (Bj B32 x)), (1, .n false .u64 (Bj B32 y))] rfl Try.func56 rfl (zlb rfl) fun Γ hN hds hL hR => ?_
  have hd := B5 19 hN
  refine zsr <| zas rfl (hd 4 rfl) <| Ab <| Af <| Aw ?_
  refine B4 (G := Nat × Nat) (fun g => Nat.gcd g.1 g.2 = Nat.gcd x y ∧ (Bj B32 g.1).length < 4294967296 ∧ (Bj B32 g.2).length < 4294967296) (fun g => [(0, .n false .u64 (Bj B32 g.1)), (1, .n false .u64 (Bj B32 g.2)), (5, .u), (6, .u), (7, .u), (8, .u), (9, .u), (10, .u), (11, .u), (12, .u), (13, .u), (14, .u), (15, .u), (16, .u), (17, .u)]) (fun _ => _) (fun g => g.2) (x, y) ?_ ?_ rfl ?_
  · exact ⟨rfl, hdx, hdy⟩
  · exact (.cons rfl (.cons rfl (.v9 (.u (.u (.u .nil))))))
  · rintro ⟨u, v⟩ ⟨hc1, hc2, hc3⟩
    dsimp only at hc1 hc2 hc3 ⊢
    have hl0 := @dl0 v
    refine Af <| zsr <| zmv rfl (hd 7 rfl) ?_
    refine Aj Try.f46 (Qj (Bj B32 v)) rfl Try.func46 rfl rfl (Aa rfl Ad) (.cons .n .nil) (hd 8 rfl) ?_ (fun ch hp => by simp at hp)
    rintro _ ⟨⟩; refine Ac (Fn rfl) (hd 9 rfl) <| Ab ?_
    refine Acu rfl (fun h1 => ?_) (fun h1 => ?_)
    · have hv0 : v ≠ 0 := fun e => h1 (by have := hl0.2 e; omega)
      refine Am <| Aw <| zsr <| zmv rfl (hd 11 rfl) <| zmv rfl (hd 12 rfl) ?_
      refine Aj Try.f58 (Xl u v hc2 hc3 (by omega)) rfl Try.func58 rfl rfl (Aa rfl (Aa rfl Ad)) (.cons .n (.cons .n .nil)) (hd 13 rfl) ?_ (fun ch hp => by simp at hp)
      rintro _ ⟨⟩; refine zmv rfl (hd 10 rfl) <| Ac (Ak rfl rfl) (hd 14 rfl) <| Ac (Ak rfl rfl) (hd 15 rfl) <| zas rfl (hd 5 rfl) <| zas rfl (hd 6 rfl) <| Ab <| Ag <| zmv rfl (hd 16 rfl) <| zmv rfl (hd 17 rfl) <| zas rfl (hd 0 rfl) <| zas rfl (hd 1 rfl) <| Ab ?_
      refine ⟨(v, u % v), ?_, ?_, rfl, Ba 30 rfl rfl ?_⟩
      · exact ⟨by rw [← hc1]; exact Wi, hc3, Nat.lt_of_le_of_lt (Aaj (Nat.mod_le u v)) hc2⟩
      · exact Nat.mod_lt _ (by omega)
      · exact (.cons rfl (.cons rfl (.v9 (.u (.u (.u .nil))))))
    · have hv0 : v = 0 := hl0.1 (by omega)
      subst hv0
      rw [Nat.gcd_zero_right] at hc1
      refine By <| zsr <| zmv rfl (hd 18 rfl) <| zas rfl (hd 4 rfl) <| Ab <| As ?_
      refine ⟨_, _, (.cons rfl .nil), .n, ?_⟩
      rw [← hc1]

theorem Ab3 (v w : Int) (hv : (dg v).length < 4294967296) (hw : (dg w).length < 4294967296) : Spec Try.prog 27 [.a [.b (decide (v < 0)), .n false .u64 (dg v)], .a [.b (decide (w < 0)), .n false .u64 (dg w)]] (fun o => o = .ret (.a [.b (decide (((Nat.gcd v.natAbs w.natAbs : Nat) : Int) < 0)), .n false .u64 (dg ((Nat.gcd v.natAbs w.natAbs : Nat) : Int))])) := by
  refine Az [(0, .a [.b (decide (v < 0)), .n false .u64 (dg v)]), (1, .a [.b (decide (w < 0)), .n false .u64 (dg w)])] rfl Try.func27 rfl (zlb rfl) fun Γ hN hds hL hR => ?_
  have hd := B5 11 hN
  refine zsr <| Ay (Br (id := 0) (n := 2) rfl rfl rfl (by decide) rfl) (hd 2 rfl) <| Ay (Br (id := 1) (n := 2) rfl rfl rfl (by decide) rfl) (hd 3 rfl) <| Ay (An (id := 2) Bx (by decide) rfl (by decide) rfl) (hd 4 rfl) <| Ab <| zsr <| Ac (Bd Dl rfl rfl rfl) (hd 5 rfl) <| Ac (A8 Fl rfl rfl rfl) (hd 6 rfl) <| Ac (Bd Dl rfl rfl rfl) (hd 7 rfl) <| Ac (A8 Fl rfl rfl rfl) (hd 8 rfl) ?_
  refine Aj Try.f56 (Ab2 v.natAbs w.natAbs hv hw) rfl Try.func56 rfl rfl (Aa rfl (Aa rfl Ad)) (.cons .n (.cons .n .nil)) (hd 9 rfl) ?_ (fun ch hp => by simp at hp)
  rintro _ ⟨⟩; refine Ac (B3 (is := [0, 1]) (xs := [.const (.bool false), .tmp 9]) Bx Ih rfl (Aa rfl (Aa rfl Ad)) rfl (by first | (simp [Ck, cellsV]; done) | (simp [Ck, cellsV, old]; done)) (Cj rfl) rfl) (hd 10 rfl) <| A1 (Ae rfl rfl rfl Ca rfl rfl (zlb rfl)) <| Ab <| As ?_
  refine ⟨_, _, (.cons (ResV.cell Bt rfl rfl rfl rfl) .nil), (.a1 .b (.a1 .n .a0)), ?_⟩
  rw [show decide (((Nat.gcd v.natAbs w.natAbs : Nat) : Int) < 0) = false from decide_eq_false (by omega)]
  rfl

theorem K5 (v w g x : Int) (hv : (dg v).length ≤ 4194304) (hw : (dg w).length ≤ 4194304) (h0 : w ≠ 0) (hE : CoE v w g x) : Spec Try.prog 12 [.a [.b (decide (v < 0)), .n false .u64 (dg v)], .a [.b (decide (((w.natAbs : Nat) : Int) < 0)), .n false .u64 (dg ((w.natAbs : Nat) : Int))], .a [.b (decide (g < 0)), .n false .u64 (dg g)]] (fun o => o = .ret (.a [.b (decide ((x % qn w g) < 0)), .n false .u64 (dg (x % qn w g))])) := by
  refine Az [(0, .a [.b (decide (v < 0)), .n false .u64 (dg v)]), (1, .a [.b (decide (((w.natAbs : Nat) : Int) < 0)), .n false .u64 (dg ((w.natAbs : Nat) : Int))]), (2, .a [.b (decide (g < 0)), .n false .u64 (dg g)])] rfl Try.func12 rfl (zlb rfl) fun Γ hN hds hL hR => ?_
  have hd := B5 57 hN
  have hm0 : 0 < ((w.natAbs : Nat) : Int) := by omega
  have hmn : ((w.natAbs : Nat) : Int) ≠ 0 := by omega
  have hdm : (dg ((w.natAbs : Nat) : Int)).length ≤ 4194304 := by rw [X6]; exact hw
  have hd1 := Adf
  have hEu : Spec Try.prog 47 [.a [.b (decide (v < 0)), .n false .u64 (dg v)], .a [.b (decide (((w.natAbs : Nat) : Int) < 0)), .n false .u64 (dg ((w.natAbs : Nat) : Int))]] (fun o => o = .ret (.t [.a [.b (decide ((wq 4 v ((w.natAbs : Nat) : Int)) < 0)), .n false .u64 (dg (wq 4 v ((w.natAbs : Nat) : Int)))], .a [.b (decide ((v % ((w.natAbs : Nat) : Int)) < 0)), .n false .u64 (dg (v % ((w.natAbs : Nat) : Int)))]])) := by have h := M1 v ((w.natAbs : Nat) : Int) (by omega) (by omega) hmn; rwa [euc hmn] at h
  refine zsr <| Ay (Br (id := 0) (n := 2) rfl rfl rfl (by decide) rfl) (hd 3 rfl) <| Ay (Br (id := 1) (n := 2) rfl rfl rfl (by decide) rfl) (hd 4 rfl) <| Ay (Br (id := 2) (n := 2) rfl rfl rfl (by decide) rfl) (hd 5 rfl) <| Ay (An (id := 3) Bx (by decide) rfl (by decide) rfl) (hd 6 rfl) <| Ab <| zsr <| Ac (Ah Bt rfl rfl rfl rfl) (hd 18 rfl) <| Ac (B3 (is := []) (xs := []) (pls := []) Bx Kg rfl Ad rfl trivial (Cj rfl) rfl) (hd 19 rfl) <| Tl 19 rfl <| Ay (An (id := 4) Bx (by decide) rfl (by decide) rfl) (hd 7 rfl) ?_; refine Ay (An (id := 5) Bx (by decide) rfl (by decide) rfl) (hd 8 rfl) <| A1 (Ae rfl rfl rfl Ca rfl rfl (zlb rfl)) <| A1 (Ae rfl rfl rfl Ca rfl rfl (zlb rfl)) <| Ab <| zsr <| Ac (Ah Bt rfl rfl rfl rfl) (hd 21 rfl) <| Ac (Ah Bt rfl rfl rfl rfl) (hd 22 rfl) ?_
  refine Aj Try.f47 (hEu) rfl Try.func47 rfl rfl (Aa rfl (Aa rfl Ad)) (.cons (.a1 .b (.a1 .n .a0)) (.cons (.a1 .b (.a1 .n .a0)) .nil)) (hd 23 rfl) ?_ (fun ch hp => by simp at hp)
  rintro _ ⟨⟩; refine zmv rfl (hd 20 rfl) <| Ac (Ak rfl rfl) (hd 24 rfl) <| Ac (Ak rfl rfl) (hd 25 rfl) <| Ay (An (id := 6) Bx (by decide) rfl (by decide) rfl) (hd 9 rfl) <| Ay (An (id := 7) Bx (by decide) rfl (by decide) rfl) (hd 10 rfl) <| A1 (Ae rfl rfl rfl Ca rfl rfl (zlb rfl)) <| A1 (Ae rfl rfl rfl Ca rfl rfl (zlb rfl)) <| Ab <| Af <| Ag ?_
  refine Aj Try.f28 (Nq 1 (by unfold inI; omega)) rfl Try.func28 rfl rfl (Aa rfl Ad) (.cons .i .nil) (hd 26 rfl) ?_ (fun ch hp => by simp at hp)
  rintro _ ⟨⟩; refine Ay (An (id := 8) Bx (by decide) rfl (by decide) rfl) (hd 11 rfl) <| A1 (Ae rfl rfl rfl Ca rfl rfl (zlb rfl)) <| Ab <| Af <| Aw ?_
  refine (Cs (H' := [⟨32, 2, 0, true, [.b (decide (v < 0)), .n false .u64 (dg v)]⟩, ⟨32, 2, 0, true, [.b (decide (((w.natAbs : Nat) : Int) < 0)), .n false .u64 (dg ((w.natAbs : Nat) : Int))]⟩, ⟨32, 2, 0, true, [.b (decide (g < 0)), .n false .u64 (dg g)]⟩, ⟨32, 2, 0, true, [.b false, .c (.slice none 0 0)]⟩, ⟨32, 2, 0, true, [.b (decide (((w.natAbs : Nat) : Int) < 0)), .n false .u64 (dg ((w.natAbs : Nat) : Int))]⟩, ⟨32, 2, 0, true, [.b (decide (0 < 0)), .n false .u64 (dg 0)]⟩, ⟨32, 2, 0, true, [.b (decide ((wq 4 v ((w.natAbs : Nat) : Int)) < 0)), .n false .u64 (dg (wq 4 v ((w.natAbs : Nat) : Int)))]⟩, ⟨32, 2, 0, true, [.b (decide ((v % ((w.natAbs : Nat) : Int)) < 0)), .n false .u64 (dg (v % ((w.natAbs : Nat) : Int)))]⟩, ⟨32, 2, 0, true, [.b (decide (1 < 0)), .n false .u64 (dg 1)]⟩]) (by rw [show dg 0 = [] from Dg]; rfl) ?_)
  refine Iq (G := Int × Int × Int × Int) 9 (fun p9 => Co v ((w.natAbs : Nat) : Int) p9.1 p9.2.1 p9.2.2.1 p9.2.2.2 ∧ 0 ≤ p9.1 ∧ 0 ≤ p9.2.1) (fun p9 => [(12, .u), (13, .u), (27, .u), (28, .u), (29, .u), (30, .u), (31, .u), (32, .u), (33, .u), (34, .u), (35, .u), (36, .u), (37, .u), (38, .u), (39, .u), (40, .u), (41, .u), (42, .u), (43, .u)]) (fun p9 => [⟨32, 2, 0, true, [.b (decide (v < 0)), .n false .u64 (dg v)]⟩, ⟨32, 2, 0, true, [.b (decide (((w.natAbs : Nat) : Int) < 0)), .n false .u64 (dg ((w.natAbs : Nat) : Int))]⟩, ⟨32, 2, 0, true, [.b (decide (g < 0)), .n false .u64 (dg g)]⟩, ⟨32, 2, 0, true, [.b false, .c (.slice none 0 0)]⟩, ⟨32, 2, 0, true, [.b (decide (p9.1 < 0)), .n false .u64 (dg p9.1)]⟩, ⟨32, 2, 0, true, [.b (decide (p9.2.2.1 < 0)), .n false .u64 (dg p9.2.2.1)]⟩, ⟨32, 2, 0, true, [.b (decide ((wq 4 v ((w.natAbs : Nat) : Int)) < 0)), .n false .u64 (dg (wq 4 v ((w.natAbs : Nat) : Int)))]⟩, ⟨32, 2, 0, true, [.b (decide (p9.2.1 < 0)), .n false .u64 (dg p9.2.1)]⟩, ⟨32, 2, 0, true, [.b (decide (p9.2.2.2 < 0)), .n false .u64 (dg p9.2.2.2)]⟩]) (fun p9 => p9.2.1.natAbs) (((w.natAbs : Nat) : Int), v % ((w.natAbs : Nat) : Int), 0, 1) ?_ ?_ rfl hR rfl (fun _ _ => rfl) (fun _ _ => (.cons rfl (.cons rfl (.cons rfl (.cons rfl (.cons rfl (.cons rfl (.cons rfl (.cons rfl (.cons rfl .nil)))))))))) ?_
  · exact ⟨Afq hmn, by omega, Int.emod_nonneg _ hmn⟩
  · exact (.v9 (.v5 (.u (.u (.u (.u .nil))))))
  · rintro ⟨r, t, s, u⟩ ⟨hC, hr0, ht0⟩
    dsimp only at hC hr0 ht0 ⊢
    have hdr := Adc (L := 4194304) hC.br hv hdm
    have hdt := Nat.le_trans (E8 hC.bs) hdm
    have hds9 := Nat.le_trans (E8 hC.bx) hdm
    have hdu := Nat.le_trans (E8 hC.by_) hdm
    refine Af <| zsr <| Ac (Ah Bt rfl rfl rfl rfl) (hd 27 rfl) ?_
    refine Aj Try.f11 (H3 t) rfl Try.func11 rfl rfl (Aa rfl Ad) (.cons (.a1 .b (.a1 .n .a0)) .nil) (hd 28 rfl) ?_ (fun ch hp => by simp at hp)
    rintro _ ⟨⟩; refine Ac (Cm rfl rfl) (hd 29 rfl) <| Ab ?_
    refine Bu rfl (fun h1 => ?_) (fun h1 => ?_)
    · have ht : t ≠ 0 := fun e => h1 (Ex.2 e)
      have hq9 := Aaa (a := r) (b := t) (by omega)
      have hN9 := hC.next hmn ht hq9
      have hdq : (dg (flo r t)).length ≤ (dg r).length := E8 (Rh (k := 1) (v := r) ht).1
      have hdp := Fd (flo r t) u
      have hFl : Spec Try.prog 29 [.a [.b (decide (r < 0)), .n false .u64 (dg r)], .a [.b (decide (t < 0)), .n false .u64 (dg t)]] (fun o => o = .ret (.t [.a [.b (decide ((flo r t) < 0)), .n false .u64 (dg (flo r t))], .a [.b (decide ((r % t) < 0)), .n false .u64 (dg (r % t))]])) := by have h := If r t (by omega) (by omega) ht; rwa [hq9] at h
      refine Am <| Aw <| zsr <| Ac (Ah Bt rfl rfl rfl rfl) (hd 31 rfl) <| Ac (Ah Bt rfl rfl rfl rfl) (hd 32 rfl) ?_
      refine Aj Try.f29 (hFl) rfl Try.func29 rfl rfl (Aa rfl (Aa rfl Ad)) (.cons (.a1 .b (.a1 .n .a0)) (.cons (.a1 .b (.a1 .n .a0)) .nil)) (hd 33 rfl) ?_ (fun ch hp => by simp at hp)
      rintro _ ⟨⟩; refine zmv rfl (hd 30 rfl) <| Ac (Ak rfl rfl) (hd 34 rfl) <| Ac (Ak rfl rfl) (hd 35 rfl) <| Ay (An (id := 9) Bx (by decide) rfl (by decide) rfl) (hd 12 rfl) <| Ay (An (id := 10) Bx (by decide) rfl (by decide) rfl) (hd 13 rfl) <| A1 (Ae rfl rfl rfl Ca rfl rfl (zlb rfl)) <| A1 (Ae rfl rfl rfl Ca rfl rfl (zlb rfl)) <| Ab <| Af <| Cs (H' := [(oqz 0 v), (oqz 0 ((w.natAbs : Nat) : Int)), (oqz 0 g), (oqn 0), (oqz 0 r), (oqz 0 s), (oqz 0 (wq 4 v ((w.natAbs : Nat) : Int))), (oqz 0 t), (oqz 0 u), (oqz 0 (flo r t)), (oqz 0 (r % t))]) rfl <| Be (n := 4) _ rfl B2 ?_; refine Db (fun _ _ _ _ h => h) fun ops1 Q1 F0 hpan ho hq hF => ?_
      have S6_1111 : JA Try.prog ops1 0 #[true, true, true, true] Γ ([(36, (qz t)), (37, (qz (r % t)))] ++ F0) [(oqz 0 v), (oqz 0 ((w.natAbs : Nat) : Int)), (oqz 0 g), (oqn 0), (oqz 0 t), (oqz 0 s), (oqz 0 (wq 4 v ((w.natAbs : Nat) : Int))), (oqz 0 (r % t)), (oqz 0 u), (oqz 0 (flo r t)), (oqz 0 (r % t))] Q1 := by
        subst ho; subst hq; subst hF; refine Bi (by kernel_rfl) <| Cs (H' := [(oqz 0 v), (oqz 0 ((w.natAbs : Nat) : Int)), (oqz 0 g), (oqn 0), (oqz 0 t), (oqz 0 s), (oqz 0 (wq 4 v ((w.natAbs : Nat) : Int))), (oqz 0 (r % t)), (oqz 0 u), (oqz 0 (flo r t)), (oqz 0 (r % t))]) rfl <| Be (n := 8) _ rfl B2 ?_; refine Db (fun _ _ _ _ h => h) fun ops1 Q1 F0 hpan ho hq hF => ?_
        have S7_11111111 : JA Try.prog ops1 0 #[true, true, true, true, true, true, true, true] Γ ([(38, (qz u)), (39, (qz s)), (40, (qz (flo r t))), (41, (qz u)), (42, (qz ((flo r t) * u))), (43, (qz (s - (flo r t) * u)))] ++ F0) [(oqz 0 v), (oqz 0 ((w.natAbs : Nat) : Int)), (oqz 0 g), (oqn 0), (oqz 0 t), (oqz 0 u), (oqz 0 (wq 4 v ((w.natAbs : Nat) : Int))), (oqz 0 (r % t)), (oqz 0 (s - (flo r t) * u)), (oqz 0 (flo r t)), (oqz 0 (r % t))] Q1 := by
          subst ho; subst hq; subst hF; refine Bi (by kernel_rfl) ?_
          refine ⟨(t, r % t, u, s - flo r t * u), ?_, ?_, rfl, Ba 38 rfl rfl ?_⟩
          · exact ⟨hN9, by omega, Int.emod_nonneg _ ht⟩
          · show (r % t).natAbs < t.natAbs
            have := Int.emod_lt r ht
            have := Int.emod_nonneg r ht
            omega
          · exact (.v9 (.v5 (.u (.u (.u (.u .nil))))))
        have S7_11111110 : JA Try.prog ops1 1 #[true, true, true, true, true, true, true, false] Γ ([(38, (qz u)), (39, (qz s)), (40, (qz (flo r t))), (41, (qz u)), (42, (qz ((flo r t) * u))), (43, (qz (s - (flo r t) * u)))] ++ F0) [(oqz 0 v), (oqz 0 ((w.natAbs : Nat) : Int)), (oqz 0 g), (oqn 0), (oqz 0 t), (oqz 0 u), (oqz 0 (wq 4 v ((w.natAbs : Nat) : Int))), (oqz 0 (r % t)), (oqz 0 u), (oqz 0 (flo r t)), (oqz 0 (r % t))] Q1 := by
          subst ho; subst hF
          refine Bb 7 ?_ rfl (by kernel_rfl)
          refine A7 (Ae rfl rfl rfl Ca rfl rfl (zlb rfl)) rfl ?_
          refine Ai S7_11111111 6 (.cons rfl (.cons rfl (.cons rfl (.cons rfl (.cons rfl (.cons rfl .nil))))))
        have S7_11111100 : JA Try.prog ops1 2 #[true, true, true, true, true, true, false, false] Γ ([(38, (qz u)), (39, (qz s)), (40, (qz (flo r t))), (41, (qz u)), (42, (qz ((flo r t) * u))), (43, (qz (s - (flo r t) * u)))] ++ F0) [(oqz 0 v), (oqz 0 ((w.natAbs : Nat) : Int)), (oqz 0 g), (oqn 0), (oqz 0 t), (oqz 0 s), (oqz 0 (wq 4 v ((w.natAbs : Nat) : Int))), (oqz 0 (r % t)), (oqz 0 u), (oqz 0 (flo r t)), (oqz 0 (r % t))] Q1 := by
          subst ho; subst hF
          refine Bb 6 ?_ rfl (by kernel_rfl)
          refine A7 (Ae rfl rfl rfl Ca rfl rfl (zlb rfl)) rfl ?_
          refine Ai S7_11111110 6 (.cons rfl (.cons rfl (.cons rfl (.cons rfl (.cons rfl (.cons rfl .nil))))))
        have S7_11111000 : JA Try.prog ops1 3 #[true, true, true, true, true, false, false, false] Γ ([(38, (qz u)), (39, (qz s)), (40, (qz (flo r t))), (41, (qz u)), (42, (qz ((flo r t) * u)))] ++ F0) [(oqz 0 v), (oqz 0 ((w.natAbs : Nat) : Int)), (oqz 0 g), (oqn 0), (oqz 0 t), (oqz 0 s), (oqz 0 (wq 4 v ((w.natAbs : Nat) : Int))), (oqz 0 (r % t)), (oqz 0 u), (oqz 0 (flo r t)), (oqz 0 (r % t))] Q1 := by
          subst ho; subst hF
          refine Bb 5 ?_ rfl (by kernel_rfl)
          refine A4 Try.f30 (Kr s (flo r t * u) (by omega) (by omega)) rfl Try.func30 rfl rfl (Aa rfl (Aa rfl Ad)) (.cons (.a1 .b (.a1 .n .a0)) (.cons (.a1 .b (.a1 .n .a0)) .nil)) (hd 43 rfl) ?_ (fun ch hp => by simp at hp)
          rintro y hy; injection hy with hy; subst hy
          refine Ai S7_11111100 6 (.cons rfl (.cons rfl (.cons rfl (.cons rfl (.cons rfl (.cons rfl .nil))))))
        have S7_11110000 : JA Try.prog ops1 4 #[true, true, true, true, false, false, false, false] Γ ([(38, (qz u)), (39, (qz s)), (40, (qz (flo r t))), (41, (qz u))] ++ F0) [(oqz 0 v), (oqz 0 ((w.natAbs : Nat) : Int)), (oqz 0 g), (oqn 0), (oqz 0 t), (oqz 0 s), (oqz 0 (wq 4 v ((w.natAbs : Nat) : Int))), (oqz 0 (r % t)), (oqz 0 u), (oqz 0 (flo r t)), (oqz 0 (r % t))] Q1 := by
          subst ho; subst hF
          refine Bb 4 ?_ rfl (by kernel_rfl)
          refine A4 Try.f31 (Lm (flo r t) u (by omega) (by omega)) rfl Try.func31 rfl rfl (Aa rfl (Aa rfl Ad)) (.cons (.a1 .b (.a1 .n .a0)) (.cons (.a1 .b (.a1 .n .a0)) .nil)) (hd 42 rfl) ?_ (fun ch hp => by simp at hp)
          rintro y hy; injection hy with hy; subst hy
          refine Ai S7_11111000 5 (.cons rfl (.cons rfl (.cons rfl (.cons rfl (.cons rfl .nil)))))
        have S7_11100000 : JA Try.prog ops1 5 #[true, true, true, false, false, false, false, false] Γ ([(38, (qz u)), (39, (qz s)), (40, (qz (flo r t)))] ++ F0) [(oqz 0 v), (oqz 0 ((w.natAbs : Nat) : Int)), (oqz 0 g), (oqn 0), (oqz 0 t), (oqz 0 s), (oqz 0 (wq 4 v ((w.natAbs : Nat) : Int))), (oqz 0 (r % t)), (oqz 0 u), (oqz 0 (flo r t)), (oqz 0 (r % t))] Q1 := by
          subst ho; subst hF; refine Bz 3 [4, 5, 6, 7] (Ao (Ah Bt rfl rfl rfl rfl) (hd 41 rfl)) rfl (by kernel_rfl) (by kernel_rfl) (by kernel_rfl) (by kernel_rfl) hpan ?_
          refine Ai S7_11110000 4 (.cons rfl (.cons rfl (.cons rfl (.cons rfl .nil))))
        have S7_11000000 : JA Try.prog ops1 6 #[true, true, false, false, false, false, false, false] Γ ([(38, (qz u)), (39, (qz s))] ++ F0) [(oqz 0 v), (oqz 0 ((w.natAbs : Nat) : Int)), (oqz 0 g), (oqn 0), (oqz 0 t), (oqz 0 s), (oqz 0 (wq 4 v ((w.natAbs : Nat) : Int))), (oqz 0 (r % t)), (oqz 0 u), (oqz 0 (flo r t)), (oqz 0 (r % t))] Q1 := by
          subst ho; subst hF; refine Bz 2 [4, 5, 6, 7] (Ao (Ah Bt rfl rfl rfl rfl) (hd 40 rfl)) rfl (by kernel_rfl) (by kernel_rfl) (by kernel_rfl) (by kernel_rfl) hpan ?_
          refine Ai S7_11100000 3 (.cons rfl (.cons rfl (.cons rfl .nil)))
        have S7_10000000 : JA Try.prog ops1 7 #[true, false, false, false, false, false, false, false] Γ ([(38, (qz u))] ++ F0) [(oqz 0 v), (oqz 0 ((w.natAbs : Nat) : Int)), (oqz 0 g), (oqn 0), (oqz 0 t), (oqz 0 s), (oqz 0 (wq 4 v ((w.natAbs : Nat) : Int))), (oqz 0 (r % t)), (oqz 0 u), (oqz 0 (flo r t)), (oqz 0 (r % t))] Q1 := by
          subst ho; subst hF; refine Bz 1 [5, 6, 7] (Ao (Ah Bt rfl rfl rfl rfl) (hd 39 rfl)) rfl (by kernel_rfl) (by kernel_rfl) (by kernel_rfl) (by kernel_rfl) hpan ?_
          refine Ai S7_11000000 2 (.cons rfl (.cons rfl .nil))
        have S7_00000000 : JA Try.prog ops1 8 #[false, false, false, false, false, false, false, false] Γ ([] ++ F0) [(oqz 0 v), (oqz 0 ((w.natAbs : Nat) : Int)), (oqz 0 g), (oqn 0), (oqz 0 t), (oqz 0 s), (oqz 0 (wq 4 v ((w.natAbs : Nat) : Int))), (oqz 0 (r % t)), (oqz 0 u), (oqz 0 (flo r t)), (oqz 0 (r % t))] Q1 := by
          subst ho; subst hF; refine Bz 0 [6, 7] (Ao (Ah Bt rfl rfl rfl rfl) (hd 38 rfl)) rfl (by kernel_rfl) (by kernel_rfl) (by kernel_rfl) (by kernel_rfl) hpan ?_
          refine Ai S7_10000000 1 (.cons rfl .nil)
        subst ho; subst hF
        exact D2 (m := []) (by decide) rfl (Ba 0 rfl rfl .nil) S7_00000000
      have S6_1110 : JA Try.prog ops1 1 #[true, true, true, false] Γ ([(36, (qz t)), (37, (qz (r % t)))] ++ F0) [(oqz 0 v), (oqz 0 ((w.natAbs : Nat) : Int)), (oqz 0 g), (oqn 0), (oqz 0 t), (oqz 0 s), (oqz 0 (wq 4 v ((w.natAbs : Nat) : Int))), (oqz 0 t), (oqz 0 u), (oqz 0 (flo r t)), (oqz 0 (r % t))] Q1 := by
        subst ho; subst hF
        refine Bb 3 ?_ rfl (by kernel_rfl)
        refine A7 (Ae rfl rfl rfl Ca rfl rfl (zlb rfl)) rfl ?_
        refine Ai S6_1111 2 (.cons rfl (.cons rfl .nil))
      have S6_1100 : JA Try.prog ops1 2 #[true, true, false, false] Γ ([(36, (qz t)), (37, (qz (r % t)))] ++ F0) [(oqz 0 v), (oqz 0 ((w.natAbs : Nat) : Int)), (oqz 0 g), (oqn 0), (oqz 0 r), (oqz 0 s), (oqz 0 (wq 4 v ((w.natAbs : Nat) : Int))), (oqz 0 t), (oqz 0 u), (oqz 0 (flo r t)), (oqz 0 (r % t))] Q1 := by
        subst ho; subst hF
        refine Bb 2 ?_ rfl (by kernel_rfl)
        refine A7 (Ae rfl rfl rfl Ca rfl rfl (zlb rfl)) rfl ?_
        refine Ai S6_1110 2 (.cons rfl (.cons rfl .nil))
      have S6_1010 : JA Try.prog ops1 2 #[true, false, true, false] Γ ([(36, (qz t))] ++ F0) [(oqz 0 v), (oqz 0 ((w.natAbs : Nat) : Int)), (oqz 0 g), (oqn 0), (oqz 0 t), (oqz 0 s), (oqz 0 (wq 4 v ((w.natAbs : Nat) : Int))), (oqz 0 t), (oqz 0 u), (oqz 0 (flo r t)), (oqz 0 (r % t))] Q1 := by
        subst ho; subst hF; refine Bz 1 [3] (Ao (Ah Bt rfl rfl rfl rfl) (hd 37 rfl)) rfl (by kernel_rfl) (by kernel_rfl) (by kernel_rfl) (by kernel_rfl) hpan ?_
        refine Ai S6_1110 2 (.cons rfl (.cons rfl .nil))
      have S6_1000 : JA Try.prog ops1 3 #[true, false, false, false] Γ ([(36, (qz t))] ++ F0) [(oqz 0 v), (oqz 0 ((w.natAbs : Nat) : Int)), (oqz 0 g), (oqn 0), (oqz 0 r), (oqz 0 s), (oqz 0 (wq 4 v ((w.natAbs : Nat) : Int))), (oqz 0 t), (oqz 0 u), (oqz 0 (flo r t)), (oqz 0 (r % t))] Q1 := by
        subst ho; subst hF
        refine Ct 1 2 ?_ ?_ rfl rfl (by kernel_rfl)
        · refine C4 (Ah Bt rfl rfl rfl rfl) (hd 37 rfl) ?_
          refine Ai S6_1100 2 (.cons rfl (.cons rfl .nil))
        · refine A7 (Ae rfl rfl rfl Ca rfl rfl (zlb rfl)) rfl ?_
          refine Ai S6_1010 1 (.cons rfl .nil)
      have S6_0000 : JA Try.prog ops1 4 #[false, false, false, false] Γ ([] ++ F0) [(oqz 0 v), (oqz 0 ((w.natAbs : Nat) : Int)), (oqz 0 g), (oqn 0), (oqz 0 r), (oqz 0 s), (oqz 0 (wq 4 v ((w.natAbs : Nat) : Int))), (oqz 0 t), (oqz 0 u), (oqz 0 (flo r t)), (oqz 0 (r % t))] Q1 := by
        subst ho; subst hF; refine Bz 0 [2, 3] (Ao (Ah Bt rfl rfl rfl rfl) (hd 36 rfl)) rfl (by kernel_rfl) (by kernel_rfl) (by kernel_rfl) (by kernel_rfl) hpan ?_
        refine Ai S6_1000 1 (.cons rfl .nil)
      subst ho; subst hF
      exact D2 (m := []) (by decide) rfl (Ba 0 rfl rfl .nil) S6_0000
    · have ht : t = 0 := Ex.1 (Decidable.not_not.1 h1)
      subst ht
      have hEs := hC.pos hr0
      obtain rfl : r = g := hE.same hEs
      have hgn := hE.ne h0
      obtain ⟨hb1, hb2, hb3⟩ := Fc hE h0
      have hXs : s % qn w r = x % qn w r := (P2 h0 hE hEs.dx).symm
      have hdst : (dg (qn w r)).length ≤ 4194304 := Nat.le_trans (E8 (w := w) (by omega)) hw
      have hF2 : Spec Try.prog 29 [.a [.b (decide (((w.natAbs : Nat) : Int) < 0)), .n false .u64 (dg ((w.natAbs : Nat) : Int))], .a [.b (decide (r < 0)), .n false .u64 (dg r)]] (fun o => o = .ret (.t [.a [.b (decide ((qn w r) < 0)), .n false .u64 (dg (qn w r))], .a [.b (decide ((((w.natAbs : Nat) : Int) - qn w r * r) < 0)), .n false .u64 (dg (((w.natAbs : Nat) : Int) - qn w r * r))]])) := by have h := If ((w.natAbs : Nat) : Int) r (by omega) (by omega) hgn; rwa [Aer hE h0] at h
      have hEu2 : Spec Try.prog 47 [.a [.b (decide (s < 0)), .n false .u64 (dg s)], .a [.b (decide ((qn w r) < 0)), .n false .u64 (dg (qn w r))]] (fun o => o = .ret (.t [.a [.b (decide ((wq 4 s (qn w r)) < 0)), .n false .u64 (dg (wq 4 s (qn w r)))], .a [.b (decide ((x % qn w r) < 0)), .n false .u64 (dg (x % qn w r))]])) := by have h := M1 s (qn w r) (by omega) (by omega) (by omega); rwa [euc (by omega), hXs] at h
      refine By <| zsr <| Ac (Ah Bt rfl rfl rfl rfl) (hd 45 rfl) <| Ac (Ah Bt rfl rfl rfl rfl) (hd 46 rfl) ?_
      refine Aj Try.f29 (hF2) rfl Try.func29 rfl rfl (Aa rfl (Aa rfl Ad)) (.cons (.a1 .b (.a1 .n .a0)) (.cons (.a1 .b (.a1 .n .a0)) .nil)) (hd 47 rfl) ?_ (fun ch hp => by simp at hp)
      rintro _ ⟨⟩; refine zmv rfl (hd 44 rfl) <| Ac (Ak rfl rfl) (hd 48 rfl) <| Ac (Ak rfl rfl) (hd 49 rfl) <| Ay (An (id := 9) Bx (by decide) rfl (by decide) rfl) (hd 14 rfl) <| Ay (An (id := 10) Bx (by decide) rfl (by decide) rfl) (hd 15 rfl) <| A1 (Ae rfl rfl rfl Ca rfl rfl (zlb rfl)) <| A1 (Ae rfl rfl rfl Ca rfl rfl (zlb rfl)) <| Ab <| zsr <| Ac (Ah Bt rfl rfl rfl rfl) (hd 51 rfl) <| Ac (Ah Bt rfl rfl rfl rfl) (hd 52 rfl) ?_
      refine Aj Try.f47 (hEu2) rfl Try.func47 rfl rfl (Aa rfl (Aa rfl Ad)) (.cons (.a1 .b (.a1 .n .a0)) (.cons (.a1 .b (.a1 .n .a0)) .nil)) (hd 53 rfl) ?_ (fun ch hp => by simp at hp)
      rintro _ ⟨⟩; refine zmv rfl (hd 50 rfl) <| Ac (Ak rfl rfl) (hd 54 rfl) <| Ac (Ak rfl rfl) (hd 55 rfl) <| Ay (An (id := 11) Bx (by decide) rfl (by decide) rfl) (hd 16 rfl) <| Ay (An (id := 12) Bx (by decide) rfl (by decide) rfl) (hd 17 rfl) <| A1 (Ae rfl rfl rfl Ca rfl rfl (zlb rfl)) <| A1 (Ae rfl rfl rfl Ca rfl rfl (zlb rfl)) <| Ab <| zsr <| Ac (Ah Bt rfl rfl rfl rfl) (hd 56 rfl) <| A1 (Ae rfl rfl rfl Ca rfl rfl (zlb rfl)) <| Ab ?_; refine As ?_
      refine ⟨_, _, (.cons (ResV.cell Bt rfl rfl rfl rfl) .nil), (.a1 .b (.a1 .n .a0)), ?_⟩
      exact rfl
end Go.Proofs.Ythbbbopbglbagaa.Vc
