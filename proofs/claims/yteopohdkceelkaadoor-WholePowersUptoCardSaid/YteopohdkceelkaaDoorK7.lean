/- Powers and shifts of whole numbers are what the document defines. Texts joined: Eg, Eh, RPowers. -/
import Derived.Test.YteopohdkceelkaaDoorK6
import Derived.Test.YteopohdkceelkaaDoorRows
import Derived.Test.YteopohdkceelkaaDoorCards
import Derived.Test.YteopohdkceelkaaDoorTie
import Derived.WalkKit
import Derived.Deep.DeepHandedRow
import Derived.Lib.LaidTab
import Derived.ProofKit
import Derived.OpenShut
import Derived.Carry
import Derived.JoinedCond
set_option linter.unusedVariables false
set_option linter.unusedSimpArgs false
set_option maxHeartbeats 4000000
namespace Go.Proofs.YteopohdkceelkaaDoor.Vc
open Go Go.RowKit
set_option maxHeartbeats 20000000 in
set_option maxRecDepth 100000 in
theorem J4 (sa : Bool) (a : List Int) (n : Int) (la : a.length ≤ 1048574) (ua : Az a) (rp qd rs : List Int) (sp ss bb : Bool) (ep cp zp es n9 : Int) (lrp : rp.length ≤ 1048577) (lrs : rs.length ≤ 1048577) (hqd : qd.length < 4294967296) (hPw : SpecM Tryd.prog 6 [.a [.b sa, .n false .u64 a], .i .i64 n] [] (fun o G => o = .ret (.t [.a [.b sp, .o 0 0 0 rp.length], .i .i64 ep]) ∧ G = [⟨58, 1, 0, true, ints .u64 rp⟩])) (hRp : Spec Tryd.prog 7 [.n false .u64 (dg (sv sa a)), .i .i64 n] (fun o => o = .ret (.t [.n false .u64 qd, .i .i64 cp]))) (hOf : Spec Tryd.prog 8 [.b (decide ((sv sa a) < 0) && decide (n.tmod 2 = 1)), .n false .u64 (G9 qd)] (fun o => o = .ret (.a [.b (decide (zp < 0)), .n false .u64 (dg zp)]))) (hAl1 : Spec Tryd.prog 10 [.a [.b sp, .n false .u64 rp], .i .i64 ep, .a [.b (decide (zp < 0)), .n false .u64 (dg zp)], .i .i64 cp] (fun o => o = .ret (.b true))) (hSh : Ir Tryd.prog 11 0 tzCells [.a [.b sa, .n false .u64 a], .i .i64 n] (fun o G => o = .ret (.t [.a [.b ss, .o 0 0 0 rs.length], .i .i64 es]) ∧ G = [⟨58, 1, 0, true, ints .u64 rs⟩])) (hbb : bb = (decide (67108864 < n) && !decide (((dg (sv sa a)).length : Int) = 0))) (hAl2 : bb = true → Spec Tryd.prog 10 [.a [.b ss, .n false .u64 rs], .i .i64 es, .a [.b (decide ((sv sa a) < 0)), .n false .u64 (dg (sv sa a))], .i .i64 3] (fun o => o = .ret (.b true))) (hn9 : ((sv sa a) = 0 → n9 = 0) ∧ ((sv sa a) ≠ 0 → n9 = n)) (hAl3 : bb = false → ∃ zs9 : Int, Spec Tryd.prog 14 [.a [.b (decide ((sv sa a) < 0)), .n false .u64 (dg (sv sa a))], .i .i64 n9] (fun o => o = .ret (.a [.b (decide (zs9 < 0)), .n false .u64 (dg zs9)])) ∧ Spec Tryd.prog 10 [.a [.b ss, .n false .u64 rs], .i .i64 es, .a [.b (decide (zs9 < 0)), .n false .u64 (dg zs9)], .i .i64 0] (fun o => o = .ret (.b true))) : Is Tryd.prog 3 0 tzCells [.a [.b sa, .n false .u64 a], .i .i64 n] (fun o => o = .ret (.b true)) := by
  refine Ji [(0, .a [.b sa, .n false .u64 a]), (1, .i .i64 n)] rfl Tryd.func3 rfl (zlb rfl) fun Γ hTb hN hds hL hR => ?_
  have hd := Bu 98 hN
  refine zsr <| Bl (Ci (id := 0) (n := 2) rfl rfl rfl (by decide) rfl) (hd 2 rfl) <| zas rfl (hd 4 rfl) <| Ab <| zsr <| Ac (A8 Aae rfl rfl rfl rfl) (hd 16 rfl) ?_
  refine Aj Tryd.f4 (Zp sa a (by omega)) rfl Tryd.func4 rfl rfl (Aa rfl Ad) (.cons (.a1 .b (.a1 .n .a0)) .nil) (hd 17 rfl) ?_ (fun ch hp => by simp at hp)
  rintro _ ⟨⟩; refine zmv rfl (hd 15 rfl) <| Ac (Ap rfl rfl) (hd 18 rfl) <| Ac (Ap rfl rfl) (hd 19 rfl) <| Bl (Ao (id := 1) By (by decide) rfl (by decide) rfl) (hd 6 rfl) <| zas rfl (hd 5 rfl) <| A6 (Ah rfl rfl rfl Cc rfl rfl (zlb rfl)) <| Ab <| Ae <| Hr (H' := [⟨24, 2, 0, true, [.b sa, .n false .u64 a]⟩, ⟨27, 2, 0, true, [.b sa, .n true .u64 a]⟩]) rfl <| Af <| Ac (A8 Aae rfl rfl rfl rfl) (hd 20 rfl) ?_
  refine Aj Tryd.f5 (Ade sa a (by omega) ua) rfl Tryd.func5 rfl rfl (Aa rfl Ad) (.cons (.a1 .b (.a1 .n .a0)) .nil) (hd 21 rfl) ?_ (fun ch hp => by simp at hp)
  rintro _ ⟨⟩; refine Bl (Ao (id := 2) Bd (by decide) rfl (by decide) rfl) (hd 7 rfl) <| A6 (Ah rfl rfl rfl A2 rfl rfl (zlb rfl)) <| Ab <| Ae <| Hr (H' := [⟨24, 2, 0, true, [.b sa, .n false .u64 a]⟩, ⟨27, 2, 0, true, [.b sa, .n true .u64 a]⟩, ⟨32, 2, 0, true, [.b (decide ((sv sa a) < 0)), .n false .u64 (dg (sv sa a))]⟩]) rfl <| Af <| Ac (A8 B3 rfl rfl rfl rfl) (hd 23 rfl) <| zmv rfl (hd 24 rfl) ?_
  refine Dt Tryd.f6 (hPw) (fun o G ⟨_, h⟩ => h ▸ Ax B2 A1) rfl Tryd.func6 rfl rfl (Aa rfl (Aa rfl Ad)) (.cons (.a1 .b (.a1 .n .a0)) (.cons .i .nil)) (hd 25 rfl) ?_ (fun ch G hp => by simp at hp)
  rintro y G ⟨hy, rfl⟩; injection hy with hy; subst hy
  show JO _ _ _ _ ((25, .t [.a [.b sp, .o 3 0 0 rp.length], .i .i64 ep]) :: _) _ _
  refine zmv rfl (hd 22 rfl) <| Ac (Ap rfl rfl) (hd 26 rfl) <| Ac (Ap rfl rfl) (hd 27 rfl) <| Bl (Ao (id := 4) By (by decide) rfl (by decide) rfl) (hd 8 rfl) <| A6 (Ah rfl rfl rfl Cc rfl rfl (zlb rfl)) <| zas rfl (hd 9 rfl) <| Ab <| Ae <| Hr (H' := [⟨24, 2, 0, true, [.b sa, .n false .u64 a]⟩, ⟨27, 2, 0, true, [.b sa, .n true .u64 a]⟩, ⟨32, 2, 0, true, [.b (decide ((sv sa a) < 0)), .n false .u64 (dg (sv sa a))]⟩, ⟨58, 1, 0, true, ints .u64 rp⟩, ⟨27, 2, 0, true, [.b sp, .o 3 0 0 rp.length]⟩]) rfl <| Af <| Ac (Ba Cr rfl rfl rfl) (hd 29 rfl) <| Ac (A9 D6 rfl rfl rfl) (hd 30 rfl) <| zmv rfl (hd 31 rfl) ?_
  refine Aj Tryd.f7 (hRp) rfl Tryd.func7 rfl rfl (Aa rfl (Aa rfl Ad)) (.cons .n (.cons .i .nil)) (hd 32 rfl) ?_ (fun ch hp => by simp at hp)
  rintro _ ⟨⟩; refine zmv rfl (hd 28 rfl) <| Ac (Ap rfl rfl) (hd 33 rfl) <| Ac (Ap rfl rfl) (hd 34 rfl) <| zas rfl (hd 10 rfl) <| zas rfl (hd 11 rfl) <| Ab ?_
  refine Ij (G := Unit) (fun _ => True) (fun _ => [(12, .p 5 0 0), (35, .u), (36, .u), (37, .u), (38, .u), (39, .u), (40, .u), (41, .u), (42, .u), (43, .u), (44, .u)]) (fun _ => [⟨24, 2, 0, true, [.b sa, .n false .u64 a]⟩, ⟨27, 2, 0, true, [.b sa, .n true .u64 a]⟩, ⟨32, 2, 0, true, [.b (decide ((sv sa a) < 0)), .n false .u64 (dg (sv sa a))]⟩, ⟨58, 1, 0, true, ints .u64 rp⟩, ⟨27, 2, 0, true, [.b sp, .o 3 0 0 rp.length]⟩, ⟨32, 2, 0, true, [.b (decide (zp < 0)), .n false .u64 (dg zp)]⟩]) ?_ ?_
  · refine Hr (H' := [⟨24, 2, 0, true, [.b sa, .n false .u64 a]⟩, ⟨27, 2, 0, true, [.b sa, .n true .u64 a]⟩, ⟨32, 2, 0, true, [.b (decide ((sv sa a) < 0)), .n false .u64 (dg (sv sa a))]⟩, ⟨58, 1, 0, true, ints .u64 rp⟩, ⟨27, 2, 0, true, [.b sp, .o 3 0 0 rp.length]⟩]) rfl <| Af <| Ac (Ba C6 rfl rfl rfl) (hd 35 rfl) <| Ac (A9 Ez rfl rfl rfl) (hd 36 rfl) <| zmv rfl (hd 37 rfl) ?_
    refine Ea 37 rfl (fun h1 => ?_) (fun h1 => ?_)
    · rw [decide_eq_true h1] at hOf
      refine Ay 37 rfl rfl (At rfl) (hd 38 rfl) <| Ay 37 rfl rfl (Bo (D8 rfl rfl (by decide) rfl) (show V.i .i64 _ = V.i .i64 (n.tmod 2) from rfl)) (hd 39 rfl) <| Ay 37 rfl rfl (B7 rfl rfl) (hd 40 rfl) <| Ac (Bi rfl rfl) (hd 41 rfl) <| zmv rfl (hd 42 rfl) ?_
      refine Aj Tryd.f9 (L3 qd hqd) rfl Tryd.func9 rfl rfl (Aa rfl Ad) (.cons .n .nil) (hd 43 rfl) ?_ (fun ch hp => by simp at hp)
      rintro y hy; injection hy with hy; subst hy
      refine Aj Tryd.f8 (hOf) rfl Tryd.func8 rfl rfl (Aa rfl (Aa rfl Ad)) (.cons .b (.cons .n .nil)) (hd 44 rfl) ?_ (fun ch hp => by simp at hp)
      rintro _ ⟨⟩; refine Bl (Ao (id := 5) Bd (by decide) rfl (by decide) rfl) (hd 12 rfl) <| A6 (Ah rfl rfl rfl A2 rfl rfl (zlb rfl)) <| Ab ?_
      refine ⟨(), ?_, rfl, Bb 12 rfl rfl ?_⟩
      · trivial
      · exact (.cons rfl (.v9 .nil))
    · rw [decide_eq_false h1] at hOf
      refine Bh 37 rfl rfl rfl (hd 38 rfl) <| Bh 37 rfl rfl rfl (hd 39 rfl) <| Bh 37 rfl rfl rfl (hd 40 rfl) <| Ac (Bn rfl rfl) (hd 41 rfl) <| zmv rfl (hd 42 rfl) ?_
      refine Aj Tryd.f9 (L3 qd hqd) rfl Tryd.func9 rfl rfl (Aa rfl Ad) (.cons .n .nil) (hd 43 rfl) ?_ (fun ch hp => by simp at hp)
      rintro y hy; injection hy with hy; subst hy
      refine Aj Tryd.f8 (hOf) rfl Tryd.func8 rfl rfl (Aa rfl (Aa rfl Ad)) (.cons .b (.cons .n .nil)) (hd 44 rfl) ?_ (fun ch hp => by simp at hp)
      rintro _ ⟨⟩; refine Bl (Ao (id := 5) Bd (by decide) rfl (by decide) rfl) (hd 12 rfl) <| A6 (Ah rfl rfl rfl A2 rfl rfl (zlb rfl)) <| Ab ?_
      refine ⟨(), ?_, rfl, Bb 12 rfl rfl ?_⟩
      · trivial
      · exact (.cons rfl (.v9 .nil))
  · rintro _ _; refine Ae <| Ae <| Hr (H' := [⟨24, 2, 0, true, [.b sa, .n false .u64 a]⟩, ⟨27, 2, 0, true, [.b sa, .n true .u64 a]⟩, ⟨32, 2, 0, true, [.b (decide ((sv sa a) < 0)), .n false .u64 (dg (sv sa a))]⟩, ⟨58, 1, 0, true, ints .u64 rp⟩, ⟨27, 2, 0, true, [.b sp, .o 3 0 0 rp.length]⟩, ⟨32, 2, 0, true, [.b (decide (zp < 0)), .n false .u64 (dg zp)]⟩]) rfl <| Af <| Ac (A8 B3 rfl rfl rfl rfl) (hd 45 rfl) <| zmv rfl (hd 46 rfl) <| Ac (A8 A7 rfl rfl rfl rfl) (hd 47 rfl) <| zmv rfl (hd 48 rfl) ?_
    refine My Tryd.f10 (hAl1) rfl Tryd.func10 rfl rfl (Aa rfl (Aa rfl (Aa rfl (Aa rfl Ad)))) (.a1 (.a1 .b (.a1 (.o rfl (by simp) (by rw [List.drop_zero, List.take_length])) .a0)) (.a1 .i (.a1 (.a1 .b (.a1 .n .a0)) (.a1 .i .a0)))) (.cons (.a1 .b (.a1 .n .a0)) (.cons .i (.cons (.a1 .b (.a1 .n .a0)) (.cons .i .nil)))) hL (fun y hy => by injection hy with hy; subst hy; rfl) (hd 49 rfl) ?_ (fun ch hp => by simp at hp)
    rintro _ ⟨⟩; refine Ac (G7 rfl) (hd 50 rfl) <| Ab <| Aw rfl <| Ai <| zsr <| Ac (A8 B3 rfl rfl rfl rfl) (hd 52 rfl) <| zmv rfl (hd 53 rfl) ?_
    refine P1 Tryd.f11 (hSh) hL hTb (fun o G ⟨_, h⟩ => h ▸ Ax B2 A1) rfl Tryd.func11 rfl rfl (Aa rfl (Aa rfl Ad)) (.cons (.a1 .b (.a1 .n .a0)) (.cons .i .nil)) (hd 54 rfl) ?_ (fun ch G hp => by simp at hp)
    rintro y G ⟨hy, rfl⟩; injection hy with hy; subst hy
    show JO _ _ _ _ ((54, .t [.a [.b ss, .o 6 0 0 rs.length], .i .i64 es]) :: _) _ _
    refine zmv rfl (hd 51 rfl) <| Ac (Ap rfl rfl) (hd 55 rfl) <| Ac (Ap rfl rfl) (hd 56 rfl) <| Bl (Ao (id := 7) By (by decide) rfl (by decide) rfl) (hd 13 rfl) <| A6 (Ah rfl rfl rfl Cc rfl rfl (zlb rfl)) <| zas rfl (hd 14 rfl) <| Ab <| Ae ?_
    refine Ij (G := Unit) (fun _ => True) (fun _ => [(64, .b bb), (57, .u), (58, .u), (59, .u), (60, .u), (61, .u), (62, .u), (63, .u)]) (fun _ => [⟨24, 2, 0, true, [.b sa, .n false .u64 a]⟩, ⟨27, 2, 0, true, [.b sa, .n true .u64 a]⟩, ⟨32, 2, 0, true, [.b (decide ((sv sa a) < 0)), .n false .u64 (dg (sv sa a))]⟩, ⟨58, 1, 0, true, ints .u64 rp⟩, ⟨27, 2, 0, true, [.b sp, .o 3 0 0 rp.length]⟩, ⟨32, 2, 0, true, [.b (decide (zp < 0)), .n false .u64 (dg zp)]⟩, ⟨58, 1, 0, true, ints .u64 rs⟩, ⟨27, 2, 0, true, [.b ss, .o 6 0 0 rs.length]⟩]) ?_ ?_
    · refine Hr (H' := [⟨24, 2, 0, true, [.b sa, .n false .u64 a]⟩, ⟨27, 2, 0, true, [.b sa, .n true .u64 a]⟩, ⟨32, 2, 0, true, [.b (decide ((sv sa a) < 0)), .n false .u64 (dg (sv sa a))]⟩, ⟨58, 1, 0, true, ints .u64 rp⟩, ⟨27, 2, 0, true, [.b sp, .o 3 0 0 rp.length]⟩, ⟨32, 2, 0, true, [.b (decide (zp < 0)), .n false .u64 (dg zp)]⟩, ⟨58, 1, 0, true, ints .u64 rs⟩, ⟨27, 2, 0, true, [.b ss, .o 6 0 0 rs.length]⟩]) rfl <| Af <| zmv rfl (hd 57 rfl) <| Ac (B6 rfl rfl) (hd 58 rfl) <| zmv rfl (hd 59 rfl) ?_
      refine Ea 59 rfl (fun h3 => ?_) (fun h3 => ?_)
      · refine Ay 59 rfl rfl (Ba Cr rfl rfl rfl) (hd 60 rfl) <| Ay 59 rfl rfl (A9 D6 rfl rfl rfl) (hd 61 rfl) ?_
        refine Ds Tryd.f12 59 rfl rfl (Nb (dg (sv sa a))) rfl Tryd.func12 rfl rfl (Aa rfl Ad) (.cons .n .nil) (hd 62 rfl) ?_ (fun ch hp => by simp at hp)
        rintro _ ⟨⟩; refine Ay 59 rfl rfl (G7 rfl) (hd 63 rfl) <| Ac (Bi rfl rfl) (hd 64 rfl) <| Ab ?_
        refine ⟨(), ?_, rfl, Bb 9 rfl rfl ?_⟩
        · trivial
        · exact (.cons (by show some (V.b _) = some (V.b _); rw [hbb]; by_cases hq : 67108864 < n <;> simp_all <;> omega) (.v5 (.u (.u .nil))))
      · refine Bh 59 rfl rfl rfl (hd 60 rfl) <| Bh 59 rfl rfl rfl (hd 61 rfl) <| Bh 59 rfl rfl rfl (hd 62 rfl) <| Bh 59 rfl rfl rfl (hd 63 rfl) <| Ac (Bn rfl rfl) (hd 64 rfl) <| Ab ?_
        refine ⟨(), ?_, rfl, Bb 9 rfl rfl ?_⟩
        · trivial
        · exact (.cons (by show some (V.b _) = some (V.b _); rw [hbb]; by_cases hq : 67108864 < n <;> simp_all <;> omega) (.v5 (.u (.u .nil))))
    · rintro _ _
      refine G0 rfl (fun h4 => ?_) (fun h4 => ?_)
      · have hAl := hAl2 h4
        refine zsr <| Ac (A8 B3 rfl rfl rfl rfl) (hd 65 rfl) <| zmv rfl (hd 66 rfl) <| Ac (A8 A7 rfl rfl rfl rfl) (hd 67 rfl) ?_
        refine My Tryd.f10 (hAl) rfl Tryd.func10 rfl rfl (Aa rfl (Aa rfl (Aa rfl (Aa rfl Ad)))) (.a1 (.a1 .b (.a1 (.o rfl (by simp) (by rw [List.drop_zero, List.take_length])) .a0)) (.a1 .i (.a1 (.a1 .b (.a1 .n .a0)) (.a1 .i .a0)))) (.cons (.a1 .b (.a1 .n .a0)) (.cons .i (.cons (.a1 .b (.a1 .n .a0)) (.cons .i .nil)))) hL (fun y hy => by injection hy with hy; subst hy; rfl) (hd 68 rfl) ?_ (fun ch hp => by simp at hp)
        rintro _ ⟨⟩; refine zmv rfl (hd 69 rfl) ?_
        refine Ds Tryd.f13 69 rfl rfl (Q2) rfl Tryd.func13 rfl rfl Ad .nil (hd 70 rfl) ?_ (fun ch hp => by simp at hp)
        rintro _ ⟨⟩; refine Ac (Bi rfl rfl) (hd 71 rfl) <| zas rfl (hd 4 rfl) <| Ab <| Ak ?_
        refine ⟨_, _, (.cons rfl .nil), .b, ?_⟩
        exact rfl
      · obtain ⟨zs9, hSr, hAl⟩ := hAl3 h4
        refine Ai ?_
        refine Ij (G := Unit) (fun _ => True) (fun _ => [(1, .i .i64 n9), (72, .u), (73, .u), (74, .u)]) (fun _ => [⟨24, 2, 0, true, [.b sa, .n false .u64 a]⟩, ⟨27, 2, 0, true, [.b sa, .n true .u64 a]⟩, ⟨32, 2, 0, true, [.b (decide ((sv sa a) < 0)), .n false .u64 (dg (sv sa a))]⟩, ⟨58, 1, 0, true, ints .u64 rp⟩, ⟨27, 2, 0, true, [.b sp, .o 3 0 0 rp.length]⟩, ⟨32, 2, 0, true, [.b (decide (zp < 0)), .n false .u64 (dg zp)]⟩, ⟨58, 1, 0, true, ints .u64 rs⟩, ⟨27, 2, 0, true, [.b ss, .o 6 0 0 rs.length]⟩]) ?_ ?_
        · refine zsr <| Ac (Ba Cr rfl rfl rfl) (hd 72 rfl) <| Ac (A9 D6 rfl rfl rfl) (hd 73 rfl) ?_
          refine Aj Tryd.f12 (Nb (dg (sv sa a))) rfl Tryd.func12 rfl rfl (Aa rfl Ad) (.cons .n .nil) (hd 74 rfl) ?_ (fun ch hp => by simp at hp)
          rintro _ ⟨⟩; refine Ab ?_
          refine Bc rfl (fun h5 => ?_) (fun h5 => ?_)
          · have hn9e := hn9.1 (J1.1 h5)
            refine Af <| zas rfl (hd 1 rfl) <| Ab ?_
            refine ⟨(), ?_, rfl, Bb 4 rfl rfl ?_⟩
            · trivial
            · exact (.cons (by show some (V.i _ _) = some (V.i _ _); rw [hn9e]) (.u (.u (.u .nil))))
          · have hn9e := hn9.2 (fun h => h5 (J1.2 h))
            refine Ai ?_
            refine ⟨(), ?_, rfl, Bb 3 rfl rfl ?_⟩
            · trivial
            · exact (.cons (by show some (V.i _ _) = some (V.i _ _); rw [hn9e]) (.u (.u (.u .nil))))
        · rintro _ _; refine Ae <| Hr (H' := [⟨24, 2, 0, true, [.b sa, .n false .u64 a]⟩, ⟨27, 2, 0, true, [.b sa, .n true .u64 a]⟩, ⟨32, 2, 0, true, [.b (decide ((sv sa a) < 0)), .n false .u64 (dg (sv sa a))]⟩, ⟨58, 1, 0, true, ints .u64 rp⟩, ⟨27, 2, 0, true, [.b sp, .o 3 0 0 rp.length]⟩, ⟨32, 2, 0, true, [.b (decide (zp < 0)), .n false .u64 (dg zp)]⟩, ⟨58, 1, 0, true, ints .u64 rs⟩, ⟨27, 2, 0, true, [.b ss, .o 6 0 0 rs.length]⟩]) rfl <| Cf (n := 24) _ rfl Dk <| A4 0 [5, 6, 7, 8, 9, 10, 11, 12, 13, 14, 15, 16, 17, 18, 19, 20, 21, 22, 23] (Am (A8 B3 rfl rfl rfl rfl) (hd 75 rfl)) rfl <| A4 1 [5, 6, 7, 8, 9, 10, 11, 12, 13, 14, 15, 16, 17, 18, 19, 20, 21, 22, 23] (Am (At rfl) (hd 76 rfl)) rfl <| A4 2 [4, 5, 6, 7, 8, 9, 10, 11, 12, 13, 14, 15, 16, 17, 18, 19, 20, 21, 22, 23] (Am (A8 A7 rfl rfl rfl rfl) (hd 77 rfl)) rfl <| A4 3 [4, 5, 6, 7, 8, 9, 10, 11, 12, 13, 14, 15, 16, 17, 18, 19, 20, 21, 22, 23] (Am (At rfl) (hd 78 rfl)) rfl ?_
          refine A0 4 ?_ rfl (by kernel_rfl)
          refine As Tryd.f14 (hSr) rfl Tryd.func14 rfl rfl (Aa rfl (Aa rfl Ad)) (.cons (.a1 .b (.a1 .n .a0)) (.cons .i .nil)) (hd 79 rfl) ?_ (fun ch hp => by simp at hp)
          rintro y hy; injection hy with hy; subst hy
          refine A0 5 ?_ rfl (by kernel_rfl)
          refine So Tryd.f10 (hAl) rfl Tryd.func10 rfl rfl (Aa rfl (Aa rfl (Aa rfl (Aa rfl Ad)))) (.a1 (.a1 .b (.a1 (.o rfl (by simp) (by rw [List.drop_zero, List.take_length])) .a0)) (.a1 .i (.a1 (.a1 .b (.a1 .n .a0)) (.a1 .i .a0)))) (.cons (.a1 .b (.a1 .n .a0)) (.cons .i (.cons (.a1 .b (.a1 .n .a0)) (.cons .i .nil)))) hL (fun y hy => by injection hy with hy; subst hy; rfl) (hd 80 rfl) ?_ (fun ch hp => by simp at hp)
          rintro _ ⟨⟩; refine A4 6 [7, 8, 9, 10, 11, 12, 13, 14, 15, 16, 17, 18, 19, 20, 21, 22, 23] (Am (At rfl) (hd 81 rfl)) rfl <| A4 7 [8, 11, 12, 13, 14, 15, 16, 17, 18, 19, 20, 21, 22, 23] (G8 81 rfl rfl (Ba Cn rfl rfl rfl) (hd 82 rfl)) rfl <| A4 8 [11, 12, 13, 14, 15, 16, 17, 18, 19, 20, 21, 22, 23] (G8 81 rfl rfl (A9 D2 rfl rfl rfl) (hd 83 rfl)) rfl <| A4 9 [10, 11, 12, 13, 14, 15, 16, 17, 18, 19, 20, 21, 22, 23] (G8 81 rfl rfl (Ba Cn rfl rfl rfl) (hd 84 rfl)) rfl <| A4 10 [11, 12, 13, 14, 15, 16, 17, 18, 19, 20, 21, 22, 23] (G8 81 rfl rfl (A9 D2 rfl rfl rfl) (hd 85 rfl)) rfl ?_
          refine A0 11 ?_ rfl (by kernel_rfl)
          refine Abr 81 rfl rfl (Gl (id := 8) (xs := [.tmp 83, .tmp 85]) Adq rfl (Aa rfl (Aa rfl Ad)) rfl (Ey rfl) (by decide) rfl) (hd 86 rfl) ?_
          as_aux_lemma =>
            refine A0 12 ?_ rfl (by kernel_rfl)
            refine Py Tryd.f15 81 rfl rfl (sel := [8, 3, 6]) (Ab5 2 (by decide) (Abf [rp, rs]) (fun j _ => R3 (by simp <;> omega) (by decide) j)) rfl Tryd.func15 rfl rfl (Aa rfl Ad) rfl rfl (.cons rfl rfl (.cons rfl (H6 _ _ _) (.cons rfl (H6 _ _ _) .nil))) (by decide) Za Se (fun y G h => by cases h; rfl) (hd 87 rfl) ?_ (fun ch G hp => by cases hp) rfl
            rintro y G hy; injection hy with hy; subst hy; refine A4 13 [14, 15, 16, 17, 18, 19, 20, 21, 22, 23] (Am (Bi rfl rfl) (hd 88 rfl)) rfl <| A4 14 [15, 16, 17, 18, 19, 20, 21, 22, 23] (Am (At rfl) (hd 89 rfl)) rfl <| A4 15 [18, 19, 20, 21, 22, 23] (G8 89 rfl rfl (At rfl) (hd 90 rfl)) rfl <| A4 16 [17, 18, 19, 20, 21, 22, 23] (G8 89 rfl rfl (Ba Ly rfl rfl rfl) (hd 91 rfl)) rfl <| A4 17 [18, 19, 20, 21, 22, 23] (G8 89 rfl rfl (A9 Nm rfl rfl rfl) (hd 92 rfl)) rfl ?_
            refine A0 18 ?_ rfl (by kernel_rfl)
            refine Ei Tryd.f16 89 rfl rfl (Aas a (by omega)) rfl Tryd.func16 rfl rfl (Aa rfl (Aa rfl Ad)) (.cons .n (.cons .n .nil)) (hd 93 rfl) ?_ (fun ch hp => by simp at hp)
            rintro _ ⟨⟩; refine A4 19 [20, 21, 22, 23] (Am (Bi rfl rfl) (hd 94 rfl)) rfl <| zal 20 (Am (At rfl) (hd 95 rfl)) rfl ?_
            refine A0 21 ?_ rfl (by kernel_rfl)
            refine Ei Tryd.f13 95 rfl rfl (Q2) rfl Tryd.func13 rfl rfl Ad .nil (hd 96 rfl) ?_ (fun ch hp => by simp at hp)
            rintro _ ⟨⟩; refine zal 22 (Am (Bi rfl rfl) (hd 97 rfl)) rfl <| zal 23 (Am (Fo rfl) (hd 4 rfl)) rfl ?_
            as_aux_lemma =>
              refine Bg (by kernel_rfl) <| Ak ?_
              refine ⟨_, _, (.cons rfl .nil), .b, ?_⟩
              exact rfl

theorem Mp {x m : Nat} (hx : x < 2) (hm : m ≠ 0) : x ^ m = x := by
  rcases (show x = 0 ∨ x = 1 by omega) with rfl | rfl
  · exact Nat.zero_pow (by omega)
  · exact Nat.one_pow m
theorem Id {x : Nat} (hx : x < 2) : Aq (x : Int) ≤ 1 := B4.2 (by rw [Int.natAbs_natCast]; omega)
theorem Xm {x m : Nat} (hx : x < 2) (hm : m ≠ 0) : PW x m = (x : Int) := by unfold PW; rw [Mp hx hm]
theorem Xl (x m : Nat) (a : List Int) (la : a.length ≤ 1048576) (ua : Az a) (hva : vl a = (x : Int)) (hm : m < 9223372036854775808) (hf : Aq (PW x m) ≤ 67108864) : Spec Tryd.prog 18 [.n false .u64 a, .i .i64 (m : Int)] (fun o => o = .ret (.t [.n false .u64 (lm (PW x m)), .i .i64 0])) := by
  by_cases h0 : m = 0
  · subst h0; exact Tc x a la ua hva
  rcases Nat.lt_or_ge x 2 with h2 | h2
  · rw [Xm h2 h0]; exact Rb x m a la ua hva hm h2 h0
  · refine Ab3 x m a la ua hva h2 h0 ?_ hf
    rcases Nat.lt_or_ge 67108864 ((Aq (x : Int) - 1) * m + 1) with h3 | h3
    · have := Aam h2 h3; omega
    · exact h3
theorem Tb (x m : Nat) (a : List Int) (la : a.length ≤ 1048576) (ua : Az a) (hva : vl a = (x : Int)) (hm : m < 9223372036854775808) (hf : 67108864 < Aq (PW x m)) : Spec Tryd.prog 18 [.n false .u64 a, .i .i64 (m : Int)] (fun o => o = .ret (.t [.n false .u64 [], .i .i64 3])) := by
  have h0 : m ≠ 0 := fun h => by subst h; rw [Un] at hf; exact absurd hf (by decide +kernel)
  have h2 : 2 ≤ x := by
    rcases Nat.lt_or_ge x 2 with h2 | h2
    · rw [Xm h2 h0] at hf; have := Id h2; omega
    · exact h2
  by_cases h3 : (Aq (x : Int) - 1) * m + 1 ≤ 67108864
  · exact Ab2 x m a la ua hva h2 h0 h3 hf
  · exact Rc x m a la ua hva hm h2 h0 h3
theorem Lr {x m : Nat} (h : Aq (PW x m) ≤ 134217729) : (Ar B32 (x ^ m)).length ≤ 4194306 := by
  have h1 := J2 h
  rw [show dg (PW x m) = Ar B32 (x ^ m) from dgN] at h1
  omega
theorem O6 (x m : Nat) (hx : Aq (x : Int) ≤ 67108864) (hm : m < 9223372036854775808) (hf : Aq (PW x m) ≤ 67108864) : Spec Tryd.prog 7 [.n false .u64 (Ar B32 x), .i .i64 (m : Int)] (fun o => o = .ret (.t [.n false .u64 (Ar B32 (x ^ m)), .i .i64 0])) := by
  have hd : (Ar B32 x).length ≤ 2097152 := by have h := Ie hx; rwa [dgN] at h
  by_cases h0 : m = 0
  · subst h0; exact V6 x
  rcases Nat.lt_or_ge x 2 with h2 | h2
  · rw [Mp h2 h0]; exact Lp x m hd hm h0 (by have := Id h2; omega)
  · have h4 := If h2
    have h3 : (Aq (x : Int) - 1) * m ≤ 67108864 := by have := La (n := m) h2; omega
    exact I6 x m hd hm h0 h4 hx h3 _ _ (V5 (x ^ m) (by have := Lr (Nat.le_trans hf (by decide)); omega) hf)
theorem Nj (x m : Nat) (hx : Aq (x : Int) ≤ 67108864) (hm : m < 9223372036854775808) (hf : 67108864 < Aq (PW x m)) : Spec Tryd.prog 7 [.n false .u64 (Ar B32 x), .i .i64 (m : Int)] (fun o => o = .ret (.t [.n false .u64 [], .i .i64 3])) := by
  have hd : (Ar B32 x).length ≤ 2097152 := by have h := Ie hx; rwa [dgN] at h
  have h0 : m ≠ 0 := fun h => by subst h; rw [Un] at hf; exact absurd hf (by decide +kernel)
  have h2 : 2 ≤ x := by
    rcases Nat.lt_or_ge x 2 with h2 | h2
    · rw [Xm h2 h0] at hf; have := Id h2; omega
    · exact h2
  have h4 := If h2
  by_cases h3 : (Aq (x : Int) - 1) * m ≤ 67108864
  · exact I6 x m hd hm h0 h4 hx h3 _ _ (V4 (x ^ m) (by have := Lr (Ng h2 h3); omega) hf)
  · exact Lq x m hd hm h0 h4 hx h3
theorem Yp {sa : Bool} {v : Int} {x : Nat} {m : Nat} (hv : v.natAbs = x) (hs : x ≠ 0 → sa = decide (v < 0)) : zs (sa && decide ((m : Int).tmod 2 = 1)) (x ^ m) = zs (decide (v < 0) && decide ((m : Int).tmod 2 = 1)) (x ^ m) := by
  by_cases h0 : x = 0
  · subst h0
    by_cases hm : m = 0
    · subst hm; rw [show decide (((0 : Nat) : Int).tmod 2 = 1) = false from rfl, Bool.and_false, Bool.and_false]
    · rw [Nat.zero_pow (by omega), Ab7, Ab7]
  · rw [hs h0]
theorem M3 (f : Int) (hf : f ≠ 0) : Spec Tryd.prog 10 [.a [.b false, .n false .u64 []], .i .i64 f, .a [.b (decide (0 < 0)), .n false .u64 (dg 0)], .i .i64 f] (fun o => o = .ret (.b true)) := K7 0 f hf
theorem T3 (s : Bool) : Spec Tryd.prog 8 [.b s, .n false .u64 (G9 [])] (fun o => o = .ret (.a [.b (decide (0 < 0)), .n false .u64 (dg 0)])) := by
  have h := Xh s [] (by decide) (fun y hy => by cases hy)
  rwa [show sv s [] = 0 from by cases s <;> rfl] at h
theorem R8 (sa : Bool) (a : List Int) (n : Int) (la : a.length ≤ 1048574) (ua : Az a) (hn9 : n < 9223372036854775808) : ∃ (rp qd : List Int) (sp : Bool) (ep cp zp : Int), rp.length ≤ 1048577 ∧ qd.length < 4294967296 ∧ SpecM Tryd.prog 6 [.a [.b sa, .n false .u64 a], .i .i64 n] [] (fun o G => o = .ret (.t [.a [.b sp, .o 0 0 0 rp.length], .i .i64 ep]) ∧ G = [⟨58, 1, 0, true, ints .u64 rp⟩]) ∧ Spec Tryd.prog 7 [.n false .u64 (dg (sv sa a)), .i .i64 n] (fun o => o = .ret (.t [.n false .u64 qd, .i .i64 cp])) ∧
    Spec Tryd.prog 8 [.b (decide ((sv sa a) < 0) && decide (n.tmod 2 = 1)), .n false .u64 (G9 qd)] (fun o => o = .ret (.a [.b (decide (zp < 0)), .n false .u64 (dg zp)])) ∧ Spec Tryd.prog 10 [.a [.b sp, .n false .u64 rp], .i .i64 ep, .a [.b (decide (zp < 0)), .n false .u64 (dg zp)], .i .i64 cp] (fun o => o = .ret (.b true)) := by
  have hva := (Oi (s := sa) ua).symm
  have hl := F2 (s := sa) ua
  by_cases hn : n < 0
  · exact ⟨[], [], false, 1, 1, 0, by decide, by decide, Q9 sa a n [] 1 false [] 1 (Xk a n hn) (H5 _ [] 1 (by decide)), O5 ((sv sa a)).natAbs n hn, T3 _, M3 1 (by decide)⟩
  · obtain ⟨m, rfl⟩ := Int.eq_ofNat_of_zero_le (show 0 ≤ n by omega)
    have hlx : Aq ((((sv sa a)).natAbs : Nat) : Int) ≤ 67108864 := by rw [Jt]; omega
    rcases Nat.lt_or_ge 67108864 (Aq (PW ((sv sa a)).natAbs m)) with hf | hf
    · exact ⟨[], [], false, 3, 3, 0, by decide, by decide, Q9 sa a (m : Int) [] 3 false [] 3 (Tb ((sv sa a)).natAbs m a (by omega) ua hva (by omega) hf) (H5 _ [] 3 (by decide)), Nj ((sv sa a)).natAbs m hlx (by omega) hf, T3 _, M3 3 (by decide)⟩
    · have hs : ((sv sa a)).natAbs ≠ 0 → sa = decide ((sv sa a) < 0) := fun h => by
        have h1 := Bk ua
        unfold sv at h ⊢
        cases sa <;> simp at h ⊢ <;> omega
      have hz := Yp (m := m) rfl hs
      have hzl : Aq (zs (decide ((sv sa a) < 0) && decide ((m : Int).tmod 2 = 1)) (((sv sa a)).natAbs ^ m)) ≤ 67108864 := by rw [Pt]; exact hf
      have hqd : (Ar B32 (((sv sa a)).natAbs ^ m)).length < 4294967296 := by have := Lr (Nat.le_trans hf (by decide)); omega
      refine ⟨_, Ar B32 (((sv sa a)).natAbs ^ m), _, 0, 0, zs (decide ((sv sa a) < 0) && decide ((m : Int).tmod 2 = 1)) (((sv sa a)).natAbs ^ m), ?_, hqd, Q9 sa a (m : Int) _ 0 _ _ 0 (Xl ((sv sa a)).natAbs m a (by omega) ua hva (by omega) hf) (E7 _ _ _ (by have := Cd hf; omega) (Gz _) (sv_zs.trans hz) hzl), O6 ((sv sa a)).natAbs m hlx (by omega) hf, ?_, Hu _ hzl⟩
      · have := Cd hzl; omega
      · rw [Wp]
        have h := Xh (decide ((sv sa a) < 0) && decide ((m : Int).tmod 2 = 1)) (lm ((((sv sa a)).natAbs ^ m : Nat) : Int)) (by have h9 := Cd hf; have e9 : lm ((((sv sa a)).natAbs ^ m : Nat) : Int) = lm (PW ((sv sa a)).natAbs m) := rfl; rw [e9]; omega) (Gz _)
        rwa [sv_zs] at h
theorem Pu {x n : Nat} (h : x ≠ 0) : Aq ((x * 2 ^ n : Nat) : Int) = n + Aq (x : Int) := by
  unfold Aq
  rw [Int.natAbs_natCast, Int.natAbs_natCast, Nat.mul_comm, ← Nat.zero_add (2 ^ n * x)]
  exact Gf (Nat.pow_pos (by decide)) h
theorem Yn {v : Int} {m : Nat} (h : Aq v ≤ m) : v / ((2 ^ m : Nat) : Int) = if v < 0 then -1 else 0 := by
  have h1 : v.natAbs < 2 ^ m := Nat.lt_of_lt_of_le (B4.1 (Nat.le_refl (Aq v))) (Nat.pow_le_pow_right (by decide) h)
  split
  · rename_i hv
    have h2 : (0 : Int) < ((2 ^ m : Nat) : Int) := by omega
    exact Int.le_antisymm (Int.le_of_lt_add_one (by have := Int.ediv_lt_of_lt_mul (a := v) (b := 0) h2 (by omega); omega)) ((Int.le_ediv_iff_mul_le h2).2 (by omega))
  · exact Int.ediv_eq_zero_of_lt (by omega) (by omega)
theorem Vo (v n : Int) (hl : Aq v ≤ 67108860) (hn0 : n < 0) (hn8 : -9223372036854775808 ≤ n) (m : Nat) (hm : (m : Int) = min (-n) 1099511627776) : Spec Tryd.prog 14 [.a [.b (decide (v < 0)), .n false .u64 (dg v)], .i .i64 n] (fun o => o = .ret (.a [.b (decide ((v / ((2 ^ m : Nat) : Int)) < 0)), .n false .u64 (dg (v / ((2 ^ m : Nat) : Int)))])) := by
  have hd := Ie (v := v) (by omega)
  by_cases hf : n < -((Aq v : Nat) : Int)
  · rw [Yn (v := v) (m := m) (by omega)]
    by_cases hv : v < 0
    · rw [if_pos hv]; exact Lo v n hd (by omega) hn0 hn8 hf hv
    · rw [if_neg hv, Ads]; exact Ln v n hd (by omega) hn0 hn8 hf (by omega)
  · have h := Lm v n hd (by omega) hn0 hf
    have e1 : (-n).toNat = m := by omega
    have e2 : flo v (zs false (2 ^ (-n).toNat)) = v / ((2 ^ m : Nat) : Int) := by
      rw [e1]; exact (Uv (Nat.ne_of_gt (Nat.pow_pos (by decide)))).1
    rwa [e2] at h
theorem Vp (sa : Bool) (a : List Int) (n : Int) (la : a.length ≤ 1048574) (ua : Az a) (hn8 : -9223372036854775808 ≤ n) (hn9 : n < 9223372036854775808) : ∃ (rs : List Int) (ss : Bool) (es n9 : Int), rs.length ≤ 1048577 ∧ Ir Tryd.prog 11 0 tzCells [.a [.b sa, .n false .u64 a], .i .i64 n] (fun o G => o = .ret (.t [.a [.b ss, .o 0 0 0 rs.length], .i .i64 es]) ∧ G = [⟨58, 1, 0, true, ints .u64 rs⟩]) ∧
    ((decide (67108864 < n) && !decide (((dg (sv sa a)).length : Int) = 0)) = true → Spec Tryd.prog 10 [.a [.b ss, .n false .u64 rs], .i .i64 es, .a [.b (decide ((sv sa a) < 0)), .n false .u64 (dg (sv sa a))], .i .i64 3] (fun o => o = .ret (.b true))) ∧ (((sv sa a) = 0 → n9 = 0) ∧ ((sv sa a) ≠ 0 → n9 = n)) ∧
    ((decide (67108864 < n) && !decide (((dg (sv sa a)).length : Int) = 0)) = false → ∃ zs9 : Int, Spec Tryd.prog 14 [.a [.b (decide ((sv sa a) < 0)), .n false .u64 (dg (sv sa a))], .i .i64 n9] (fun o => o = .ret (.a [.b (decide (zs9 < 0)), .n false .u64 (dg zs9)])) ∧ Spec Tryd.prog 10 [.a [.b ss, .n false .u64 rs], .i .i64 es, .a [.b (decide (zs9 < 0)), .n false .u64 (dg zs9)], .i .i64 0] (fun o => o = .ret (.b true))) := by
  have hl := F2 (s := sa) ua
  by_cases h0 : (sv sa a) = 0
  · refine ⟨[], false, 0, 0, by decide, C9 (S7 sa a (sv sa a) n (by omega) ua rfl (by omega) h0), fun h => ?_, ⟨fun _ => rfl, fun h => absurd h0 h⟩, fun _ => ⟨0, ?_, ?_⟩⟩
    · rw [decide_eq_true (J1.2 h0)] at h; simp at h
    · rw [h0]; exact Ki 0 0 (by decide +kernel) (by decide) (by decide)
    · have h := Hu 0 (by decide +kernel)
      rwa [Abo] at h
  have hlz : ((dg (sv sa a)).length : Int) ≠ 0 := fun h => h0 (J1.1 h)
  have hd := Ie (v := (sv sa a)) (by omega)
  have hx0 : ((sv sa a)).natAbs ≠ 0 := by omega
  by_cases hb : 67108864 < n
  · refine ⟨[], false, 3, n, by decide, C9 (Ta sa a (sv sa a) n (by omega) ua rfl (by omega) h0 hb), fun _ => K7 _ 3 (by decide), ⟨fun h => absurd h h0, fun _ => rfl⟩, fun h => ?_⟩
    rw [decide_eq_true hb, decide_eq_false hlz] at h; simp at h
  have hbf : ∀ {p : Prop}, (decide (67108864 < n) && !decide (((dg (sv sa a)).length : Int) = 0)) = true → p := fun h => by rw [decide_eq_false hb] at h; simp at h
  by_cases hn : n < 0
  · obtain ⟨m, hm⟩ := Int.eq_ofNat_of_zero_le (show 0 ≤ min (-n) 1099511627776 by omega)
    have hq : Aq ((sv sa a) / ((2 ^ m : Nat) : Int)) ≤ 67108864 := Nat.le_trans (D9 Vm) (by omega)
    refine ⟨lm ((sv sa a) / ((2 ^ m : Nat) : Int)), decide ((sv sa a) / ((2 ^ m : Nat) : Int) < 0), 0, n, by have := Cd hq; omega, ?_, hbf, ⟨fun h => absurd h h0, fun _ => rfl⟩, fun _ => ⟨_, Vo (sv sa a) n (by omega) hn hn8 m hm.symm, Hu _ hq⟩⟩
    by_cases hs : (sv sa a) < 0
    · exact S9 sa a (sv sa a) n (by omega) ua rfl (by omega) m hn hm.symm h0 hs
    · exact C9 (S8 sa a (sv sa a) n (by omega) ua rfl (by omega) m hn hm.symm h0 (by omega))
  · have hnn : ((n.toNat : Nat) : Int) = n := Int.toNat_of_nonneg (by omega)
    have hlx : Aq ((((sv sa a)).natAbs : Nat) : Int) ≤ 67108864 := by rw [Jt]; omega
    have hz : Aq (zs (decide ((sv sa a) < 0)) (((sv sa a)).natAbs * 2 ^ n.toNat)) = n.toNat + Aq ((((sv sa a)).natAbs : Nat) : Int) := by rw [Pt]; exact Pu hx0
    have hup := Ki (sv sa a) n hd (by omega) (by omega)
    by_cases hf : Aq ((((sv sa a)).natAbs : Nat) : Int) + n.toNat ≤ 67108864
    · have hLe := Aar ((sv sa a)).natAbs n.toNat hlx hx0 hf
      rw [T9, hnn] at hLe
      refine ⟨_, _, 0, n, ?_, C9 (Nf sa a (sv sa a) n (by omega) ua rfl (by omega) _ 0 _ _ 0 h0 (by omega) (by omega) hLe (E7 _ _ (zs (decide ((sv sa a) < 0)) (((sv sa a)).natAbs * 2 ^ n.toNat)) (by have h9 := Cd (v := ((((sv sa a)).natAbs * 2 ^ n.toNat : Nat) : Int)) (by rw [Pu hx0]; omega); omega) (Gz _) sv_zs (by omega))), hbf, ⟨fun h => absurd h h0, fun _ => rfl⟩, fun _ => ⟨_, hup, Hu _ (by omega)⟩⟩
      have := Cd (v := zs (decide ((sv sa a) < 0)) (((sv sa a)).natAbs * 2 ^ n.toNat)) (by omega)
      omega
    · have hLe := Td ((sv sa a)).natAbs n.toNat hlx hx0 (by omega) (by omega)
      rw [T9, hnn] at hLe
      exact ⟨[], false, 3, n, by decide, C9 (Nf sa a (sv sa a) n (by omega) ua rfl (by omega) _ 3 _ _ 3 h0 (by omega) (by omega) hLe (H5 _ _ 3 (by decide))), hbf, ⟨fun h => absurd h h0, fun _ => rfl⟩, fun _ => ⟨_, hup, Q4 _ (by omega) (by have := J2 (v := zs (decide ((sv sa a) < 0)) (((sv sa a)).natAbs * 2 ^ n.toNat)) (L := 134217729) (by omega); omega)⟩⟩
theorem WholePowers_s (sa : Bool) (a : List Int) (n : Int) (la : a.length ≤ 1048574) (ua : Az a) (hn8 : -9223372036854775808 ≤ n) (hn9 : n < 9223372036854775808) : Is Tryd.prog 3 0 tzCells [.a [.b sa, .n false .u64 a], .i .i64 n] (fun o => o = .ret (.b true)) := by
  obtain ⟨rp, qd, sp, ep, cp, zp, l1, l2, p1, p2, p3, p4⟩ := R8 sa a n la ua hn9
  obtain ⟨rs, ss, es, n9, l3, q1, q2, q3, q4⟩ := Vp sa a n la ua hn8 hn9
  exact J4 sa a n la ua rp qd rs sp ss _ ep cp zp es n9 l1 l3 l2 p1 p2 p3 p4 q1 rfl q2 q3 q4
end Go.Proofs.YteopohdkceelkaaDoor.Vc

namespace Go.Proofs.YteopohdkceelkaaDoor.wholePowers
open Go Go.ChangeShapes Go.WideShapes Go.ChangeAt Go.RowKit
open Go.ChangeMaps (open_string shut_string)

theorem own : ownKnob Tryd.prog.godebug = none := by kernel_rfl
theorem laidOut : laidOutB Tryd.prog = true := by kernel_rfl
theorem gTab : Tryd.prog.globalNamed "math/bits.deBruijn64tab" = some 0 := by kernel_rfl
theorem gTabType : (Tryd.prog.globals[0]?).map (·.type) = some 89 := by kernel_rfl
theorem cellsT : Tryd.prog.cellsOf 89 = 64 := by kernel_rfl
theorem cellsE : Tryd.prog.cellsOf 5 = 1 := by kernel_rfl
theorem table {W : World} (h : laidMetH Tryd.prog Rows.wholePowersUptoRow.laid W) : Lib.TabIs Tryd.prog W "math/bits.deBruijn64tab" .u8 Vc.tzTab :=
  Lib.tabIs_of_head (rest := []) gTab gTabType Tryd.underlying89 Tryd.underlying5 cellsE cellsT h
theorem tabR {W : World} (h : laidMetH Tryd.prog Rows.wholePowersUptoRow.laid W) : Vc.TabR 0 (Vc.ints .u8 Vc.tzTab) W (fun _ => False) :=
  Vc.tabR_of (by decide) fun i hi => (table h).cell gTab i hi
noncomputable def laidWorld (os : Os) : World :=
  { World.holding Tryd.prog os ⟨#[], #[], []⟩ with heap := (World.holding Tryd.prog os ⟨#[], #[], []⟩).heap.modify 0 fun
      | .cells _ t frozen => .cells #[.int .u8 0, .int .u8 1, .int .u8 56, .int .u8 2, .int .u8 57, .int .u8 49, .int .u8 28, .int .u8 3, .int .u8 61, .int .u8 58, .int .u8 42, .int .u8 50, .int .u8 38, .int .u8 29, .int .u8 17, .int .u8 4, .int .u8 62, .int .u8 47, .int .u8 59, .int .u8 36, .int .u8 45, .int .u8 43, .int .u8 51, .int .u8 22, .int .u8 53, .int .u8 39, .int .u8 33, .int .u8 30, .int .u8 24, .int .u8 18, .int .u8 12, .int .u8 5, .int .u8 63, .int .u8 55, .int .u8 48, .int .u8 27, .int .u8 60, .int .u8 41, .int .u8 37, .int .u8 16, .int .u8 46, .int .u8 35, .int .u8 44, .int .u8 21, .int .u8 52, .int .u8 32, .int .u8 23, .int .u8 11, .int .u8 54, .int .u8 26, .int .u8 40, .int .u8 15, .int .u8 34, .int .u8 20, .int .u8 31, .int .u8 10, .int .u8 25, .int .u8 14, .int .u8 19, .int .u8 9, .int .u8 13, .int .u8 8, .int .u8 7, .int .u8 6] t frozen
      | o => o }
theorem laid_met (os : Os) : laidMet Tryd.prog Rows.wholePowersUptoRow.laid ((laidWorld os).forCall (fun _ _ => 0) ⟨#[], #[.agg #[.bool false, .slice none 0 0], .int .i64 0], []⟩).memory :=
  laidMet_of_run' 8 (by kernel_rfl) (by kernel_rfl)
theorem reads (os : Os) {H : Type} (enc : TypeId × Value → H) : ∃ places, DataW.whole enc Tryd.prog ((laidWorld os).forCall (fun _ _ => 0) ⟨#[], #[.agg #[.bool false, .slice none 0 0], .int .i64 0], []⟩).memory Tryd.f3.params.toList Rows.wholePowersSpec.vars false (#[.agg #[.bool false, .slice none 0 0], .int .i64 0] : Array Value).toList 8 = some ([.agg [.lit (.bool false), .nil], .lit (.int .i64 0)], [], places) :=
  ⟨[], by kernel_rfl⟩
set_option maxRecDepth 100000 in
theorem lifted (os : Os) (started : os.Started) (H : Type) (enc : TypeId × Value → H) (F : Stop.Interp) :
    ReturnsInHanded {} Tryd.checked os 3 .any ((Rows.OpenSpec.upto Rows.wholePowersSpec).preRow enc Tryd.prog Tryd.f3 Rows.wholePowersUptoRow.domain false Rows.wholePowersUptoRow.laid) (((Rows.OpenSpec.upto Rows.wholePowersSpec).at F).post enc Tryd.prog Tryd.f3 false true false false) := by
  obtain ⟨places, hx⟩ := reads os enc
  refine returnsInHanded_of_row (C := Tryd.checked) (s := Rows.OpenSpec.upto Rows.wholePowersSpec) own started (by kernel_rfl) Tryd.func3
    (witness_row_at (enc := enc) (C := Tryd.checked) false (laidWorld os) #[.agg #[.bool false, .slice none 0 0], .int .i64 0] rfl (by kernel_rfl) (by kernel_rfl) (by kernel_rfl)
      (OpenSpec.preRow_of_cond 8 hx (by kernel_rfl) (fun k hk => by cases hk; kernel_rfl) (by kernel_rfl) (laid_met os))) ?_
  intro W base args ds gs before hval0 hW _ hcond _ hL _ _
  have hk := hcond _ rfl
  have hval : ∀ (j : Nat) t v, Tryd.f3.params[j]? = some t → args[j]? = some v → Value.okWide Tryd.prog W .any base t v := hval0
  have hW' := hW
  obtain ⟨p, q, hA0, hV, rfl, hfz, hnd⟩ := hW
  have hA : DataW.TrodAll enc Tryd.prog W 0 (fun _ => true) true Tryd.f3.params.toList args.toList ds p := hA0
  rw [Tryd.params3] at hA hval
  obtain ⟨v0, vs0, d0, ds0, p0, q0, hargs, rfl, rfl, h0, r0⟩ := trodAll_cons hA
  obtain ⟨v1, vs1, d1, ds1, p1, q1, rfl, rfl, rfl, h1, r1⟩ := trodAll_cons r0
  obtain ⟨rfl, rfl, rfl⟩ := trodAll_nil r1
  obtain rfl : args = #[v0, v1] := by cases args; simp_all
  obtain ⟨rfl, rfl⟩ := trodVars_none hV
  have hk0 := h0
  obtain ⟨s0, l0, rel0, hb0, ul0⟩ := Vc.openW (hval 0 24 v0 rfl rfl) h0
  obtain ⟨a1, rfl, rfl, rfl, w1⟩ := open_int Tryd.underlying3 (hval 1 3 v1 rfl rfl) h1
  clear hA0 hval0
  simp only [List.append_nil] at hW' hk
  refine (Vc.specT_calls (tabR hL) (vals := [v0, .int .i64 a1]) (Vc.WholePowers_s s0 l0 a1 (Vc.short1b hk hb0) ul0 (by have := w1; simp [Lit.wf, IntKind.min, IntKind.max, IntKind.signed, IntKind.bits] at this; omega) (by have := w1; simp [Lit.wf, IntKind.min, IntKind.max, IntKind.signed, IntKind.bits] at this; omega)) W (⟨_, _, rfl, rel0, ⟨_, _, rfl, rfl, rfl⟩⟩)).mono fun e W' ⟨he, hb⟩ => ?_; subst he
  have hlt : ∀ x ∈ p0, x.block < W.heap.size := fun x hx => by simpa using hW'.lt x (by simpa using hx)
  exact ⟨_, rfl, Vc.post_of_below (pa := (p0 ++ ([] ++ []))) (pv := []) hW' (fun _ _ _ => (trodAll_cons_mk (shut_bool Tryd.underlying4 _) trodAll_mk0)) (fun sp hsp => (trodAll_cons_mk (Go.WideElems.Trod_stays laidOut (by kernel_rfl) (of_decide_eq_true (by kernel_rfl)) hk0 (fun x hx => hb.same (hlt x (by simp [hx]))) (fun x hx => hsp x (by simp [hx]))) (trodAll_cons_mk (shut_int Tryd.underlying3 w1) trodAll_mk0))) (fun _ _ => rfl) (by simp) hb⟩

theorem said : Rows.wholePowersUptoRow.holds Tryd.pinned (Rows.OpenSpec.upto Rows.wholePowersSpec) :=
  OpenClaim.holds_of_cond 3 Tryd.f3 rfl rfl rfl rfl rfl rfl rfl ⟨rfl, rfl, rfl, rfl, rfl⟩ rfl rfl rfl rfl rfl (by kernel_rfl) Tryd.func3 (by kernel_rfl)
    (of_decide_eq_true (by kernel_rfl)) (by unfold Func.isWrapper; first | (rw [if_pos (by decide +kernel)]; kernel_rfl) | (rw [if_neg (by decide +kernel)]; exact ⟨rfl, rfl⟩))
    (fun os started H enc _ F => by rw [OpenClaim.pre_eq_preRow]; exact lifted os started H enc F)
theorem plain (f : FuncId) (fn : Func) (hf : Tryd.pinned.checked.prog.funcNamed Rows.wholePowersUptoRow.func = some f) (hfn : Tryd.pinned.checked.prog.funcs[f]? = some fn) :
    false = Tryd.pinned.checked.prog.looks [] ∧ ∀ (j : Nat) t, fn.params[j]? = some t → Tryd.pinned.checked.prog.wantsStandIn t = false := by
  obtain rfl : f = 3 := Option.some.inj ((show Tryd.prog.funcNamed Rows.wholePowersUptoRow.func = some 3 by kernel_rfl).symm.trans hf) |>.symm
  obtain rfl : fn = Tryd.f3 := (Option.some.inj (Tryd.func3.symm.trans hfn)).symm
  refine ⟨by kernel_rfl, fun j t ht => ?_⟩
  rw [Tryd.params3] at ht
  have hm := Array.mem_of_getElem? ht
  simp only [List.mem_toArray, List.mem_cons, List.mem_nil_iff, or_false] at hm
  rcases hm with h9 | h9
  · subst h9
    exact (show Tryd.prog.wantsStandIn 24 = false by kernel_rfl)
  · subst h9
    exact (show Tryd.prog.wantsStandIn 3 = false by kernel_rfl)
theorem proved : Rows.WholePowersUptoCardSaid :=
  Claim7.holds_tied_plain_at .later [] _ _ _ _ said (fun _ h => by cases h) (by kernel_rfl) (fun _ h => by cases h) wholePowersUpto_row_tie rfl ⟨rfl, rfl⟩ (by kernel_rfl) rfl plain (by kernel_rfl)
end Go.Proofs.YteopohdkceelkaaDoor.wholePowers
