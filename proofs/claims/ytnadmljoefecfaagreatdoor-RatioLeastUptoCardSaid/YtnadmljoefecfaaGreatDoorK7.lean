/- The law RatioLeast of every input of bulk at most 1048576: it returns true, and the input reads as it did. Texts joined: Xa, Jm, Xz, Za, Qf, Ub, Uc, Zb, Zc, Zd, Zf, Zg, Zh, Zi, Zj, Zo, Qg, Qh, Qi, Qj, Qk, Ql, Qn, Qo, Qp, Qs, Qt, Qu, Qv, Qw, Qx, Sa, Sc, Se, Sf, Sg, Sh, Si, Sk, Sm, Sn, So, Sp, Xb, Xc, Xd, Xe, Xf. -/
import Derived.Test.YtnadmljoefecfaaGreatDoorK6
set_option linter.unusedVariables false
set_option linter.unusedSimpArgs false
set_option maxHeartbeats 4000000
namespace Go.Proofs.YtnadmljoefecfaaGreatDoor.Vc
open Go Go.RowKit
theorem Ex (a b c ue : Value) (ha : a.oneCell' = true) (hb : b.oneCell' = true) (hc : c.oneCell' = true) (hu : ue.oneCell' = true) : Spec Tryz.prog 48 [.c .nilIface, .a [.c a, .c b, .c c], .c ue] (fun o => o = .ret (.t [.a [.c a, .c b, .c c], .c ue])) := by
  refine Aw [(0, .c .nilIface), (1, .a [.c a, .c b, .c c]), (2, .c ue)] rfl Tryz.func48 rfl (Zb rfl) fun Γ hN hds hL hR => ?_
  have hd := B2 26 hN
  refine Zs <| A1 (Bn (id := 0) (n := 3) rfl (U5 ha hb hc) rfl (by decide) rfl) (hd 4 rfl) <| A1 (Aq (id := 1) B4 (by decide) rfl (by decide) rfl) (hd 6 rfl) <| Za rfl (hd 7 rfl) <| Ab <| Ae <| Zs <| Zm rfl (hd 11 rfl) <| Ac (M8 Jg rfl) (hd 12 rfl) <| Ab <| Cw rfl ?_; refine Zs <| Ac (Au Ap rfl rfl rfl rfl) (hd 13 rfl) <| Zm rfl (hd 14 rfl) <| A3 (Ah rfl rfl rfl Bq rfl (Aha ha hb hc) (Zb rfl)) <| Za rfl (hd 7 rfl) <| Ab <| An ?_
  refine ⟨_, _, (.cons (ResV.cell Ap rfl rfl rfl rfl) (.cons rfl .nil)), (.t1 (.a1 .c (.a1 .c (.a1 .c .a0))) (.t1 .c .t0)), ?_⟩
  exact rfl

theorem Ew (a b c ue : Value) (ha : a.oneCell' = true) (hb : b.oneCell' = true) (hc : c.oneCell' = true) (hu : ue.oneCell' = true) (e : Int) : Spec Tryz.prog 48 [.c (.iface 100 (.agg #[.int .i64 e])), .a [.c a, .c b, .c c], .c ue] (fun o => o = .ret (.t [(.a [.b false, .n false .u64 [], .n false .u64 []]), .i .i64 e])) := by
  refine Aw [(0, .c (.iface 100 (.agg #[.int .i64 e]))), (1, .a [.c a, .c b, .c c]), (2, .c ue)] rfl Tryz.func48 rfl (Zb rfl) fun Γ hN hds hL hR => ?_
  have hd := B2 26 hN
  refine Zs <| A1 (Bn (id := 0) (n := 3) rfl (U5 ha hb hc) rfl (by decide) rfl) (hd 4 rfl) <| A1 (Aq (id := 1) B4 (by decide) rfl (by decide) rfl) (hd 6 rfl) <| Za rfl (hd 7 rfl) <| Ab <| Ae <| Zs <| Zm rfl (hd 11 rfl) <| Ac (M7 Jg rfl) (hd 12 rfl) <| Ab <| A6 rfl ?_; refine Aj <| Zs <| Zm rfl (hd 16 rfl) <| Ac (Yr Kz rfl) (hd 17 rfl) <| Zm rfl (hd 15 rfl) <| Ac (Ai rfl rfl) (hd 18 rfl) <| Ac (Ai rfl rfl) (hd 19 rfl) <| A1 (Aq (id := 2) H8 (by decide) rfl (by decide) rfl) (hd 8 rfl) <| A3 (Ah rfl rfl rfl Ms rfl rfl (Zb rfl)) <| Za rfl (hd 9 rfl) <| Ab <| Ae ?_; refine Zs <| Zm rfl (hd 20 rfl) <| Ac (Ha rfl) (hd 21 rfl) <| Ab <| A6 rfl <| Aj <| Zs <| A1 (Aq (id := 3) B4 (by decide) rfl (by decide) rfl) (hd 10 rfl) <| Ab <| Ae <| Bo (n := 5) _ rfl B9 ?_; refine Z1 0 (Am (Au Ap rfl rfl rfl rfl) (hd 23 rfl)) rfl ?_
  refine J8 1 3 ?_ ?_ rfl rfl (by kernel_rfl)
  · refine Ahs (A5 Gh rfl rfl rfl) (hd 24 rfl) ?_
    refine J8 2 3 ?_ ?_ rfl rfl (by kernel_rfl)
    · refine Ahs (A9 Cr rfl rfl rfl) (hd 25 rfl) ?_
      refine Be 3 ?_ rfl (by kernel_rfl)
      refine Cl (Ah rfl rfl rfl Bq rfl rfl (Zb rfl)) rfl <| Z1 4 (Am (Cm rfl) (hd 7 rfl)) rfl <| Bx (by kernel_rfl) <| An ?_
      refine ⟨_, _, (.cons (ResV.cell Ap rfl rfl rfl rfl) (.cons rfl .nil)), (.t1 (.a1 .b (.a1 (.nil (fr := false) (k := .u64)) (.a1 (.nil (fr := false) (k := .u64)) .a0))) (.t1 .i .t0)), ?_⟩
      exact rfl
    · refine Cl (Ah rfl rfl rfl Bq rfl rfl (Zb rfl)) rfl <| Z1 2 (Am (A9 Cr rfl rfl rfl) (hd 25 rfl)) rfl <| Z1 4 (Am (Cm rfl) (hd 7 rfl)) rfl <| Bx (by kernel_rfl) <| An ?_
      refine ⟨_, _, (.cons (ResV.cell Ap rfl rfl rfl rfl) (.cons rfl .nil)), (.t1 (.a1 .b (.a1 (.nil (fr := false) (k := .u64)) (.a1 (.nil (fr := false) (k := .u64)) .a0))) (.t1 .i .t0)), ?_⟩
      exact rfl
  · refine Cl (Ah rfl rfl rfl Bq rfl rfl (Zb rfl)) rfl <| Z1 1 (Am (A5 Gh rfl rfl rfl) (hd 24 rfl)) rfl <| Z1 2 (Am (A9 Cr rfl rfl rfl) (hd 25 rfl)) rfl <| Z1 4 (Am (Cm rfl) (hd 7 rfl)) rfl <| Bx (by kernel_rfl) <| An ?_
    refine ⟨_, _, (.cons (ResV.cell Ap rfl rfl rfl rfl) (.cons rfl .nil)), (.t1 (.a1 .b (.a1 (.nil (fr := false) (k := .u64)) (.a1 (.nil (fr := false) (k := .u64)) .a0))) (.t1 .i .t0)), ?_⟩
    exact rfl

theorem Wx (a ue : Value) (ha : a.oneCell' = true) (hu : ue.oneCell' = true) : Spec Tryz.prog 64 [.c .nilIface, .c a, .c ue] (fun o => o = .ret (.t [.c a, .c ue])) := by
  refine Aw [(0, .c .nilIface), (1, .c a), (2, .c ue)] rfl Tryz.func64 rfl (Zb rfl) fun Γ hN hds hL hR => ?_
  have hd := B2 26 hN
  refine Zs <| Za rfl (hd 6 rfl) <| Za rfl (hd 7 rfl) <| Ab <| Ae <| Zs <| Zm rfl (hd 11 rfl) <| Ac (M8 Jg rfl) (hd 12 rfl) <| Ab <| Cw rfl <| Ae ?_; refine Af <| Zm rfl (hd 13 rfl) <| Zm rfl (hd 14 rfl) <| Za rfl (hd 6 rfl) <| Za rfl (hd 7 rfl) <| Ab <| An ?_
  refine ⟨_, _, (.cons rfl (.cons rfl .nil)), (.t1 .c (.t1 .c .t0)), ?_⟩
  exact rfl

theorem Ww (a ue : Value) (ha : a.oneCell' = true) (hu : ue.oneCell' = true) (e : Int) : Spec Tryz.prog 64 [.c (.iface 100 (.agg #[.int .i64 e])), .c a, .c ue] (fun o => o = .ret (.t [(.i .i64 0), .i .i64 e])) := by
  refine Aw [(0, .c (.iface 100 (.agg #[.int .i64 e]))), (1, .c a), (2, .c ue)] rfl Tryz.func64 rfl (Zb rfl) fun Γ hN hds hL hR => ?_
  have hd := B2 26 hN
  refine Zs <| Za rfl (hd 6 rfl) <| Za rfl (hd 7 rfl) <| Ab <| Ae <| Zs <| Zm rfl (hd 11 rfl) <| Ac (M7 Jg rfl) (hd 12 rfl) <| Ab <| A6 rfl <| Aj ?_; refine Zs <| Zm rfl (hd 16 rfl) <| Ac (Yr Kz rfl) (hd 17 rfl) <| Zm rfl (hd 15 rfl) <| Ac (Ai rfl rfl) (hd 18 rfl) <| Ac (Ai rfl rfl) (hd 19 rfl) <| A1 (Aq (id := 0) H8 (by decide) rfl (by decide) rfl) (hd 8 rfl) <| A3 (Ah rfl rfl rfl Ms rfl rfl (Zb rfl)) <| Za rfl (hd 9 rfl) <| Ab <| Ae <| Ae ?_; refine Af <| Zm rfl (hd 20 rfl) <| Ac (Ha rfl) (hd 21 rfl) <| Ab <| A6 rfl <| Aj <| Zs <| Za rfl (hd 10 rfl) <| Ab <| Ae <| Bo (n := 5) _ rfl B9 <| Z1 0 (Am (Ay rfl) (hd 23 rfl)) rfl ?_; refine Z1 1 (Am (A5 Gh rfl rfl rfl) (hd 24 rfl)) rfl <| Z1 2 (Am (A9 Cr rfl rfl rfl) (hd 25 rfl)) rfl <| Z1 3 (Am (Cm rfl) (hd 6 rfl)) rfl <| Z1 4 (Am (Cm rfl) (hd 7 rfl)) rfl <| Bx (by kernel_rfl) <| An ?_
  refine ⟨_, _, (.cons rfl (.cons rfl .nil)), (.t1 .i (.t1 .i .t0)), ?_⟩
  exact rfl

theorem Wv (a ue : Value) (ha : a.oneCell' = true) (hu : ue.oneCell' = true) : Spec Tryz.prog 86 [.c .nilIface, .c a, .c ue] (fun o => o = .ret (.t [.c a, .c ue])) := by
  refine Aw [(0, .c .nilIface), (1, .c a), (2, .c ue)] rfl Tryz.func86 rfl (Zb rfl) fun Γ hN hds hL hR => ?_
  have hd := B2 26 hN
  refine Zs <| Za rfl (hd 6 rfl) <| Za rfl (hd 7 rfl) <| Ab <| Ae <| Zs <| Zm rfl (hd 11 rfl) <| Ac (M8 Jg rfl) (hd 12 rfl) <| Ab <| Cw rfl <| Ae ?_; refine Af <| Zm rfl (hd 13 rfl) <| Zm rfl (hd 14 rfl) <| Za rfl (hd 6 rfl) <| Za rfl (hd 7 rfl) <| Ab <| An ?_
  refine ⟨_, _, (.cons rfl (.cons rfl .nil)), (.t1 .c (.t1 .c .t0)), ?_⟩
  exact rfl

theorem Wu (a ue : Value) (ha : a.oneCell' = true) (hu : ue.oneCell' = true) (e : Int) : Spec Tryz.prog 86 [.c (.iface 100 (.agg #[.int .i64 e])), .c a, .c ue] (fun o => o = .ret (.t [(.s .empty), .i .i64 e])) := by
  refine Aw [(0, .c (.iface 100 (.agg #[.int .i64 e]))), (1, .c a), (2, .c ue)] rfl Tryz.func86 rfl (Zb rfl) fun Γ hN hds hL hR => ?_
  have hd := B2 26 hN
  refine Zs <| Za rfl (hd 6 rfl) <| Za rfl (hd 7 rfl) <| Ab <| Ae <| Zs <| Zm rfl (hd 11 rfl) <| Ac (M7 Jg rfl) (hd 12 rfl) <| Ab <| A6 rfl <| Aj ?_; refine Zs <| Zm rfl (hd 16 rfl) <| Ac (Yr Kz rfl) (hd 17 rfl) <| Zm rfl (hd 15 rfl) <| Ac (Ai rfl rfl) (hd 18 rfl) <| Ac (Ai rfl rfl) (hd 19 rfl) <| A1 (Aq (id := 0) H8 (by decide) rfl (by decide) rfl) (hd 8 rfl) <| A3 (Ah rfl rfl rfl Ms rfl rfl (Zb rfl)) <| Za rfl (hd 9 rfl) <| Ab <| Ae <| Ae ?_; refine Af <| Zm rfl (hd 20 rfl) <| Ac (Ha rfl) (hd 21 rfl) <| Ab <| A6 rfl <| Aj <| Zs <| Za rfl (hd 10 rfl) <| Ab <| Ae <| Bo (n := 5) _ rfl B9 <| Z1 0 (Am (Ay rfl) (hd 23 rfl)) rfl ?_; refine Z1 1 (Am (A5 Gh rfl rfl rfl) (hd 24 rfl)) rfl <| Z1 2 (Am (A9 Cr rfl rfl rfl) (hd 25 rfl)) rfl <| Z1 3 (Am (Cm rfl) (hd 6 rfl)) rfl <| Z1 4 (Am (Cm rfl) (hd 7 rfl)) rfl <| Bx (by kernel_rfl) <| An ?_
  refine ⟨_, _, (.cons rfl (.cons rfl .nil)), (.t1 .s (.t1 .i .t0)), ?_⟩
  exact rfl

theorem Z8 : Clo Tryz.prog 67 27 28 3 true 100 (.a [.b false, .n false .u64 [], .n false .u64 []]) where
  shape := ⟨Tryz.f67, Tryz.f48, 48, 45, 20, "ratio.go:64", Tryz.func67, rfl, rfl, rfl, Tryz.func48, rfl, rfl, fun us ue hl h1 h2 => by
    obtain ⟨a, b, c, rfl⟩ : ∃ a b c, us = [a, b, c] := by
      match us, hl with
      | [a, b, c], _ => exact ⟨a, b, c, rfl⟩
    exact Ex a b c ue (h1 a (by simp)) (h1 b (by simp)) (h1 c (by simp)) h2, fun us ue e hl h1 h2 => by
    obtain ⟨a, b, c, rfl⟩ : ∃ a b c, us = [a, b, c] := by
      match us, hl with
      | [a, b, c], _ => exact ⟨a, b, c, rfl⟩
    exact Ew a b c ue (h1 a (by simp)) (h1 b (by simp)) (h1 c (by simp)) h2 e⟩
  hm := B9
  hld := .inl ⟨rfl, Ap⟩
  hsz := Bq
  hle := Cr
  hz1 := rfl
  hz2 := rfl
  hz3 := fun _ => rfl

theorem Z7 : Clo Tryz.prog 84 27 28 3 true 100 (.a [.b false, .n false .u64 [], .n false .u64 []]) where
  shape := ⟨Tryz.f84, Tryz.f48, 48, 45, 20, "ratio.go:70", Tryz.func84, rfl, rfl, rfl, Tryz.func48, rfl, rfl, fun us ue hl h1 h2 => by
    obtain ⟨a, b, c, rfl⟩ : ∃ a b c, us = [a, b, c] := by
      match us, hl with
      | [a, b, c], _ => exact ⟨a, b, c, rfl⟩
    exact Ex a b c ue (h1 a (by simp)) (h1 b (by simp)) (h1 c (by simp)) h2, fun us ue e hl h1 h2 => by
    obtain ⟨a, b, c, rfl⟩ : ∃ a b c, us = [a, b, c] := by
      match us, hl with
      | [a, b, c], _ => exact ⟨a, b, c, rfl⟩
    exact Ew a b c ue (h1 a (by simp)) (h1 b (by simp)) (h1 c (by simp)) h2 e⟩
  hm := B9
  hld := .inl ⟨rfl, Ap⟩
  hsz := Bq
  hle := Cr
  hz1 := rfl
  hz2 := rfl
  hz3 := fun _ => rfl

theorem Sl : Clo Tryz.prog 98 27 28 3 true 100 (.a [.b false, .n false .u64 [], .n false .u64 []]) where
  shape := ⟨Tryz.f98, Tryz.f48, 48, 45, 20, "ratio.go:80", Tryz.func98, rfl, rfl, rfl, Tryz.func48, rfl, rfl, fun us ue hl h1 h2 => by
    obtain ⟨a, b, c, rfl⟩ : ∃ a b c, us = [a, b, c] := by
      match us, hl with
      | [a, b, c], _ => exact ⟨a, b, c, rfl⟩
    exact Ex a b c ue (h1 a (by simp)) (h1 b (by simp)) (h1 c (by simp)) h2, fun us ue e hl h1 h2 => by
    obtain ⟨a, b, c, rfl⟩ : ∃ a b c, us = [a, b, c] := by
      match us, hl with
      | [a, b, c], _ => exact ⟨a, b, c, rfl⟩
    exact Ew a b c ue (h1 a (by simp)) (h1 b (by simp)) (h1 c (by simp)) h2 e⟩
  hm := B9
  hld := .inl ⟨rfl, Ap⟩
  hsz := Bq
  hle := Cr
  hz1 := rfl
  hz2 := rfl
  hz3 := fun _ => rfl

theorem Sk : Clo Tryz.prog 137 27 28 3 true 100 (.a [.b false, .n false .u64 [], .n false .u64 []]) where
  shape := ⟨Tryz.f137, Tryz.f48, 48, 45, 20, "ratio.go:96", Tryz.func137, rfl, rfl, rfl, Tryz.func48, rfl, rfl, fun us ue hl h1 h2 => by
    obtain ⟨a, b, c, rfl⟩ : ∃ a b c, us = [a, b, c] := by
      match us, hl with
      | [a, b, c], _ => exact ⟨a, b, c, rfl⟩
    exact Ex a b c ue (h1 a (by simp)) (h1 b (by simp)) (h1 c (by simp)) h2, fun us ue e hl h1 h2 => by
    obtain ⟨a, b, c, rfl⟩ : ∃ a b c, us = [a, b, c] := by
      match us, hl with
      | [a, b, c], _ => exact ⟨a, b, c, rfl⟩
    exact Ew a b c ue (h1 a (by simp)) (h1 b (by simp)) (h1 c (by simp)) h2 e⟩
  hm := B9
  hld := .inl ⟨rfl, Ap⟩
  hsz := Bq
  hle := Cr
  hz1 := rfl
  hz2 := rfl
  hz3 := fun _ => rfl

theorem Nm : Clo Tryz.prog 112 27 28 3 true 100 (.a [.b false, .n false .u64 [], .n false .u64 []]) where
  shape := ⟨Tryz.f112, Tryz.f48, 48, 45, 20, "ratio.go:122", Tryz.func112, rfl, rfl, rfl, Tryz.func48, rfl, rfl, fun us ue hl h1 h2 => by
    obtain ⟨a, b, c, rfl⟩ : ∃ a b c, us = [a, b, c] := by
      match us, hl with
      | [a, b, c], _ => exact ⟨a, b, c, rfl⟩
    exact Ex a b c ue (h1 a (by simp)) (h1 b (by simp)) (h1 c (by simp)) h2, fun us ue e hl h1 h2 => by
    obtain ⟨a, b, c, rfl⟩ : ∃ a b c, us = [a, b, c] := by
      match us, hl with
      | [a, b, c], _ => exact ⟨a, b, c, rfl⟩
    exact Ew a b c ue (h1 a (by simp)) (h1 b (by simp)) (h1 c (by simp)) h2 e⟩
  hm := B9
  hld := .inl ⟨rfl, Ap⟩
  hsz := Bq
  hle := Cr
  hz1 := rfl
  hz2 := rfl
  hz3 := fun _ => rfl

theorem Nl : Clo Tryz.prog 63 3 28 1 false 100 (.i .i64 0) where
  shape := ⟨Tryz.f63, Tryz.f64, 64, 54, 20, "ratio.go:146", Tryz.func63, rfl, rfl, rfl, Tryz.func64, rfl, rfl, fun us ue hl h1 h2 => by
    obtain ⟨a, rfl⟩ : ∃ a, us = [a] := by
      match us, hl with
      | [a], _ => exact ⟨a, rfl⟩
    exact Wx a ue (h1 a (by simp)) h2, fun us ue e hl h1 h2 => by
    obtain ⟨a, rfl⟩ : ∃ a, us = [a] := by
      match us, hl with
      | [a], _ => exact ⟨a, rfl⟩
    exact Ww a ue (h1 a (by simp)) h2 e⟩
  hm := B9
  hld := .inr ⟨rfl, rfl, S2⟩
  hsz := Ajb
  hle := Cr
  hz1 := rfl
  hz2 := rfl
  hz3 := fun _ => rfl

theorem Sj : Clo Tryz.prog 90 27 28 3 true 100 (.a [.b false, .n false .u64 [], .n false .u64 []]) where
  shape := ⟨Tryz.f90, Tryz.f48, 48, 45, 20, "ratio.go:136", Tryz.func90, rfl, rfl, rfl, Tryz.func48, rfl, rfl, fun us ue hl h1 h2 => by
    obtain ⟨a, b, c, rfl⟩ : ∃ a b c, us = [a, b, c] := by
      match us, hl with
      | [a, b, c], _ => exact ⟨a, b, c, rfl⟩
    exact Ex a b c ue (h1 a (by simp)) (h1 b (by simp)) (h1 c (by simp)) h2, fun us ue e hl h1 h2 => by
    obtain ⟨a, b, c, rfl⟩ : ∃ a b c, us = [a, b, c] := by
      match us, hl with
      | [a, b, c], _ => exact ⟨a, b, c, rfl⟩
    exact Ew a b c ue (h1 a (by simp)) (h1 b (by simp)) (h1 c (by simp)) h2 e⟩
  hm := B9
  hld := .inl ⟨rfl, Ap⟩
  hsz := Bq
  hle := Cr
  hz1 := rfl
  hz2 := rfl
  hz3 := fun _ => rfl

theorem Kb : Clo Tryz.prog 85 9 28 1 false 100 (.s .empty) where
  shape := ⟨Tryz.f85, Tryz.f86, 86, 80, 20, "ratio.go:291", Tryz.func85, rfl, rfl, rfl, Tryz.func86, rfl, rfl, fun us ue hl h1 h2 => by
    obtain ⟨a, rfl⟩ : ∃ a, us = [a] := by
      match us, hl with
      | [a], _ => exact ⟨a, rfl⟩
    exact Wv a ue (h1 a (by simp)) h2, fun us ue e hl h1 h2 => by
    obtain ⟨a, rfl⟩ : ∃ a, us = [a] := by
      match us, hl with
      | [a], _ => exact ⟨a, rfl⟩
    exact Wu a ue (h1 a (by simp)) h2 e⟩
  hm := B9
  hld := .inr ⟨rfl, rfl, Ti⟩
  hsz := X3
  hle := Cr
  hz1 := rfl
  hz2 := rfl
  hz3 := fun _ => rfl

theorem Z6 : Clo Tryz.prog 116 27 28 3 true 100 (.a [.b false, .n false .u64 [], .n false .u64 []]) where
  shape := ⟨Tryz.f116, Tryz.f48, 48, 45, 20, "ratio.go:115", Tryz.func116, rfl, rfl, rfl, Tryz.func48, rfl, rfl, fun us ue hl h1 h2 => by
    obtain ⟨a, b, c, rfl⟩ : ∃ a b c, us = [a, b, c] := by
      match us, hl with
      | [a, b, c], _ => exact ⟨a, b, c, rfl⟩
    exact Ex a b c ue (h1 a (by simp)) (h1 b (by simp)) (h1 c (by simp)) h2, fun us ue e hl h1 h2 => by
    obtain ⟨a, b, c, rfl⟩ : ∃ a b c, us = [a, b, c] := by
      match us, hl with
      | [a, b, c], _ => exact ⟨a, b, c, rfl⟩
    exact Ew a b c ue (h1 a (by simp)) (h1 b (by simp)) (h1 c (by simp)) h2 e⟩
  hm := B9
  hld := .inl ⟨rfl, Ap⟩
  hsz := Bq
  hle := Cr
  hz1 := rfl
  hz2 := rfl
  hz3 := fun _ => rfl

theorem Gr (l : List Int) : Spec Tryz.prog 32 [.n false .u64 l, .i .i64 0] (fun o => o = .ret (.n false .u64 l)) := by
  refine Aw [(0, .n false .u64 l), (1, .i .i64 0)] rfl Tryz.func32 rfl (Zb rfl) fun Γ hN hds hL hR => ?_
  have hd := B2 11 hN
  refine Zs <| Za rfl (hd 4 rfl) <| Ab <| Ae <| Zs <| Zm rfl (hd 5 rfl) <| Ac (B0 (Ec rfl rfl) (by decide)) (hd 6 rfl) <| Ab <| A6 rfl <| Aj <| Ae ?_; refine Af <| Zm rfl (hd 10 rfl) <| Za rfl (hd 4 rfl) <| Ab <| An ?_
  refine ⟨_, _, (.cons rfl .nil), .n, ?_⟩
  exact rfl

theorem K1 (s : Bool) (l : List Int) : Spec Tryz.prog 94 [.a [.b s, .n false .u64 l], .i .i64 0] (fun o => o = .ret (.a [.b s, .n false .u64 l])) := by
  refine Aw [(0, .a [.b s, .n false .u64 l]), (1, .i .i64 0)] rfl Tryz.func94 rfl (Zb rfl) fun Γ hN hds hL hR => ?_
  have hd := B2 11 hN
  refine Zs <| A1 (Bn (id := 0) (n := 2) rfl rfl rfl (by decide) rfl) (hd 2 rfl) <| A1 (Aq (id := 1) Az (by decide) rfl (by decide) rfl) (hd 4 rfl) <| Ab <| Ae <| Zs <| Zm rfl (hd 5 rfl) <| Ac (B0 (Ec rfl rfl) (by decide)) (hd 6 rfl) <| Ab <| A6 rfl <| Aj ?_; refine Zs <| Ac (Au Bw rfl rfl rfl rfl) (hd 10 rfl) <| A3 (Ah rfl rfl rfl B6 rfl rfl (Zb rfl)) <| Ab <| An ?_
  refine ⟨_, _, (.cons (ResV.cell Bw rfl rfl rfl rfl) .nil), (.a1 .b (.a1 .n .a0)), ?_⟩
  exact rfl

theorem Adu (s : ByteArray) : Spec Tryz.prog 87 [.s s, .i .i64 0] (fun o => o = .ret (.s s)) := by
  refine Aw [(0, .s s), (1, .i .i64 0)] rfl Tryz.func87 rfl (Zb rfl) fun Γ hN hds hL hR => ?_
  have hd := B2 11 hN
  refine Zs <| Za rfl (hd 4 rfl) <| Ab <| Ae <| Zs <| Zm rfl (hd 5 rfl) <| Ac (B0 (Ec rfl rfl) (by decide)) (hd 6 rfl) <| Ab <| A6 rfl <| Aj <| Ae ?_; refine Af <| Zm rfl (hd 10 rfl) <| Za rfl (hd 4 rfl) <| Ab <| An ?_
  refine ⟨_, _, (.cons rfl .nil), .s, ?_⟩
  exact rfl

theorem K2 (s : Bool) (l d : List Int) : Spec Tryz.prog 52 [.a [.b s, .n false .u64 l, .n false .u64 d], .i .i64 0] (fun o => o = .ret (.a [.b s, .n false .u64 l, .n false .u64 d])) := by
  refine Aw [(0, .a [.b s, .n false .u64 l, .n false .u64 d]), (1, .i .i64 0)] rfl Tryz.func52 rfl (Zb rfl) fun Γ hN hds hL hR => ?_
  have hd := B2 11 hN
  refine Zs <| A1 (Bn (id := 0) (n := 3) rfl rfl rfl (by decide) rfl) (hd 2 rfl) <| A1 (Aq (id := 1) B4 (by decide) rfl (by decide) rfl) (hd 4 rfl) <| Ab <| Ae <| Zs <| Zm rfl (hd 5 rfl) <| Ac (B0 (Ec rfl rfl) (by decide)) (hd 6 rfl) <| Ab <| A6 rfl <| Aj ?_; refine Zs <| Ac (Au Ap rfl rfl rfl rfl) (hd 10 rfl) <| A3 (Ah rfl rfl rfl Bq rfl rfl (Zb rfl)) <| Ab <| An ?_
  refine ⟨_, _, (.cons (ResV.cell Ap rfl rfl rfl rfl) .nil), (.a1 .b (.a1 .n (.a1 .n .a0))), ?_⟩
  exact rfl

theorem Z5 : Clo Tryz.prog 114 27 28 3 true 100 (.a [.b false, .n false .u64 [], .n false .u64 []]) where
  shape := ⟨Tryz.f114, Tryz.f48, 48, 45, 20, "ratio.go:325", Tryz.func114, rfl, rfl, rfl, Tryz.func48, rfl, rfl, fun us ue hl h1 h2 => by
    obtain ⟨a, b, c, rfl⟩ : ∃ a b c, us = [a, b, c] := by
      match us, hl with
      | [a, b, c], _ => exact ⟨a, b, c, rfl⟩
    exact Ex a b c ue (h1 a (by simp)) (h1 b (by simp)) (h1 c (by simp)) h2, fun us ue e hl h1 h2 => by
    obtain ⟨a, b, c, rfl⟩ : ∃ a b c, us = [a, b, c] := by
      match us, hl with
      | [a, b, c], _ => exact ⟨a, b, c, rfl⟩
    exact Ew a b c ue (h1 a (by simp)) (h1 b (by simp)) (h1 c (by simp)) h2 e⟩
  hm := B9
  hld := .inl ⟨rfl, Ap⟩
  hsz := Bq
  hle := Cr
  hz1 := rfl
  hz2 := rfl
  hz3 := fun _ => rfl

theorem Ye {w : World} {M : Nat → Prop} {B : Nat} {ρ : List Re} {fr : Bool} {k : IntKind} {l : List Int} {v : Value} (h : Rel w M B ρ (.n fr k l) v) : Rel w M B ρ (.n false k l) v := by
  obtain ⟨A, c, e, h1, h2, h3⟩ := h
  exact ⟨A, c, e, h1, h2, fun hl => by obtain ⟨ad, e1, hb, hc⟩ := h3 hl; exact ⟨ad, e1, ⟨hb.1, hb.2.1, by simp⟩, hc⟩⟩
theorem Rk {w : World} {M : Nat → Prop} {B : Nat} {ρ : List Re} {f : V → V} (hf : ∀ y v, Rel w M B ρ y v → Rel w M B ρ (f y) v) : ∀ (ys : List V) (us : List Value), RelL w M B ρ ys us → RelL w M B ρ (ys.map f) us
  | [], us, h => h
  | y :: ys, us, ⟨u, us', e, h1, h2⟩ => ⟨u, us', e, hf y u h1, Rk hf ys us' h2⟩
def olds : V → V
  | .a [.b s, .n _ k l] => .a [.b s, .n false k l]
  | v => v
theorem Yd {w : World} {M : Nat → Prop} {B : Nat} {ρ : List Re} (y : V) (v : Value) (h : Rel w M B ρ y v) : Rel w M B ρ (olds y) v := by
  unfold olds
  split
  · obtain ⟨us, e, u, us', e1, h1, u2, us2, e2, h2, h3⟩ := h
    exact ⟨us, e, u, us', e1, h1, u2, us2, e2, Ye h2, h3⟩
  · exact h
theorem Spec.olds {P : Program} {f : FuncId} {args : List V} {ys : List V} (h : Spec P f args (fun o => o = .ret (.t ys))) : Spec P f args (fun o => o = .ret (.t (ys.map Vc.olds))) :=
  h.weak fun o ho => by
    subst ho
    refine ⟨_, rfl, fun w M B e h => ?_⟩
    obtain ⟨v, h1, us, h2, h3⟩ := h
    exact ⟨v, h1, us, h2, Rk Yd _ _ h3⟩

theorem Rw.mk' {l : List Int} (hu : Av l) (hl : l.length ≤ 1048576) : Rw l (vl l).toNat := ⟨hu, (Int.toNat_of_nonneg (A4 hu)).symm, hl⟩
set_option maxRecDepth 100000 in
theorem openQ {H : Type} {enc : TypeId × Value → H} {w : World} {sp : Nat → Bool} {held : Bool} {r : Reach} {b0 : Nat} {v : Value} {d : DataW H} {ps : List MemPlace} (hval : Value.okWide Tryz.prog w r b0 27 v) (hd : DataW.Trod enc Tryz.prog w 0 sp held 27 v d ps) :
    ∃ (s : Bool) (l e : List Int), Rel w (fun _ => False) w.heap.size [] (.a [.b s, .n false .u64 l, .n false .u64 e]) v ∧ l.length + e.length + 3 ≤ Rows.uptoBulk d ∧ Av l ∧ Av e := by
  obtain ⟨cs, rfl, hsz⟩ := Go.WideShapes.okWide_struct Tryz.underlying27 hval
  obtain ⟨fuel, hd⟩ := hd
  have hcl : (Value.agg cs).cells.toList = cs.toList := rfl
  rw [hcl] at hd
  obtain ⟨y0, y1, n, hx, hl, h0, h1⟩ := Go.ChangeShapes.trod_struct2 Tryz.underlying27 hd
  injection hx with hx _; subst hx
  have hl' : cs.toList.length = 3 := hl
  obtain ⟨c0, c1, c2, hcs⟩ : ∃ c0 c1 c2, cs.toList = [c0, c1, c2] := by
    match hm : cs.toList, hl' with
    | [a, b, c], _ => exact ⟨a, b, c, rfl⟩
  rw [hcs] at h0 h1
  have h0' : DataW.trod enc Tryz.prog w 0 sp held n 25 [c0, c1] = some y0 := h0
  obtain ⟨u0, u1, m, hy, hl2, g0, g1⟩ := Go.ChangeShapes.trod_struct2 Tryz.underlying25 h0'
  subst hy
  obtain ⟨s, e0, hy0⟩ := DataW.trod_bool Tryz.underlying4 g0
  have e0' : [c0] = [Value.bool s] := e0
  injection e0' with e0'; subst e0'; subst hy0
  have g1' : DataW.trod enc Tryz.prog w 0 sp held m 23 [c1] = some u1 := g1
  obtain ⟨l, k1, k2, k3⟩ := Ly Tryz.underlying23 Tryz.underlying71 (show Tryz.prog.cellsOf 71 = 1 by kernel_rfl) g1'
  have h1' : DataW.trod enc Tryz.prog w 0 sp held n 23 [c2] = some y1 := h1
  obtain ⟨e, k4, k5, k6⟩ := Ly Tryz.underlying23 Tryz.underlying71 (show Tryz.prog.cellsOf 71 = 1 by kernel_rfl) h1'
  refine ⟨s, l, e, ⟨cs.toList, by simp, ?_⟩, ?_, fun y hy => Aao (k3 y hy), fun y hy => Aao (k6 y hy)⟩
  · rw [hcs]; exact ⟨_, _, rfl, rfl, _, _, rfl, k1, _, _, rfl, k4, rfl⟩
  · simp only [Rows.uptoBulk, Rows.uptoBulkAll]; omega
theorem short3q {H : Type} {d0 d1 d2 : DataW H} {rest : List (DataW H)} {l0 e0 l1 e1 l2 e2 : List Int} (hk : Rows.uptoSmall H (d0 :: d1 :: d2 :: rest) = true) (h0 : l0.length + e0.length + 3 ≤ Rows.uptoBulk d0) (h1 : l1.length + e1.length + 3 ≤ Rows.uptoBulk d1) (h2 : l2.length + e2.length + 3 ≤ Rows.uptoBulk d2) : l0.length + e0.length + l1.length + e1.length + l2.length + e2.length ≤ 1048567 := by
  have h : Rows.uptoBulkAll (d0 :: d1 :: d2 :: rest) ≤ 1048576 := of_decide_eq_true hk
  simp only [Rows.uptoBulkAll] at h
  omega

theorem Ad3 (l : List Int) (hl : l.length < 1099511627776) (hu : Av l) : Spec Tryz.prog 144 [.n false .u64 l] (fun o => ∃ (r : List Int) (e : Int), o = .ret (.t [.n true .u64 r, .i .i64 e]) ∧ Tj (vl l) r e) := by
  refine Aw [(0, .n false .u64 l)] rfl Tryz.func144 rfl (Zb rfl) fun Γ hN hds hL hR => ?_
  have hd := B2 10 hN
  have hm := Cy l
  refine Zs <| Za rfl (hd 2 rfl) <| Za rfl (hd 3 rfl) <| Ab <| Zs <| Zm rfl (hd 4 rfl) ?_
  refine Ag Tryz.f66 (D4 l hl) rfl Tryz.func66 rfl rfl (Aa rfl Ad) (.cons .n .nil) (hd 5 rfl) ?_ (fun _ h => by simp at h)
  rintro _ ⟨⟩; refine Za rfl (hd 0 rfl) <| Ab <| Ae <| Zs <| Zm rfl (hd 6 rfl) ?_
  refine Ag Tryz.f30 (Dl (trm l) (by omega) (A8 hu)) rfl Tryz.func30 rfl rfl (Aa rfl Ad) (.cons .n .nil) (hd 7 rfl) ?_ (fun _ h => by simp at h)
  rintro _ ⟨⟩; refine Ac (Ce rfl rfl) (hd 8 rfl) <| Ab ?_
  refine Bh rfl (fun h1 => ?_) (fun h1 => ?_)
  · refine Zs <| Za rfl (hd 2 rfl) <| Za rfl (hd 3 rfl) <| Ab <| An ?_
    refine ⟨_, _, (.cons rfl (.cons rfl .nil)), (.t1 (.nil (fr := true) (k := .u64)) (.t1 .i .t0)), ?_⟩
    exact ⟨[], 3, rfl, Zo hu rfl (by rw [Fj] at *; omega)⟩
  · refine Aj <| Zs <| Zm rfl (hd 9 rfl) <| Za rfl (hd 2 rfl) <| Za rfl (hd 3 rfl) <| Ab <| An ?_
    refine ⟨_, _, (.cons rfl (.cons rfl .nil)), (.t1 .n (.t1 .i .t0)), ?_⟩
    exact ⟨_, 0, rfl, Aen hu rfl (by rw [Fj] at *; omega)⟩

theorem U0 (a b : List Int) (hla : a.length < 4294967296) (hlb : b.length < 4294967296) (ua : Av a) (ub : Av b) : Spec Tryz.prog 134 [.n false .u64 a, .n false .u64 b, .f 135 []] (fun o => ∃ (r : List Int) (e : Int), o = .ret (.t [.n true .u64 r, .i .i64 e]) ∧ Tj (vl a * vl b) r e) := by
  refine Aw [(0, .n false .u64 a), (1, .n false .u64 b), (2, .f 135 [])] rfl Tryz.func134 rfl (Zb rfl) fun Γ hN hds hL hR => ?_
  have hd := B2 22 hN
  have hma := Cy a
  have hmb := Cy b
  refine Zs <| Za rfl (hd 6 rfl) <| Za rfl (hd 7 rfl) <| Ab <| Zs <| Zm rfl (hd 8 rfl) ?_
  refine Ag Tryz.f66 (D4 a (by omega)) rfl Tryz.func66 rfl rfl (Aa rfl Ad) (.cons .n .nil) (hd 9 rfl) ?_ (fun _ h => by simp at h)
  rintro _ ⟨⟩; refine Zm rfl (hd 10 rfl) ?_
  refine Ag Tryz.f66 (D4 b (by omega)) rfl Tryz.func66 rfl rfl (Aa rfl Ad) (.cons .n .nil) (hd 11 rfl) ?_ (fun _ h => by simp at h)
  rintro _ ⟨⟩; refine Za rfl (hd 0 rfl) <| Za rfl (hd 1 rfl) <| Ab <| Ae <| Zs <| Zm rfl (hd 12 rfl) <| Zm rfl (hd 13 rfl) ?_
  refine Ag Tryz.f143 (Vy (trm a) (trm b) (by omega) (by omega) (A8 ua) (A8 ub)) rfl Tryz.func143 rfl rfl (Aa rfl (Aa rfl Ad)) (.cons .n (.cons .n .nil)) (hd 14 rfl) ?_ (fun _ h => by simp at h)
  rintro y ⟨x, hy, hx⟩; injection hy with hy; subst hy; refine Ab ?_
  refine F7 rfl (fun h1 => ?_) (fun h1 => ?_)
  · refine Zs <| Za rfl (hd 6 rfl) <| Za rfl (hd 7 rfl) <| Ab <| An ?_
    refine ⟨_, _, (.cons rfl (.cons rfl .nil)), (.t1 (.nil (fr := true) (k := .u64)) (.t1 .i .t0)), ?_⟩
    refine ⟨[], 3, rfl, ?_⟩
    obtain ⟨g1, g2, g3⟩ := hx (by assumption)
    have := L7 (r := []) (A8 ua) (A8 ub) g1 g2 g3
    rw [D7, D7] at this
    exact Aeo this
  · refine Aj <| Zs <| Zm rfl (hd 15 rfl) <| Zm rfl (hd 16 rfl) <| Zm rfl (hd 17 rfl) ?_
    refine Ag Tryz.f135 (Afs (trm a) (trm b) (by omega) (by omega) (A8 ua) (A8 ub)) rfl Tryz.func135 rfl rfl (Aa rfl (Aa rfl Ad)) (.cons .n (.cons .n .nil)) (hd 18 rfl) ?_ (fun _ h => by simp at h)
    rintro y ⟨rs, hy, us, ls, vs⟩; injection hy with hy; subst hy
    refine Ag Tryz.f144 (Ad3 rs (by omega) us) rfl Tryz.func144 rfl rfl (Aa rfl Ad) (.cons .n .nil) (hd 19 rfl) ?_ (fun _ h => by simp at h)
    rintro y ⟨rf, ef, hy, hf⟩; injection hy with hy; subst hy; refine Ac (Ai rfl rfl) (hd 20 rfl) <| Ac (Ai rfl rfl) (hd 21 rfl) <| Za rfl (hd 6 rfl) <| Za rfl (hd 7 rfl) <| Ab <| An ?_
    refine ⟨_, _, (.cons rfl (.cons rfl .nil)), (.t1 .n (.t1 .i .t0)), ?_⟩
    exact ⟨rf, ef, rfl, by rwa [vs, D7, D7] at hf⟩

theorem Aaj (a b : List Int) (hla : a.length < 4294967296) (hlb : b.length < 4294967296) (ua : Av a) (ub : Av b) : Spec Tryz.prog 113 [.n false .u64 a, .n false .u64 b] (fun o => ∃ (r : List Int) (e : Int), o = .ret (.t [.n true .u64 r, .i .i64 e]) ∧ Tj (vl a * vl b) r e) := by
  refine Aw [(0, .n false .u64 a), (1, .n false .u64 b)] rfl Tryz.func113 rfl (Zb rfl) fun Γ hN hds hL hR => ?_
  have hd := B2 11 hN
  refine Zs <| Za rfl (hd 4 rfl) <| Za rfl (hd 5 rfl) <| Ab <| Zs <| Zm rfl (hd 6 rfl) <| Zm rfl (hd 7 rfl) ?_
  refine Ag Tryz.f134 (U0 a b hla hlb ua ub) rfl Tryz.func134 rfl rfl (Aa rfl (Aa rfl (Aa rfl Ad))) (.cons .n (.cons .n (.cons .f .nil))) (hd 8 rfl) ?_ (fun _ h => by simp at h)
  rintro y ⟨rp, ep, hy, hp⟩; injection hy with hy; subst hy; refine Ac (Ai rfl rfl) (hd 9 rfl) <| Ac (Ai rfl rfl) (hd 10 rfl) <| Za rfl (hd 4 rfl) <| Za rfl (hd 5 rfl) <| Ab <| An ?_
  refine ⟨_, _, (.cons rfl (.cons rfl .nil)), (.t1 .n (.t1 .i .t0)), ?_⟩
  exact ⟨rp, ep, rfl, hp⟩


theorem Ai3 (l : List Int) (w : Int) (hl : l.length ≤ 1048576) (hu : Av l) (hw : Al w ≤ 67108864) (h0 : w ≠ 0) : Spec Tryz.prog 102 [.n false .u64 l, .n false .u64 (lm w)] (fun o => o = .ret (.t [.n false .u64 (lm (qn (vl l) w)), .n false .u64 (lm (rn (vl l) w)), .i .i64 0])) := by
  refine Aw [(0, .n false .u64 l), (1, .n false .u64 (lm w))] rfl Tryz.func102 rfl (Zb rfl) fun Γ hN hds hL hR => ?_
  have hd := B2 32 hN
  have hv : Al (vl l) ≤ 67108864 := by have := H5 (s := false) hu; have e : sv false l = vl l := rfl; rw [e] at this; omega
  have hlw := Bv hw
  have hle := B7 (v := qn (vl l) w) (w := vl l) Uy
  have hlr := B7 (v := rn (vl l) w) (w := w) (Oe h0).1
  have hlq := Bv (v := qn (vl l) w) (by omega)
  have hlR := Bv (v := rn (vl l) w) (by omega)
  have hne := Ow h0
  have hlv := Bv hv
  have hNl : Spec Tryz.prog 66 [.n false .u64 l] (fun o => o = .ret (.n true .u64 (lm (vl l)))) := by have h := D4 l (by omega); rwa [Fo hu rfl] at h
  refine Zs <| Za rfl (hd 4 rfl) <| Za rfl (hd 5 rfl) <| Za rfl (hd 6 rfl) <| Ab <| Zs <| Zm rfl (hd 9 rfl) ?_
  refine Ag Tryz.f66 (hNl) rfl Tryz.func66 rfl rfl (Aa rfl Ad) (.cons .n .nil) (hd 10 rfl) ?_ (fun _ h => by simp at h)
  rintro _ ⟨⟩; refine Zm rfl (hd 11 rfl) ?_
  refine Ag Tryz.f66 (Iy w (by omega)) rfl Tryz.func66 rfl rfl (Aa rfl Ad) (.cons .n .nil) (hd 12 rfl) ?_ (fun _ h => by simp at h)
  rintro _ ⟨⟩; refine Za rfl (hd 0 rfl) <| Za rfl (hd 1 rfl) <| Ab <| Ae <| Zs <| Zm rfl (hd 13 rfl) <| Ac (Ar A7 rfl) (hd 14 rfl) <| Ac (B0 (Cq rfl rfl) (fun h => hne (List.eq_nil_of_length_eq_zero (by omega)))) (hd 15 rfl) <| Ab <| A6 rfl <| Aj <| Ae ?_; refine Af <| Zm rfl (hd 17 rfl) <| Zm rfl (hd 18 rfl) ?_
  refine Ag Tryz.f107 (Hl (vl l) w (by omega) (by omega) h0) rfl Tryz.func107 rfl rfl (Aa rfl (Aa rfl Ad)) (.cons .n (.cons .n .nil)) (hd 19 rfl) ?_ (fun _ h => by simp at h)
  rintro _ ⟨⟩; refine Zm rfl (hd 16 rfl) <| Ac (Ai rfl rfl) (hd 20 rfl) <| Ac (Ai rfl rfl) (hd 21 rfl) <| Za rfl (hd 7 rfl) <| Za rfl (hd 8 rfl) <| Ab <| Ae <| Zs <| Zm rfl (hd 22 rfl) ?_
  refine Ag Tryz.f30 (Dd (qn (vl l) w) (by omega)) rfl Tryz.func30 rfl rfl (Aa rfl Ad) (.cons .n .nil) (hd 23 rfl) ?_ (fun _ h => by simp at h)
  rintro _ ⟨⟩; refine Ac (B0 (Ce rfl rfl) (by omega)) (hd 24 rfl) <| Zm rfl (hd 25 rfl) <| Bi 25 rfl rfl (Ay rfl) (hd 26 rfl) ?_
  refine Ek Tryz.f30 25 rfl rfl (Dd (rn (vl l) w) (by omega)) rfl Tryz.func30 rfl rfl (Aa rfl Ad) (.cons .n .nil) (hd 27 rfl) ?_ (fun _ h => by simp at h)
  rintro _ ⟨⟩; refine Bi 25 rfl rfl (B0 (Ce rfl rfl) (by omega)) (hd 28 rfl) <| Ac (Bg rfl rfl) (hd 29 rfl) <| Ab <| A6 rfl <| Aj <| Zs <| Zm rfl (hd 30 rfl) <| Zm rfl (hd 31 rfl) <| Za rfl (hd 4 rfl) <| Za rfl (hd 5 rfl) <| Za rfl (hd 6 rfl) <| Ab ?_; refine An ?_
  refine ⟨_, _, (.cons rfl (.cons rfl (.cons rfl .nil))), (.t1 .n (.t1 .n (.t1 .i .t0))), ?_⟩
  exact rfl

theorem Aae (a : List Int) (hla : a.length < 67108864) (ua : Av a) : Spec Tryz.prog 132 [.n false .u64 a] (fun o => ∃ (r : List Int) (e : Int), o = .ret (.t [.n true .u64 r, .i .i64 e]) ∧ Tj (vl a * vl a) r e) := by
  refine Aw [(0, .n false .u64 a)] rfl Tryz.func132 rfl (Zb rfl) fun Γ hN hds hL hR => ?_
  have hd := B2 9 hN
  refine Zs <| Za rfl (hd 2 rfl) <| Za rfl (hd 3 rfl) <| Ab <| Zs <| Zm rfl (hd 4 rfl) <| Zm rfl (hd 5 rfl) ?_
  refine Ag Tryz.f113 (Aaj a a (by omega) (by omega) ua ua) rfl Tryz.func113 rfl rfl (Aa rfl (Aa rfl Ad)) (.cons .n (.cons .n .nil)) (hd 6 rfl) ?_ (fun _ h => by simp at h)
  rintro y ⟨rp, ep, hy, hp⟩; injection hy with hy; subst hy; refine Ac (Ai rfl rfl) (hd 7 rfl) <| Ac (Ai rfl rfl) (hd 8 rfl) <| Za rfl (hd 2 rfl) <| Za rfl (hd 3 rfl) <| Ab <| An ?_
  refine ⟨_, _, (.cons rfl (.cons rfl .nil)), (.t1 .n (.t1 .i .t0)), ?_⟩
  exact ⟨rp, ep, rfl, hp⟩

theorem Af9 (x : Nat) (h0 : 0 < x) (hx : x < 18446744073709551616) : SpecT Tryz.prog 74 0 tzCells [.i .u64 (x : Int)] (fun o => o = .ret (.i .i64 ((tz x : Nat) : Int))) := by
  refine Ju [(0, .i .u64 (x : Int))] rfl Tryz.func74 rfl (Zb rfl) fun Γ hTb hN hds hL hR => ?_
  have hd := B2 14 hN
  obtain ⟨hk, hp2⟩ := Af5 h0 hx
  have hj := (Ts _ hk).1
  refine Zs <| Za rfl (hd 2 rfl) <| Ab <| Ae <| Zs <| Zm rfl (hd 3 rfl) <| Ac (B0 (Cq rfl rfl) (by omega)) (hd 4 rfl) <| Ab <| A6 rfl <| Aj <| Ae ?_; refine Af <| Zm rfl (hd 5 rfl) <| Zm rfl (hd 6 rfl) <| Ac (Jj rfl (r := ((18446744073709551616 - x : Nat) : Int)) (by rw [Dv]; omega)) (hd 7 rfl) <| Ac (Bk (Gd (by simp) rfl rfl rfl) (by show V.i .u64 _ = V.i .u64 (((2 ^ tz x : Nat) : Int)); exact congrArg (V.i .u64) (by rw [Ae7 hx (by omega), Yu h0 hx]))) (hd 8 rfl) <| Ac (Dw rfl rfl (r := ((2 ^ tz x * 285870213051353865 % 18446744073709551616) : Nat)) (by rw [Dv]; rfl)) (hd 9 rfl) <| Ac (Bk (Eh rfl rfl (by decide) rfl) (by show V.i .u64 _ = V.i .u64 ((((2 ^ tz x * 285870213051353865 % 18446744073709551616 / 288230376151711744) : Nat) : Int)); exact congrArg (V.i .u64) (I2 (k := 288230376151711744) (by decide)))) (hd 10 rfl) <| Ac (Ys (sz := 1) (i := (2 ^ tz x * 285870213051353865 % 18446744073709551616 / 288230376151711744)) hL hTb Aid rfl rfl hj rfl) (hd 11 rfl) <| Ac (Ad5 Ak6 rfl (Acp hk) rfl) (hd 12 rfl) <| Ac (D5 Ai9 N5 rfl (r := ((tz x : Nat) : Int)) (Ak (by omega) (by omega))) (hd 13 rfl) <| Za rfl (hd 2 rfl) <| Ab <| An ?_
  refine ⟨_, _, (.cons rfl .nil), .i, ?_⟩
  exact rfl

theorem P8 (l : List Int) (hl : l.length < 4294967296) (hu : Av l) : SpecT Tryz.prog 31 0 tzCells [.n false .u64 l] (fun o => o = .ret (.i .i64 ((tz (vl l).toNat : Nat) : Int))) := by
  refine Ju [(0, .n false .u64 l)] rfl Tryz.func31 rfl (Zb rfl) fun Γ hTb hN hds hL hR => ?_
  have hd := B2 20 hN
  refine Zs <| Za rfl (hd 2 rfl) <| Ab <| Ae <| Zs <| Zm rfl (hd 5 rfl) <| Ac (Ar A7 rfl) (hd 6 rfl) <| Zm rfl (hd 7 rfl) <| Ab <| At ?_
  refine Ch (G := Nat) (fun i => i ≤ l.length ∧ ∀ j < i, l.getD j 0 = 0) (fun i => [(7, .i .i64 (i : Int)), (2, .u), (3, .u), (4, .u), (8, .u), (9, .u), (10, .u), (11, .u), (12, .u), (13, .u), (14, .u), (15, .u), (16, .u), (17, .u), (18, .u), (19, .u)]) (fun _ => _) (fun i => l.length - i) 0 ?_ ?_ rfl ?_
  · exact ⟨Nat.zero_le _, fun j h => absurd h (Nat.not_lt_zero _)⟩
  · exact (.cons rfl (.v9 (.v5 .nil)))
  · rintro i ⟨hi, hj⟩
    have hxi := A2 hu i
    refine Zs <| Ac (Ca rfl rfl) (hd 8 rfl) <| Ab <| Ae ?_
    refine Bh rfl (fun h1 => ?_) (fun h1 => ?_)
    · refine Aj <| Ae <| At <| Zs <| Zm rfl (hd 9 rfl) <| Ac (Cc (i := i) A7 rfl rfl (by first | rfl | omega) (by omega)) (hd 10 rfl) <| Ac (B8 Bu rfl rfl) (hd 11 rfl) <| Za rfl (hd 3 rfl) <| Za rfl (hd 4 rfl) <| Ab <| Ae <| Af ?_; refine Zm rfl (hd 12 rfl) <| Ac (Ec rfl rfl) (hd 13 rfl) <| Ab ?_
      refine Bh rfl (fun h2 => ?_) (fun h2 => ?_)
      · have hx0 : l.getD i 0 ≠ 0 := h2
        have hil : i < l.length := by omega
        have hkk := Af5 (x := (l.getD i 0).toNat) (by omega) (by omega)
        have hTz : SpecT Tryz.prog 74 0 tzCells [.i .u64 (l.getD i 0)] (fun o => o = .ret (.i .i64 ((tz (l.getD i 0).toNat : Nat) : Int))) := by have h := Af9 (l.getD i 0).toNat (by omega) (by omega); rwa [Int.toNat_of_nonneg (by omega)] at h
        refine Zs <| Zm rfl (hd 14 rfl) <| Ac (Dw rfl rfl (r := ((64 * i : Nat) : Int)) (by rw [Ak (by omega) (by omega)]; omega)) (hd 15 rfl) <| Zm rfl (hd 16 rfl) ?_
        refine Is Tryz.f74 (hTz) hL hTb rfl Tryz.func74 rfl rfl (Aa rfl Ad) (.cons .i .nil) (hd 17 rfl) ?_ (fun _ h => by simp at h)
        rintro _ ⟨⟩; refine Ac (Bd rfl rfl (r := ((64 * i + tz (l.getD i 0).toNat : Nat) : Int)) (by rw [Ak (by omega) (by omega)]; omega)) (hd 18 rfl) <| Za rfl (hd 2 rfl) <| Ab <| An ?_
        refine ⟨_, _, (.cons rfl .nil), .i, ?_⟩
        rw [Q6 hu hil hj hx0]
      · have hx0 : l.getD i 0 = 0 := Decidable.not_not.1 h2
        refine Aj <| Af <| Ac (Bd rfl rfl (r := ((i + 1 : Nat) : Int)) (by rw [Ak (by omega) (by omega)]; omega)) (hd 19 rfl) <| Zm rfl (hd 7 rfl) <| Ab ?_
        refine ⟨i + 1, ?_, ?_, rfl, Bj 26 rfl rfl ?_⟩
        · exact ⟨by omega, fun j hjj => by rcases Nat.lt_or_ge j i with h9 | h9; exact hj j h9; rw [show j = i by omega]; exact hx0⟩
        · omega
        · exact (.cons rfl (.v9 (.v5 .nil)))
    · obtain rfl : i = l.length := by omega
      refine Br <| Zs <| Za rfl (hd 2 rfl) <| Ab <| An ?_
      refine ⟨_, _, (.cons rfl .nil), .i, ?_⟩
      rw [T1 hu hj, show (Int.toNat 0) = 0 from rfl, Alr]; rfl

theorem Afc (x n : Nat) (hx : Al (x : Int) ≤ 67108864) (hn : n / 64 < (lm (x : Int)).length) : Spec Tryz.prog 33 [.n false .u64 (lm (x : Int)), .i .i64 (n : Int)] (fun o => o = .ret (.t [.n false .u64 (lm ((x / 2 ^ n : Nat) : Int)), .i .i64 0])) := by
  refine Aw [(0, .n false .u64 (lm (x : Int))), (1, .i .i64 (n : Int))] rfl Tryz.func33 rfl (Zb rfl) fun Γ hN hds hL hR => ?_
  have hd := B2 77 hN
  have hlx := Bv hx
  have uB : Av ((lm (x : Int)).drop (n / 64)) := Ln (Cu _)
  have hBl : ((lm (x : Int)).drop (n / 64)).length = (lm (x : Int)).length - n / 64 := List.length_drop
  have hs : n % 64 < 64 := Nat.mod_lt _ (by decide)
  have hTr : Spec Tryz.prog 72 [.n false .u64 (lm (x : Int))] (fun o => o = .ret (.n false .u64 (lm (x : Int)))) := by have h := Ey (lm (x : Int)) (by omega); rwa [Kl (Aeb _)] at h
  have hrv := Ur (x := x) (n := n) (by omega)
  have hlq : Al ((x / 2 ^ n : Nat) : Int) ≤ 67108864 := Nat.le_trans (B7 (by rw [Int.natAbs_natCast, Int.natAbs_natCast]; exact Nat.div_le_self _ _)) hx
  refine Zs <| Za rfl (hd 4 rfl) <| Za rfl (hd 5 rfl) <| Ab <| Ae <| Zs <| Zm rfl (hd 10 rfl) <| Ac (B0 (Ca rfl rfl) (by omega)) (hd 11 rfl) <| Zm rfl (hd 12 rfl) <| Bi 12 rfl rfl (Ay rfl) (hd 13 rfl) <| Bi 12 rfl rfl (B0 (Ce rfl rfl) (by omega)) (hd 14 rfl) ?_; refine Ac (Bg rfl rfl) (hd 15 rfl) <| Ab <| A6 rfl <| Aj <| Zs <| Zm rfl (hd 16 rfl) ?_
  refine Ag Tryz.f72 (hTr) rfl Tryz.func72 rfl rfl (Aa rfl Ad) (.cons .n .nil) (hd 17 rfl) ?_ (fun _ h => by simp at h)
  rintro _ ⟨⟩; refine Za rfl (hd 0 rfl) <| Ab <| Zs <| Zm rfl (hd 18 rfl) <| Ac (Gc rfl rfl (by decide) (r := ((n / 64 : Nat) : Int)) (by rw [show ((n : Int).tdiv 64) = ((n / 64 : Nat) : Int) from rfl, Ak (by omega) (by omega)])) (hd 19 rfl) <| Zm rfl (hd 20 rfl) <| Ac (Bk (K4 rfl rfl (by decide) rfl) (show V.i .i64 ((n : Int).tmod 64) = V.i .i64 ((n % 64 : Nat) : Int) from rfl)) (hd 21 rfl) <| Ac (D5 N5 Lm rfl (r := ((n % 64 : Nat) : Int)) (Bf (by omega) (by omega))) (hd 22 rfl) <| Za rfl (hd 6 rfl) <| Za rfl (hd 7 rfl) <| Ab <| Ae ?_; refine Zs <| Zm rfl (hd 23 rfl) <| Zm rfl (hd 24 rfl) <| Ac (Ar A7 rfl) (hd 25 rfl) <| Ac (B0 (F6 rfl rfl) (by omega)) (hd 26 rfl) <| Ab <| A6 rfl <| Aj <| Zs <| Zm rfl (hd 27 rfl) <| Ac (Ar A7 rfl) (hd 28 rfl) ?_; refine Zm rfl (hd 29 rfl) <| Ac (Bm rfl rfl (r := ((((lm (x : Int)).drop (n / 64)).length : Nat) : Int)) (by rw [Ak (by omega) (by omega)]; omega)) (hd 30 rfl) <| A1 (Gv (m := ((lm (x : Int)).drop (n / 64)).length) Lg rfl rfl rfl (by show 8 * ((lm (x : Int)).drop (n / 64)).length ≤ _; omega) (by unfold maxLen; omega) rfl) (hd 31 rfl) <| Za rfl (hd 8 rfl) <| Ab <| Ae <| Zs <| Zm rfl (hd 32 rfl) <| Ac (E7 A7 rfl rfl) (hd 33 rfl) <| Zm rfl (hd 34 rfl) <| Ab <| At ?_
  refine Ch (G := Nat) (fun i => i ≤ ((lm (x : Int)).drop (n / 64)).length) (fun i => [(34, .i .i64 (i : Int)), (9, .u), (35, .u), (36, .u), (37, .u), (38, .u), (39, .u), (40, .u), (41, .u), (42, .u), (43, .u), (44, .u), (45, .u), (46, .u), (47, .u), (48, .u), (49, .u), (50, .u), (51, .u), (52, .u), (53, .u), (54, .u), (55, .u), (56, .u), (57, .u), (58, .u), (59, .u), (60, .u), (61, .u), (62, .u), (63, .u), (64, .u), (65, .u), (66, .u), (67, .u), (68, .u), (69, .u), (70, .u), (71, .u), (72, .u)]) (fun i => [⟨71, 1, 0, true, ints .u64 (D2 (dnN ((lm (x : Int)).drop (n / 64)) (n % 64) i) ((lm (x : Int)).drop (n / 64)).length)⟩]) (fun i => ((lm (x : Int)).drop (n / 64)).length - i) 0 ?_ ?_ rfl ?_
  · exact Nat.zero_le _
  · exact (.cons rfl (.v9 (.v9 (.v9 (.v5 (.u (.u (.u (.u .nil)))))))))
  · rintro i hc1
    have hf : (D2 (dnN ((lm (x : Int)).drop (n / 64)) (n % 64) i) ((lm (x : Int)).drop (n / 64)).length).length = ((lm (x : Int)).drop (n / 64)).length := Ff (by rw [Ga]; exact hc1)
    have hx0 := A2 uB i
    have hy0 := A2 uB (i + 1)
    refine Zs <| Ac (Ca rfl rfl) (hd 35 rfl) <| Ab <| Ae ?_
    refine Bh rfl (fun h3 => ?_) (fun h3 => ?_)
    · refine Aj ?_
      refine Ja (G := Unit) (fun _ => True) (fun _ => [(9, .u), (36, .u), (37, .u), (38, .u), (39, .u), (40, .u), (41, .u), (42, .u), (43, .u), (44, .u), (45, .u), (46, .u), (47, .u), (48, .u), (49, .u), (50, .u), (51, .u), (52, .u), (53, .u), (54, .u), (55, .u), (56, .u), (57, .u), (58, .u), (59, .u), (60, .u), (61, .u), (62, .u), (63, .u), (64, .u), (65, .u), (66, .u), (67, .u), (68, .u), (69, .u), (70, .u), (71, .u)]) (fun _ => [⟨71, 1, 0, true, ints .u64 (D2 (dnN ((lm (x : Int)).drop (n / 64)) (n % 64) (i + 1)) ((lm (x : Int)).drop (n / 64)).length)⟩]) ?_ ?_
      · refine At <| Zs <| Zm rfl (hd 36 rfl) <| Za rfl (hd 9 rfl) <| Ab <| Zs <| Zm rfl (hd 37 rfl) <| Zm rfl (hd 38 rfl) <| Zm rfl (hd 39 rfl) <| Zm rfl (hd 40 rfl) <| Zm rfl (hd 41 rfl) ?_; refine Ac (Bd rfl rfl (r := ((n / 64 + i : Nat) : Int)) (by rw [Ak (by omega) (by omega)]; omega)) (hd 42 rfl) <| Ac (Cc (i := n / 64 + i) A7 rfl rfl (by first | rfl | omega) (by omega)) (hd 43 rfl) <| Ac (Bk (B8 Bu rfl rfl) (by show V.i .u64 _ = V.i .u64 (((lm (x : Int)).drop (n / 64)).getD i 0); exact congrArg (V.i .u64) getD_drop'.symm)) (hd 44 rfl) <| Zm rfl (hd 45 rfl) <| Ac (Bk (Eh rfl rfl (by omega) rfl) (show V.i .u64 _ = V.i .u64 (((lm (x : Int)).drop (n / 64)).getD i 0 / 2 ^ (n % 64)) from congrArg (V.i .u64) (Hy (by omega)))) (hd 46 rfl) <| Ac (Ck (i := i) A7 rfl rfl rfl (by first | rfl | omega) (by omega) rfl) (hd 47 rfl) <| A3 (Cf rfl rfl rfl Bu (by omega)) <| Ab <| Zs <| Zm rfl (hd 48 rfl) <| Zm rfl (hd 49 rfl) <| Ac (Bd rfl rfl (r := ((n / 64 + i : Nat) : Int)) (by rw [Ak (by omega) (by omega)]; omega)) (hd 50 rfl) ?_; refine Ac (Bd rfl rfl (r := ((n / 64 + i + 1 : Nat) : Int)) (by rw [Ak (by omega) (by omega)]; omega)) (hd 51 rfl) <| Zm rfl (hd 52 rfl) <| Ac (Ar A7 rfl) (hd 53 rfl) <| Ac (Ca rfl rfl) (hd 54 rfl) <| Ab ?_
        refine Bh rfl (fun h4 => ?_) (fun h4 => ?_)
        · refine Bo (n := 18) _ rfl B9 <| Z2 0 [2, 3, 15, 16, 17] (Am (Ay rfl) (hd 55 rfl)) rfl <| Z2 1 [2, 3, 15, 16, 17] (Am (Ay rfl) (hd 56 rfl)) rfl <| Z2 2 [3, 15, 16, 17] (Am (Ck (i := i) A7 rfl rfl rfl (by first | rfl | omega) (by omega) rfl) (hd 57 rfl)) rfl <| Z1 3 (Am (Bk (Ee Bu rfl rfl (by simp only [List.length_set]; omega)) (show V.i .u64 _ = V.i .u64 (((lm (x : Int)).drop (n / 64)).getD i 0 / 2 ^ (n % 64)) from congrArg (V.i .u64) (Wa (by omega)))) (hd 58 rfl)) rfl <| Z2 4 [9, 10, 11, 14, 15, 16, 17] (Am (Ay rfl) (hd 59 rfl)) rfl <| Z2 5 [7, 8, 9, 10, 11, 14, 15, 16, 17] (Am (Ay rfl) (hd 60 rfl)) rfl <| Z2 6 [7, 8, 9, 10, 11, 14, 15, 16, 17] (Am (Ay rfl) (hd 61 rfl)) rfl <| Z2 7 [8, 9, 10, 11, 14, 15, 16, 17] (Am (Bd rfl rfl (r := ((n / 64 + i : Nat) : Int)) (by rw [Ak (by omega) (by omega)]; omega)) (hd 62 rfl)) rfl <| Z2 8 [9, 10, 11, 14, 15, 16, 17] (Am (Bd rfl rfl (r := ((n / 64 + i + 1 : Nat) : Int)) (by rw [Ak (by omega) (by omega)]; omega)) (hd 63 rfl)) rfl <| Z2 9 [10, 11, 14, 15, 16, 17] (Am (Cc (i := n / 64 + i + 1) A7 rfl rfl (by first | rfl | omega) (by omega)) (hd 64 rfl)) rfl <| Z2 10 [11, 14, 15, 16, 17] (Am (Bk (B8 Bu rfl rfl) (by show V.i .u64 _ = V.i .u64 (((lm (x : Int)).drop (n / 64)).getD (i + 1) 0); exact congrArg (V.i .u64) (by rw [getD_drop']; rfl))) (hd 65 rfl)) rfl <| Z2 11 [14, 15, 16, 17] (Am (Bk (Gz rfl rfl (by omega) rfl) (show V.i .u64 _ = V.i .u64 (((lm (x : Int)).drop (n / 64)).getD (i + 1) 0 * 2 % 18446744073709551616) from congrArg (V.i .u64) Ak2)) (hd 66 rfl)) rfl ?_; refine Z2 12 [13, 14, 15, 16, 17] (Am (Ay rfl) (hd 67 rfl)) rfl <| Z2 13 [14, 15, 16, 17] (Am (Bm rfl rfl (r := ((63 - n % 64 : Nat) : Int)) (by rw [Bf (by omega) (by omega)]; omega)) (hd 68 rfl)) rfl <| Z1 14 (Am (Bk (Gz rfl rfl (by omega) rfl) (show V.i .u64 _ = V.i .u64 (loS (((lm (x : Int)).drop (n / 64)).getD (i + 1) 0) (64 - n % 64)) from congrArg (V.i .u64) ((G4 (by omega)).trans (Ud hs)))) (hd 69 rfl)) rfl <| Z1 15 (Am (Bk (Gd (by simp) rfl rfl rfl) (show V.i .u64 _ = V.i .u64 (dnD ((lm (x : Int)).drop (n / 64)) (n % 64) i) from congrArg (V.i .u64) (Aev (Nat.le_of_lt hs) hx0.1 hx0.2 hy0.1).1)) (hd 70 rfl)) rfl <| Z1 16 (Am (Ck (i := i) A7 rfl rfl rfl (by first | rfl | omega) (by omega) rfl) (hd 71 rfl)) rfl ?_
          refine Be 17 ?_ rfl (by kernel_rfl)
          refine Cl (Cf rfl rfl rfl Bu (by simp only [List.length_set]; omega)) rfl <| Bx (by kernel_rfl) ?_
          refine ⟨(), ?_, (by show [(⟨71, 1, 0, true, ints .u64 _⟩ : Ob)] = [⟨71, 1, 0, true, ints .u64 _⟩]; first | rw [← J9 (show ((lm (x : Int)).drop (n / 64)).length ≤ i + 1 by omega), Hd (by omega)] | rw [List.set_set, Hd (by omega)]), Bj 37 rfl rfl ?_⟩
          · trivial
          · exact (.v9 (.v9 (.v9 (.v5 (.u (.u .nil))))))
        · refine Aj ?_
          refine ⟨(), ?_, (by show [(⟨71, 1, 0, true, ints .u64 _⟩ : Ob)] = [⟨71, 1, 0, true, ints .u64 _⟩]; first | rw [← J9 (show ((lm (x : Int)).drop (n / 64)).length ≤ i + 1 by omega), Hd (by omega)] | rw [List.set_set, Hd (by omega)]), Bj 20 rfl rfl ?_⟩
          · trivial
          · exact (.v9 (.v9 (.v9 (.v5 (.u (.u .nil))))))
      · rintro _ _; refine Af <| Ac (Bd rfl rfl (r := ((i + 1 : Nat) : Int)) (by rw [Ak (by omega) (by omega)]; omega)) (hd 72 rfl) <| Zm rfl (hd 34 rfl) <| Ab ?_
        refine ⟨i + 1, ?_, ?_, rfl, Bj 80 rfl rfl ?_⟩
        · omega
        · omega
        · exact (.cons rfl (.v9 (.v9 (.v9 (.v5 (.u (.u (.u (.u .nil)))))))))
    · obtain rfl : i = ((lm (x : Int)).drop (n / 64)).length := by omega
      refine Br <| Ae <| Jm (k := .u64) (l := D2 (dnN ((lm (x : Int)).drop (n / 64)) (n % 64) ((lm (x : Int)).drop (n / 64)).length) ((lm (x : Int)).drop (n / 64)).length) (l' := dnN ((lm (x : Int)).drop (n / 64)) (n % 64) ((lm (x : Int)).drop (n / 64)).length) 8 rfl rfl (by omega) (by rw [List.drop_zero, List.take_of_length_le (by omega), Ed (Ga _ _ _)]) hL <| Af <| Zm rfl (hd 73 rfl) ?_
      refine Ag Tryz.f75 (Mr (dnN ((lm (x : Int)).drop (n / 64)) (n % 64) ((lm (x : Int)).drop (n / 64)).length) (by rw [Ga]; omega) (Wb (Nat.le_of_lt hs) uB _) (by rw [Fj, Fd (Wb (Nat.le_of_lt hs) uB _) hrv]; exact hlq)) rfl Tryz.func75 rfl rfl (Aa rfl Ad) (.cons .n .nil) (hd 74 rfl) ?_ (fun _ h => by simp at h)
      rintro _ ⟨⟩; refine Ac (Ai rfl rfl) (hd 75 rfl) <| Ac (Ai rfl rfl) (hd 76 rfl) <| Za rfl (hd 4 rfl) <| Za rfl (hd 5 rfl) <| Ab <| An ?_
      refine ⟨_, _, (.cons rfl (.cons rfl .nil)), (.t1 .n (.t1 .i .t0)), ?_⟩
      rw [Fo (Wb (Nat.le_of_lt hs) uB _) hrv]





theorem Ah0 (s : Bool) (l : List Int) (v : Int) (hl : l.length < 1099511627776) (hu : Av l) (hv : sv s l = v) : Spec Tryz.prog 125 [.a [.b s, .n false .u64 l]] (fun o => ∃ (s2 : Bool) (r : List Int) (e : Int), o = .ret (.t [.a [.b s2, .n true .u64 r], .i .i64 e]) ∧ Res (v) s2 r e) := by
  refine Aw [(0, .a [.b s, .n false .u64 l])] rfl Tryz.func125 rfl (Zb rfl) fun Γ hN hds hL hR => ?_
  have hd := B2 11 hN
  refine Zs <| A1 (Bn (id := 0) (n := 2) rfl rfl rfl (by decide) rfl) (hd 1 rfl) <| A1 (Aq (id := 1) Az (by decide) rfl (by decide) rfl) (hd 2 rfl) <| Za rfl (hd 3 rfl) <| Ab <| Ae <| Zs <| Ac (A5 By rfl rfl rfl) (hd 4 rfl) <| Ac (A9 B5 rfl rfl rfl) (hd 5 rfl) ?_
  refine Ag Tryz.f30 (Dl l hl hu) rfl Tryz.func30 rfl rfl (Aa rfl Ad) (.cons .n .nil) (hd 6 rfl) ?_ (fun _ h => by simp at h)
  rintro _ ⟨⟩; refine Ac (Ce rfl rfl) (hd 7 rfl) <| Ab ?_
  refine Bh rfl (fun h1 => ?_) (fun h1 => ?_)
  · refine Zs <| Ac (Bp (is := []) (xs := []) (pls := []) Az Hr rfl Ad rfl trivial (Cd rfl) rfl) (hd 8 rfl) <| A3 (Ah rfl rfl rfl B6 rfl rfl (Zb rfl)) <| Za rfl (hd 3 rfl) <| Ab <| An ?_
    refine ⟨_, _, (.cons (ResV.cell Bw rfl rfl rfl rfl) (.cons rfl .nil)), (.t1 (.a1 .b (.a1 (.nil (fr := true) (k := .u64)) .a0)) (.t1 .i .t0)), ?_⟩
    exact ⟨false, [], 3, rfl, Us hu hv (by omega)⟩
  · refine Aj <| Zs <| Ac (Au Bw rfl rfl rfl rfl) (hd 9 rfl) ?_
    refine Ag Tryz.f101 (Rq s l hl) rfl Tryz.func101 rfl rfl (Aa rfl Ad) (.cons (.a1 .b (.a1 .n .a0)) .nil) (hd 10 rfl) ?_ (fun _ h => by simp at h)
    rintro _ ⟨⟩; refine A3 (Ah rfl rfl rfl B6 rfl rfl (Zb rfl)) <| Za rfl (hd 3 rfl) <| Ab <| An ?_
    refine ⟨_, _, (.cons (ResV.cell Bw rfl rfl rfl rfl) (.cons rfl .nil)), (.t1 (.a1 .b (.a1 .n .a0)) (.t1 .i .t0)), ?_⟩
    exact ⟨_, _, 0, rfl, Aa7 hu hv (by omega)⟩

theorem J0 (s : Bool) (l : List Int) (e v : Int) (hRs : Aks v s l e) : Spec Tryz.prog 106 [.b s, .n false .u64 l, .i .i64 e] (fun o => ∃ (s2 : Bool) (r : List Int) (e : Int), o = .ret (.t [.a [.b s2, .n true .u64 r], .i .i64 e]) ∧ Res (v) s2 r e) := by
  refine Aw [(0, .b s), (1, .n false .u64 l), (2, .i .i64 e)] rfl Tryz.func106 rfl (Zb rfl) fun Γ hN hds hL hR => ?_
  have hd := B2 18 hN
  refine Zs <| A1 (Aq (id := 0) Az (by decide) rfl (by decide) rfl) (hd 6 rfl) <| Za rfl (hd 7 rfl) <| Ab <| Ae <| Zs <| Zm rfl (hd 8 rfl) <| Ac (Ec rfl rfl) (hd 9 rfl) <| Ab ?_
  refine Bh rfl (fun h1 => ?_) (fun h1 => ?_)
  · have hE : e = 3 ∧ 67108864 < Al v := by
      rcases hRs with ⟨h, _⟩ | h
      · omega
      · exact h
    refine Zs <| Ac (Bp (is := []) (xs := []) (pls := []) Az Hr rfl Ad rfl trivial (Cd rfl) rfl) (hd 10 rfl) <| Zm rfl (hd 11 rfl) <| A3 (Ah rfl rfl rfl B6 rfl rfl (Zb rfl)) <| Za rfl (hd 7 rfl) <| Ab <| An ?_
    refine ⟨_, _, (.cons (ResV.cell Bw rfl rfl rfl rfl) (.cons rfl .nil)), (.t1 (.a1 .b (.a1 (.nil (fr := true) (k := .u64)) .a0)) (.t1 .i .t0)), ?_⟩
    exact ⟨false, [], e, rfl, .inr ⟨hE.2, rfl, rfl, hE.1⟩⟩
  · have hE : Av l ∧ l.length < 1099511627776 ∧ sv s l = v := by
      rcases hRs with ⟨_, h⟩ | ⟨h, _⟩
      · exact h
      · omega
    refine Aj <| Zs <| Zm rfl (hd 12 rfl) <| Zm rfl (hd 13 rfl) <| Ac (Bp (is := [0, 1]) (xs := [.tmp 12, .tmp 13]) Az C0 rfl (Aa rfl (Aa rfl Ad)) rfl (by first | (simp [Ci, cellsV]; done) | (simp [Ci, cellsV, old]; done)) (Cd rfl) rfl) (hd 14 rfl) ?_
    refine Ag Tryz.f125 (Ah0 s l v hE.2.1 hE.1 hE.2.2) rfl Tryz.func125 rfl rfl (Aa rfl Ad) (.cons (.a1 .b (.a1 .n .a0)) .nil) (hd 15 rfl) ?_ (fun _ h => by simp at h)
    rintro y ⟨sf, rf, ef, hy, hf⟩; injection hy with hy; subst hy; refine Ac (Ai rfl rfl) (hd 16 rfl) <| Ac (Ai rfl rfl) (hd 17 rfl) <| A3 (Ah rfl rfl rfl B6 rfl rfl (Zb rfl)) <| Za rfl (hd 7 rfl) <| Ab <| An ?_
    refine ⟨_, _, (.cons (ResV.cell Bw rfl rfl rfl rfl) (.cons rfl .nil)), (.t1 (.a1 .b (.a1 .n .a0)) (.t1 .i .t0)), ?_⟩
    exact ⟨sf, rf, ef, rfl, hf⟩

theorem Aig (s t : Bool) (a b : List Int) (hla : a.length < 4294967296) (hlb : b.length < 4294967296) (ua : Av a) (ub : Av b) : Spec Tryz.prog 138 [.a [.b s, .n false .u64 a], .a [.b t, .n false .u64 b]] (fun o => ∃ (s2 : Bool) (r : List Int) (e : Int), o = .ret (.t [.a [.b s2, .n true .u64 r], .i .i64 e]) ∧ Res (sv s a * sv t b) s2 r e) := by
  refine Aw [(0, .a [.b s, .n false .u64 a]), (1, .a [.b t, .n false .u64 b])] rfl Tryz.func138 rfl (Zb rfl) fun Γ hN hds hL hR => ?_
  have hd := B2 26 hN
  have ha0 := A4 ua
  have hb0 := A4 ub
  refine Zs <| A1 (Bn (id := 0) (n := 2) rfl rfl rfl (by decide) rfl) (hd 2 rfl) <| A1 (Bn (id := 1) (n := 2) rfl rfl rfl (by decide) rfl) (hd 3 rfl) <| A1 (Aq (id := 2) Az (by decide) rfl (by decide) rfl) (hd 4 rfl) <| Za rfl (hd 5 rfl) <| Ab <| Zs <| Ac (A5 By rfl rfl rfl) (hd 9 rfl) <| Ac (A9 B5 rfl rfl rfl) (hd 10 rfl) <| Ac (A5 By rfl rfl rfl) (hd 11 rfl) <| Ac (A9 B5 rfl rfl rfl) (hd 12 rfl) ?_
  refine Ag Tryz.f113 (Aiy a b hla hlb ua ub) rfl Tryz.func113 rfl rfl (Aa rfl (Aa rfl Ad)) (.cons .n (.cons .n .nil)) (hd 13 rfl) ?_ (fun _ h => by simp at h)
  rintro y ⟨rp, ep, hy, hp⟩; injection hy with hy; subst hy; refine Zm rfl (hd 8 rfl) <| Ac (Ai rfl rfl) (hd 14 rfl) <| Ac (Ai rfl rfl) (hd 15 rfl) <| Za rfl (hd 6 rfl) <| Za rfl (hd 7 rfl) <| Ab <| Zs <| Ac (A5 Cx rfl rfl rfl) (hd 16 rfl) <| Ac (A9 Il rfl rfl rfl) (hd 17 rfl) <| Ac (A5 Cx rfl rfl rfl) (hd 18 rfl) <| Ac (A9 Il rfl rfl rfl) (hd 19 rfl) <| Ac (Ot Afk rfl rfl) (hd 20 rfl) ?_; refine Zm rfl (hd 21 rfl) <| Zm rfl (hd 22 rfl) ?_
  refine Ag Tryz.f106 (J0 (!(s == t)) rp ep (sv s a * sv t b) (Mx hp (Int.mul_nonneg ha0 hb0) (fun q uq hq => Age hq))) rfl Tryz.func106 rfl rfl (Aa rfl (Aa rfl (Aa rfl Ad))) (.cons .b (.cons .n (.cons .i .nil))) (hd 23 rfl) ?_ (fun _ h => by simp at h)
  rintro y ⟨sr, rr, er, hy, hr⟩; injection hy with hy; subst hy; refine Ac (Ai rfl rfl) (hd 24 rfl) <| Ac (Ai rfl rfl) (hd 25 rfl) <| A3 (Ah rfl rfl rfl B6 rfl rfl (Zb rfl)) <| Za rfl (hd 5 rfl) <| Ab <| An ?_
  refine ⟨_, _, (.cons (ResV.cell Bw rfl rfl rfl rfl) (.cons rfl .nil)), (.t1 (.a1 .b (.a1 .n .a0)) (.t1 .i .t0)), ?_⟩
  exact ⟨sr, rr, er, rfl, hr⟩

theorem Aii (s t : Bool) (a b : List Int) (hla : a.length < 4294967296) (hlb : b.length < 4294967296) (ua : Av a) (ub : Av b) : Spec Tryz.prog 139 [.a [.b s, .n false .u64 a], .a [.b t, .n false .u64 b]] (fun o => ∃ (s2 : Bool) (r : List Int) (e : Int), o = .ret (.t [.a [.b s2, .n true .u64 r], .i .i64 e]) ∧ Res (sv s a + sv t b) s2 r e) := by
  refine Aw [(0, .a [.b s, .n false .u64 a]), (1, .a [.b t, .n false .u64 b])] rfl Tryz.func139 rfl (Zb rfl) fun Γ hN hds hL hR => ?_
  have hd := B2 57 hN
  have hma := Cy a
  have hmb := Cy b
  have hcv := Hm (A8 ua) (A8 ub)
  rw [Hw, Hw] at hcv
  have ea1 := T4 (s := s) ua
  have eb1 := T4 (s := t) ub
  have ha0 := A4 (A8 ua)
  have hb0 := A4 (A8 ub)
  refine Zs <| A1 (Bn (id := 0) (n := 2) rfl rfl rfl (by decide) rfl) (hd 2 rfl) <| A1 (Bn (id := 1) (n := 2) rfl rfl rfl (by decide) rfl) (hd 3 rfl) <| A1 (Aq (id := 2) Az (by decide) rfl (by decide) rfl) (hd 4 rfl) <| Za rfl (hd 5 rfl) <| Ab <| Ae <| Bo (n := 6) _ rfl B9 <| Z2 0 [1, 3, 4, 5] (Am (Au Bw rfl rfl rfl rfl) (hd 10 rfl)) rfl <| Z2 2 [3, 4, 5] (Am (Au Bw rfl rfl rfl rfl) (hd 12 rfl)) rfl ?_
  refine Be 1 ?_ rfl (by kernel_rfl)
  refine Ax Tryz.f101 (Rq s a (by omega)) rfl Tryz.func101 rfl rfl (Aa rfl Ad) (.cons (.a1 .b (.a1 .n .a0)) .nil) (hd 11 rfl) ?_ (fun _ h => by simp at h)
  rintro y hy; injection hy with hy; subst hy
  refine Be 3 ?_ rfl (by kernel_rfl)
  refine Ax Tryz.f101 (Rq t b (by omega)) rfl Tryz.func101 rfl rfl (Aa rfl Ad) (.cons (.a1 .b (.a1 .n .a0)) .nil) (hd 13 rfl) ?_ (fun _ h => by simp at h)
  rintro y hy; injection hy with hy; subst hy
  refine Be 4 ?_ rfl (by kernel_rfl)
  refine Cl (Ah rfl rfl rfl B6 rfl rfl (Zb rfl)) rfl ?_
  refine Be 5 ?_ rfl (by kernel_rfl)
  refine Cl (Ah rfl rfl rfl B6 rfl rfl (Zb rfl)) rfl <| Bx (by kernel_rfl) <| Ae <| Zs <| Ac (A5 Cx rfl rfl rfl) (hd 14 rfl) <| Ac (A9 Il rfl rfl rfl) (hd 15 rfl) <| Ac (A5 Cx rfl rfl rfl) (hd 16 rfl) <| Ac (A9 Il rfl rfl rfl) (hd 17 rfl) <| Ac (Ahm Afk rfl rfl) (hd 18 rfl) <| Ab ?_
  refine F7 rfl (fun h1 => ?_) (fun h1 => ?_)
  · refine Zs <| Ac (A5 By rfl rfl rfl) (hd 20 rfl) <| Ac (A9 B5 rfl rfl rfl) (hd 21 rfl) <| Ac (A5 By rfl rfl rfl) (hd 22 rfl) <| Ac (A9 B5 rfl rfl rfl) (hd 23 rfl) ?_
    refine Ag Tryz.f104 (Ai6 (trm a) (trm b) (by omega) (by omega) (A8 ua) (A8 ub)) rfl Tryz.func104 rfl rfl (Aa rfl (Aa rfl Ad)) (.cons .n (.cons .n .nil)) (hd 24 rfl) ?_ (fun _ h => by simp at h)
    rintro y ⟨ra, ea, hy, ha⟩; injection hy with hy; subst hy; refine Zm rfl (hd 19 rfl) <| Ac (Ai rfl rfl) (hd 25 rfl) <| Ac (Ai rfl rfl) (hd 26 rfl) <| Za rfl (hd 6 rfl) <| Za rfl (hd 7 rfl) <| Ab <| Zs <| Ac (A5 Cx rfl rfl rfl) (hd 27 rfl) <| Ac (A9 Il rfl rfl rfl) (hd 28 rfl) <| Zm rfl (hd 29 rfl) <| Zm rfl (hd 30 rfl) ?_
    refine Ag Tryz.f106 (J0 (s && decide (0 < ((trm a).length : Int))) ra ea (sv s a + sv t b) (Mx ha (by omega) (fun q uq hq => Ae8 (by assumption) hq ea1 eb1))) rfl Tryz.func106 rfl rfl (Aa rfl (Aa rfl (Aa rfl Ad))) (.cons .b (.cons .n (.cons .i .nil))) (hd 31 rfl) ?_ (fun _ h => by simp at h)
    rintro y ⟨sr, rr, er, hy, hr⟩; injection hy with hy; subst hy; refine Ac (Ai rfl rfl) (hd 32 rfl) <| Ac (Ai rfl rfl) (hd 33 rfl) <| A3 (Ah rfl rfl rfl B6 rfl rfl (Zb rfl)) <| Za rfl (hd 5 rfl) <| Ab <| An ?_
    refine ⟨_, _, (.cons (ResV.cell Bw rfl rfl rfl rfl) (.cons rfl .nil)), (.t1 (.a1 .b (.a1 .n .a0)) (.t1 .i .t0)), ?_⟩
    exact ⟨sr, rr, er, rfl, hr⟩
  · refine Aj <| Ae <| Zs <| Ac (A5 By rfl rfl rfl) (hd 34 rfl) <| Ac (A9 B5 rfl rfl rfl) (hd 35 rfl) <| Ac (A5 By rfl rfl rfl) (hd 36 rfl) <| Ac (A9 B5 rfl rfl rfl) (hd 37 rfl) ?_
    refine Ag Tryz.f89 (Fu (trm a) (trm b) (by omega) (by omega)) rfl Tryz.func89 rfl rfl (Aa rfl (Aa rfl Ad)) (.cons .n (.cons .n .nil)) (hd 38 rfl) ?_ (fun _ h => by simp at h)
    rintro _ ⟨⟩; refine Ac (Ca rfl rfl) (hd 39 rfl) <| Ab ?_
    refine Bh rfl (fun h2 => ?_) (fun h2 => ?_)
    · rw [Hw, Hw] at h2
      refine Af <| Ac (Au Bw rfl rfl rfl rfl) (hd 40 rfl) <| Ac (Au Bw rfl rfl rfl rfl) (hd 41 rfl) <| A3 (Ah rfl rfl rfl B6 rfl rfl (Zb rfl)) <| A3 (Ah rfl rfl rfl B6 rfl rfl (Zb rfl)) <| Ab <| Zs <| Ac (A5 By rfl rfl rfl) (hd 43 rfl) <| Ac (A9 B5 rfl rfl rfl) (hd 44 rfl) <| Ac (A5 By rfl rfl rfl) (hd 45 rfl) <| Ac (A9 B5 rfl rfl rfl) (hd 46 rfl) ?_
      refine Ag Tryz.f105 (Ab7 (trm b) (trm a) (by omega) (by omega) (A8 ub) (A8 ua) (by rcases hcv with ⟨c, v⟩ | ⟨c, v⟩ | ⟨c, v⟩ <;> omega)) rfl Tryz.func105 rfl rfl (Aa rfl (Aa rfl Ad)) (.cons .n (.cons .n .nil)) (hd 47 rfl) ?_ (fun _ h => by simp at h)
      rintro y ⟨ra, ea, hy, ha⟩; injection hy with hy; subst hy; refine Zm rfl (hd 42 rfl) <| Ac (Ai rfl rfl) (hd 48 rfl) <| Ac (Ai rfl rfl) (hd 49 rfl) <| Za rfl (hd 8 rfl) <| Za rfl (hd 9 rfl) <| Ab <| Zs <| Ac (A5 Cx rfl rfl rfl) (hd 50 rfl) <| Ac (A9 Il rfl rfl rfl) (hd 51 rfl) <| Zm rfl (hd 52 rfl) <| Zm rfl (hd 53 rfl) ?_
      refine Ag Tryz.f106 (J0 (t && decide (0 < ((trm b).length : Int))) ra ea (sv s a + sv t b) (Mx ha (by rcases hcv with ⟨c, v⟩ | ⟨c, v⟩ | ⟨c, v⟩ <;> omega) (fun q uq hq => (T6 (by rw [Bool.beq_comm]; assumption) hq eb1 ea1).trans (Int.add_comm _ _)))) rfl Tryz.func106 rfl rfl (Aa rfl (Aa rfl (Aa rfl Ad))) (.cons .b (.cons .n (.cons .i .nil))) (hd 54 rfl) ?_ (fun _ h => by simp at h)
      rintro y ⟨sr, rr, er, hy, hr⟩; injection hy with hy; subst hy; refine Ac (Ai rfl rfl) (hd 55 rfl) <| Ac (Ai rfl rfl) (hd 56 rfl) <| A3 (Ah rfl rfl rfl B6 rfl rfl (Zb rfl)) <| Za rfl (hd 5 rfl) <| Ab <| An ?_
      refine ⟨_, _, (.cons (ResV.cell Bw rfl rfl rfl rfl) (.cons rfl .nil)), (.t1 (.a1 .b (.a1 .n .a0)) (.t1 .i .t0)), ?_⟩
      exact ⟨sr, rr, er, rfl, hr⟩
    · rw [Hw, Hw] at h2
      refine Aj <| Zs <| Ac (A5 By rfl rfl rfl) (hd 43 rfl) <| Ac (A9 B5 rfl rfl rfl) (hd 44 rfl) <| Ac (A5 By rfl rfl rfl) (hd 45 rfl) <| Ac (A9 B5 rfl rfl rfl) (hd 46 rfl) ?_
      refine Ag Tryz.f105 (Ab7 (trm a) (trm b) (by omega) (by omega) (A8 ua) (A8 ub) (by rcases hcv with ⟨c, v⟩ | ⟨c, v⟩ | ⟨c, v⟩ <;> omega)) rfl Tryz.func105 rfl rfl (Aa rfl (Aa rfl Ad)) (.cons .n (.cons .n .nil)) (hd 47 rfl) ?_ (fun _ h => by simp at h)
      rintro y ⟨ra, ea, hy, ha⟩; injection hy with hy; subst hy; refine Zm rfl (hd 42 rfl) <| Ac (Ai rfl rfl) (hd 48 rfl) <| Ac (Ai rfl rfl) (hd 49 rfl) <| Za rfl (hd 8 rfl) <| Za rfl (hd 9 rfl) <| Ab <| Zs <| Ac (A5 Cx rfl rfl rfl) (hd 50 rfl) <| Ac (A9 Il rfl rfl rfl) (hd 51 rfl) <| Zm rfl (hd 52 rfl) <| Zm rfl (hd 53 rfl) ?_
      refine Ag Tryz.f106 (J0 (s && decide (0 < ((trm a).length : Int))) ra ea (sv s a + sv t b) (Mx ha (by rcases hcv with ⟨c, v⟩ | ⟨c, v⟩ | ⟨c, v⟩ <;> omega) (fun q uq hq => T6 (by assumption) hq ea1 eb1))) rfl Tryz.func106 rfl rfl (Aa rfl (Aa rfl (Aa rfl Ad))) (.cons .b (.cons .n (.cons .i .nil))) (hd 54 rfl) ?_ (fun _ h => by simp at h)
      rintro y ⟨sr, rr, er, hy, hr⟩; injection hy with hy; subst hy; refine Ac (Ai rfl rfl) (hd 55 rfl) <| Ac (Ai rfl rfl) (hd 56 rfl) <| A3 (Ah rfl rfl rfl B6 rfl rfl (Zb rfl)) <| Za rfl (hd 5 rfl) <| Ab <| An ?_
      refine ⟨_, _, (.cons (ResV.cell Bw rfl rfl rfl rfl) (.cons rfl .nil)), (.t1 (.a1 .b (.a1 .n .a0)) (.t1 .i .t0)), ?_⟩
      exact ⟨sr, rr, er, rfl, hr⟩


theorem Amf  : Spec Tryz.prog 92 [.i .i64 0] (fun o => o = .ret (.a [.b false, .n true .u64 []])) := by
  refine Aw [(0, .i .i64 0)] rfl Tryz.func92 rfl (Zb rfl) fun Γ hN hds hL hR => ?_
  have hd := B2 14 hN
  have rF : Spec Tryz.prog 35 [.i .u64 0] (fun o => o = .ret (.n true .u64 [])) := by have h := Gn 0; rwa [if_pos rfl] at h
  refine Zs <| A1 (Aq (id := 0) Az (by decide) rfl (by decide) rfl) (hd 2 rfl) <| Ab <| Ae <| Zs <| Zm rfl (hd 3 rfl) <| Ac (B0 (Ca rfl rfl) (by decide)) (hd 4 rfl) <| Ab <| A6 rfl <| Aj <| Ae ?_; refine Af <| Zm rfl (hd 10 rfl) <| Ac (D5 N5 Li rfl (r := 0) rfl) (hd 11 rfl) ?_
  refine Ag Tryz.f35 (rF) rfl Tryz.func35 rfl rfl (Aa rfl Ad) (.cons .i .nil) (hd 12 rfl) ?_ (fun _ h => by simp at h)
  rintro _ ⟨⟩; refine Ac (Bp (is := [1]) (xs := [.tmp 12]) Az G8 rfl (Aa rfl Ad) rfl (by first | (simp [Ci, cellsV]; done) | (simp [Ci, cellsV, old]; done)) (Cd rfl) rfl) (hd 13 rfl) <| A3 (Ah rfl rfl rfl B6 rfl rfl (Zb rfl)) <| Ab <| An ?_
  refine ⟨_, _, (.cons (ResV.cell Bw rfl rfl rfl rfl) .nil), (.a1 .b (.a1 .n .a0)), ?_⟩
  exact rfl

theorem Ame (v : Int) (h : inI v) : Spec Tryz.prog 92 [.i .i64 v] (fun o => o = .ret (.a [.b (decide (v < 0)), .n true .u64 (lm v)])) := by
  have e := Aj4 h
  obtain ⟨h1, h2⟩ := h
  rw [e]
  unfold fl
  rcases Int.lt_trichotomy v 0 with hv | hv | hv
  · rw [decide_eq_true hv, if_neg (by omega), show ((v.natAbs : Nat) : Int) = -v by omega]
    exact Aiw v hv h1
  · subst hv
    exact Amf
  · rw [decide_eq_false (by omega), if_neg (by omega), show ((v.natAbs : Nat) : Int) = v by omega]
    exact Aiv v hv h2


theorem Lk (v w : Int) (hv : Al v ≤ 67108864) (hw : Al w ≤ 67108864) (h0 : w ≠ 0) : Spec Tryz.prog 71 [.n false .u64 (lm v), .n false .u64 (lm w)] (fun o => o = .ret (.t [.n false .u64 (lm (qn v w)), .i .i64 0])) := by
  refine Aw [(0, .n false .u64 (lm v)), (1, .n false .u64 (lm w))] rfl Tryz.func71 rfl (Zb rfl) fun Γ hN hds hL hR => ?_
  have hd := B2 25 hN
  have hlv := Bv hv
  have hlw := Bv hw
  have hle := B7 (v := qn v w) (w := v) Uy
  have hlq := Bv (v := qn v w) (by omega)
  have hne := Ow h0
  refine Zs <| Za rfl (hd 4 rfl) <| Za rfl (hd 5 rfl) <| Ab <| Zs <| Zm rfl (hd 8 rfl) ?_
  refine Ag Tryz.f66 (Iy v (by omega)) rfl Tryz.func66 rfl rfl (Aa rfl Ad) (.cons .n .nil) (hd 9 rfl) ?_ (fun _ h => by simp at h)
  rintro _ ⟨⟩; refine Zm rfl (hd 10 rfl) ?_
  refine Ag Tryz.f66 (Iy w (by omega)) rfl Tryz.func66 rfl rfl (Aa rfl Ad) (.cons .n .nil) (hd 11 rfl) ?_ (fun _ h => by simp at h)
  rintro _ ⟨⟩; refine Za rfl (hd 0 rfl) <| Za rfl (hd 1 rfl) <| Ab <| Ae <| Zs <| Zm rfl (hd 12 rfl) <| Ac (Ar A7 rfl) (hd 13 rfl) <| Ac (B0 (Cq rfl rfl) (fun h => hne (List.eq_nil_of_length_eq_zero (by omega)))) (hd 14 rfl) <| Ab <| A6 rfl <| Aj <| Ae ?_; refine Af <| Zm rfl (hd 16 rfl) <| Zm rfl (hd 17 rfl) ?_
  refine Ag Tryz.f107 (Hl v w (by omega) (by omega) h0) rfl Tryz.func107 rfl rfl (Aa rfl (Aa rfl Ad)) (.cons .n (.cons .n .nil)) (hd 18 rfl) ?_ (fun _ h => by simp at h)
  rintro _ ⟨⟩; refine Zm rfl (hd 15 rfl) <| Ac (Ai rfl rfl) (hd 19 rfl) <| Ac (Ai rfl rfl) (hd 20 rfl) <| Za rfl (hd 6 rfl) <| Za rfl (hd 7 rfl) <| Ab <| Ae <| Zs <| Zm rfl (hd 21 rfl) ?_
  refine Ag Tryz.f30 (Dd (qn v w) (by omega)) rfl Tryz.func30 rfl rfl (Aa rfl Ad) (.cons .n .nil) (hd 22 rfl) ?_ (fun _ h => by simp at h)
  rintro _ ⟨⟩; refine Ac (B0 (Ce rfl rfl) (by omega)) (hd 23 rfl) <| Ab <| A6 rfl <| Aj <| Zs <| Zm rfl (hd 24 rfl) <| Za rfl (hd 4 rfl) <| Za rfl (hd 5 rfl) <| Ab <| An ?_
  refine ⟨_, _, (.cons rfl (.cons rfl .nil)), (.t1 .n (.t1 .i .t0)), ?_⟩
  exact rfl



theorem Ag7 (b K : Nat) (hlb : 2 ≤ b) (hb2 : b ≤ 36) (hK : ∀ k, k < K → Al ((b ^ 2 ^ k : Nat) : Int) ≤ 67108864) (hK2 : K ≤ 40) (l : List Int) (n : Nat) (hl : l.length ≤ 1048576) (hu : Av l) (hx : (vl l).toNat < b ^ 2 ^ 0) (hn : 0 ≤ n) (hjK : 0 ≤ K) : SpecM Tryz.prog 133 [.n false .u64 l, .i .i64 (((0 : Nat) : Int) - 1), .q [.i .i64 (b : Int)], .q [.l true 1 (pwR b K)], .q [cyc 133 [.q [.i .i64 (b : Int)], .q [.l true 1 (pwR b K)]] [] n]] [] (fun o G => ∃ ver, o = .ret (.o 0 ver 0 (hdg b (2 ^ 0) (vl l).toNat).length) ∧ G = [⟨3, 1, ver, true, ints .i64 (hdg b (2 ^ 0) (vl l).toNat)⟩]) := by
  refine Ei [(0, .n false .u64 l), (1, .i .i64 (((0 : Nat) : Int) - 1)), (2, .q [.i .i64 (b : Int)]), (3, .q [.l true 1 (pwR b K)]), (4, .q [cyc 133 [.q [.i .i64 (b : Int)], .q [.l true 1 (pwR b K)]] [] n])] rfl Tryz.func133 rfl (Zb rfl) fun Γ hN hds hL hR => ?_
  have hd := B2 45 hN
  have hj40 : 2 ^ 0 ≤ 2 ^ 40 := Kk (by omega)
  refine Zs <| Za rfl (hd 7 rfl) <| Ab <| Ae <| Zs <| Zm rfl (hd 11 rfl) <| Ac (E6 (Ca rfl rfl) (by omega)) (hd 12 rfl) <| Zm rfl (hd 13 rfl) <| Bz 13 rfl rfl rfl (hd 14 rfl) <| Bz 13 rfl rfl rfl (hd 15 rfl) <| Bz 13 rfl rfl rfl (hd 16 rfl) ?_; refine Ac (Bt rfl rfl) (hd 17 rfl) <| Ab <| Cw rfl <| Ae <| Bo (n := 7) _ rfl B9 <| Z1 0 (Am (Ay rfl) (hd 18 rfl)) rfl <| Z1 1 (Am (B8 S2 rfl rfl) (hd 19 rfl)) rfl <| Z2 2 [3, 4, 5, 6] (Am (Ay rfl) (hd 20 rfl)) rfl <| Z2 3 [4, 5, 6] (Am (Bd rfl rfl (r := (0 : Int)) (by rw [Ak (by omega) (by omega)]; omega)) (hd 21 rfl)) rfl <| Z1 4 (Am (Bk (Gz rfl rfl (by omega) rfl) (show V.i .i64 _ = V.i .i64 ((2 ^ 0 : Nat) : Int) from rfl)) (hd 22 rfl)) rfl ?_
  refine Be 5 ?_ rfl (by kernel_rfl)
  refine Eu Tryz.f131 (Nj l b (2 ^ 0) hl hu hlb hb2 (by omega)) (fun o G ⟨_, h⟩ => h ▸ Ao Bc A0) rfl Tryz.func131 rfl rfl (Aa rfl (Aa rfl (Aa rfl Ad))) (.cons .n (.cons .i (.cons .i .nil))) (hd 23 rfl) ?_ (fun _ _ h => by simp at h)
  rintro y G ⟨hy, rfl⟩; injection hy with hy; subst hy
  show JA _ _ _ _ _ ((23, .o 0 0 0 (hdg b (2 ^ 0) (vl l).toNat).length) :: _) _ _
  refine Z1 6 (Am (Cm rfl) (hd 7 rfl)) rfl <| Bx (by kernel_rfl) <| An ?_
  refine ⟨[0], _, (.o 0 0 0 (hdg b (2 ^ 0) (vl l).toNat).length), (.cons rfl .nil), rfl, rfl, (by decide), (by first | exact Ao Bc A0 | exact Ao (by show List.all (ints _ _ ++ ints _ _) _ = true; rw [En]; exact Bc) A0), ?_⟩
  exact ⟨0, rfl, rfl⟩

theorem Ag6 (b K j : Nat) (hlb : 2 ≤ b) (hb2 : b ≤ 36) (hK : ∀ k, k < K → Al ((b ^ 2 ^ k : Nat) : Int) ≤ 67108864) (hK2 : K ≤ 40) (ih : ∀ (l : List Int) (n : Nat) (hl : l.length ≤ 1048576) (hu : Av l) (hx : (vl l).toNat < b ^ 2 ^ j) (hn : j ≤ n) (hjK : j ≤ K), SpecM Tryz.prog 133 [.n false .u64 l, .i .i64 (((j : Nat) : Int) - 1), .q [.i .i64 (b : Int)], .q [.l true 1 (pwR b K)], .q [cyc 133 [.q [.i .i64 (b : Int)], .q [.l true 1 (pwR b K)]] [] n]] [] (fun o G => o = .ret (.o 0 0 0 (hdg b (2 ^ j) (vl l).toNat).length) ∧ G = [⟨3, 1, 0, true, ints .i64 (hdg b (2 ^ j) (vl l).toNat)⟩])) (l : List Int) (n : Nat) (hl : l.length ≤ 1048576) (hu : Av l) (hx : (vl l).toNat < b ^ 2 ^ (j + 1)) (hn : (j + 1) ≤ n) (hjK : (j + 1) ≤ K) : SpecM Tryz.prog 133 [.n false .u64 l, .i .i64 ((((j + 1) : Nat) : Int) - 1), .q [.i .i64 (b : Int)], .q [.l true 1 (pwR b K)], .q [cyc 133 [.q [.i .i64 (b : Int)], .q [.l true 1 (pwR b K)]] [] n]] [] (fun o G => ∃ ver, o = .ret (.o 0 ver 0 (hdg b (2 ^ (j + 1)) (vl l).toNat).length) ∧ G = [⟨3, 1, ver, true, ints .i64 (hdg b (2 ^ (j + 1)) (vl l).toNat)⟩]) := by
  refine Ei [(0, .n false .u64 l), (1, .i .i64 ((((j + 1) : Nat) : Int) - 1)), (2, .q [.i .i64 (b : Int)]), (3, .q [.l true 1 (pwR b K)]), (4, .q [cyc 133 [.q [.i .i64 (b : Int)], .q [.l true 1 (pwR b K)]] [] n])] rfl Tryz.func133 rfl (Zb rfl) fun Γ hN hds hL hR => ?_
  have hd := B2 45 hN
  have hj40 : 2 ^ (j + 1) ≤ 2 ^ 40 := Kk (by omega)
  obtain ⟨n, rfl⟩ : ∃ m, n = m + 1 := ⟨n - 1, by omega⟩
  have hp0 := Aba (b := b) (k := j) hlb
  have hxv := Abh hu
  have hv : Al (vl l) ≤ 67108864 := by have := H5 (s := false) hu; have e : sv false l = vl l := rfl; rw [e] at this; omega
  have hpw : ((b ^ 2 ^ j : Nat) : Int) ≠ 0 := by omega
  have hQn := Adh (p := b ^ 2 ^ j) hxv.symm
  have hRn := Ac9 (p := b ^ 2 ^ j) hxv.symm
  have hQl := Bv (Nat.le_trans (B7 (Uy (v := vl l) (w := ((b ^ 2 ^ j : Nat) : Int)))) hv)
  have hRl := Bv (Nat.le_trans (B7 (Oe (v := vl l) hpw).1) (hK j (by omega)))
  have hQx := Abc hx
  have hRx := Abb (j := j) (x := (vl l).toNat) hlb
  have hlQ : (hdg b (2 ^ j) (vl (lm (qn (vl l) ((b ^ 2 ^ j : Nat) : Int)))).toNat).length ≤ 1099511627776 := by rw [L6, hQn]; have h1 := F1 hlb _ _ hQx; have h2 : 2 ^ j ≤ 2 ^ 40 := Kk (by omega); omega
  have hlR : (hdg b (2 ^ j) (vl (lm (rn (vl l) ((b ^ 2 ^ j : Nat) : Int)))).toNat).length ≤ 1099511627776 := by rw [L6, hRn]; have h1 := F1 hlb _ _ hRx; have h2 : 2 ^ j ≤ 2 ^ 40 := Kk (by omega); omega
  refine Zs <| Za rfl (hd 7 rfl) <| Ab <| Ae <| Zs <| Zm rfl (hd 11 rfl) <| Ac (B0 (Ca rfl rfl) (by omega)) (hd 12 rfl) <| Zm rfl (hd 13 rfl) <| Bi 13 rfl rfl (Ay rfl) (hd 14 rfl) ?_
  refine Ek Tryz.f30 13 rfl rfl (Dl l (by omega) hu) rfl Tryz.func30 rfl rfl (Aa rfl Ad) (.cons .n .nil) (hd 15 rfl) ?_ (fun _ h => by simp at h)
  rintro _ ⟨⟩; refine Bi 13 rfl rfl (Jq rfl rfl) (hd 16 rfl) <| Ac (Bg rfl rfl) (hd 17 rfl) <| Ab ?_
  refine Bh rfl (fun h1 => ?_) (fun h1 => ?_)
  · refine Ae <| Bo (n := 7) _ rfl B9 <| Z1 0 (Am (Ay rfl) (hd 18 rfl)) rfl <| Z1 1 (Am (B8 S2 rfl rfl) (hd 19 rfl)) rfl <| Z2 2 [3, 4, 5, 6] (Am (Ay rfl) (hd 20 rfl)) rfl <| Z2 3 [4, 5, 6] (Am (Bd rfl rfl (r := (((j + 1 : Nat) : Int) : Int)) (by rw [Ak (by omega) (by omega)]; omega)) (hd 21 rfl)) rfl <| Z1 4 (Am (Bk (Gz rfl rfl (by omega) rfl) (show V.i .i64 _ = V.i .i64 ((2 ^ (j + 1) : Nat) : Int) by rw [Int.one_mul, Int.toNat_natCast, Nat.min_eq_left (by have h : IntKind.i64.bits = 64 := rfl; omega), show (2 : Int) ^ (j + 1) = ((2 ^ (j + 1) : Nat) : Int) by simp]; generalize 2 ^ (j + 1) = q at *; exact congrArg (V.i .i64) (Ak (by omega) (by omega)))) (hd 22 rfl)) rfl ?_
    refine Be 5 ?_ rfl (by kernel_rfl)
    refine Eu Tryz.f131 (Nj l b (2 ^ (j + 1)) hl hu hlb hb2 (by omega)) (fun o G ⟨_, h⟩ => h ▸ Ao Bc A0) rfl Tryz.func131 rfl rfl (Aa rfl (Aa rfl (Aa rfl Ad))) (.cons .n (.cons .i (.cons .i .nil))) (hd 23 rfl) ?_ (fun _ _ h => by simp at h)
    rintro y G ⟨hy, rfl⟩; injection hy with hy; subst hy
    show JA _ _ _ _ _ ((23, .o 0 0 0 (hdg b (2 ^ (j + 1)) (vl l).toNat).length) :: _) _ _
    refine Z1 6 (Am (Cm rfl) (hd 7 rfl)) rfl <| Bx (by kernel_rfl) <| An ?_
    refine ⟨[0], _, (.o 0 0 0 (hdg b (2 ^ (j + 1)) (vl l).toNat).length), (.cons rfl .nil), rfl, rfl, (by decide), (by first | exact Ao Bc A0 | exact Ao (by show List.all (ints _ _ ++ ints _ _) _ = true; rw [En]; exact Bc) A0), ?_⟩
    exact ⟨0, rfl, rfl⟩
  · refine Aj <| Zs <| Zm rfl (hd 25 rfl) <| Ac (B8 Ky rfl rfl) (hd 26 rfl) <| Zm rfl (hd 27 rfl) <| Ac (Ov (i := j) (row := [pwV b j]) Ra rfl rfl (by omega) (Aj1 (by omega))) (hd 28 rfl) <| Ac (B8 B5 rfl rfl) (hd 29 rfl) ?_
    refine Ag Tryz.f102 (Ai3 l ((b ^ 2 ^ j : Nat) : Int) hl hu (hK j (by omega)) hpw) rfl Tryz.func102 rfl rfl (Aa rfl (Aa rfl Ad)) (.cons .n (.cons .n .nil)) (hd 30 rfl) ?_ (fun _ h => by simp at h)
    rintro _ ⟨⟩; refine Zm rfl (hd 24 rfl) <| Ac (Ai rfl rfl) (hd 31 rfl) <| Ac (Ai rfl rfl) (hd 32 rfl) <| Ac (Ai rfl rfl) (hd 33 rfl) <| Za rfl (hd 8 rfl) <| Za rfl (hd 9 rfl) <| Za rfl (hd 10 rfl) <| Ab <| Ae <| Bo (n := 12) _ rfl B9 <| Z2 0 [4, 9, 10, 11] (Am (P9 P6 rfl rfl) (hd 34 rfl)) rfl <| Z2 1 [4, 9, 10, 11] (Am (Ay rfl) (hd 35 rfl)) rfl <| Z2 2 [3, 4, 9, 10, 11] (Am (Ay rfl) (hd 36 rfl)) rfl ?_; refine Z2 3 [4, 9, 10, 11] (Am (Bk (Bm rfl rfl (Ak (by omega) (by omega))) (show V.i .i64 _ = V.i .i64 ((j : Int) - 1) by congr 1; omega)) (hd 37 rfl)) rfl <| Z2 5 [9, 10, 11] (Am (P9 P6 rfl rfl) (hd 39 rfl)) rfl <| Z2 6 [9, 10, 11] (Am (Ay rfl) (hd 40 rfl)) rfl <| Z2 7 [8, 9, 10, 11] (Am (Ay rfl) (hd 41 rfl)) rfl <| Z2 8 [9, 10, 11] (Am (Bk (Bm rfl rfl (Ak (by omega) (by omega))) (show V.i .i64 _ = V.i .i64 ((j : Int) - 1) by congr 1; omega)) (hd 42 rfl)) rfl ?_
    refine Be 4 ?_ rfl (by kernel_rfl)
    refine O1 Tryz.f133 (ih (lm (qn (vl l) ((b ^ 2 ^ j : Nat) : Int))) n hQl (Cu _) (by rw [hQn]; exact hQx) (by omega) (by omega)) (fun o G ⟨_, h⟩ => h ▸ Ao Bc A0) rfl Tryz.func133 rfl rfl (Aa rfl (Aa rfl Ad)) (.cons .n (.cons .i (.cons .q (.cons .q (.cons .q .nil))))) (hd 38 rfl) ?_ (fun _ _ h => by simp at h)
    rintro y G ⟨hy, rfl⟩; injection hy with hy; subst hy
    show JA _ _ _ _ _ ((38, .o 0 0 0 (hdg b (2 ^ j) (vl (lm (qn (vl l) ((b ^ 2 ^ j : Nat) : Int)))).toNat).length) :: _) _ _
    refine Be 9 ?_ rfl (by kernel_rfl)
    refine O1 Tryz.f133 (ih (lm (rn (vl l) ((b ^ 2 ^ j : Nat) : Int))) n hRl (Cu _) (by rw [hRn]; exact hRx) (by omega) (by omega)) (fun o G ⟨_, h⟩ => h ▸ Ao Bc A0) rfl Tryz.func133 rfl rfl (Aa rfl (Aa rfl Ad)) (.cons .n (.cons .i (.cons .q (.cons .q (.cons .q .nil))))) (hd 43 rfl) ?_ (fun _ _ h => by simp at h)
    rintro y G ⟨hy, rfl⟩; injection hy with hy; subst hy
    show JA _ _ _ _ _ ((43, .o 1 0 0 (hdg b (2 ^ j) (vl (lm (rn (vl l) ((b ^ 2 ^ j : Nat) : Int)))).toNat).length) :: _) _ _
    refine Be 10 ?_ rfl (by kernel_rfl)
    refine Aht Lb rfl rfl (by rw [C5, Nat.mul_one]) rfl (Pq rfl (by rw [C5, Nat.mul_one]) Y6) (by show ((hdg b (2 ^ j) (vl (lm (qn (vl l) ((b ^ 2 ^ j : Nat) : Int)))).toNat).length + (hdg b (2 ^ j) (vl (lm (rn (vl l) ((b ^ 2 ^ j : Nat) : Int)))).toNat).length) * 8 ≤ _; omega) (by show (hdg b (2 ^ j) (vl (lm (qn (vl l) ((b ^ 2 ^ j : Nat) : Int)))).toNat).length + (hdg b (2 ^ j) (vl (lm (rn (vl l) ((b ^ 2 ^ j : Nat) : Int)))).toNat).length ≤ 9223372036854775807; omega) (hd 44 rfl) rfl <| Z1 11 (Am (Cm rfl) (hd 7 rfl)) rfl <| Bx (by kernel_rfl) <| An ?_
    refine ⟨[0], _, (.o 0 1 0 ((hdg b (2 ^ j) (vl (lm (qn (vl l) ((b ^ 2 ^ j : Nat) : Int)))).toNat).length + (hdg b (2 ^ j) (vl (lm (rn (vl l) ((b ^ 2 ^ j : Nat) : Int)))).toNat).length)), (.cons rfl .nil), rfl, rfl, (by decide), (by first | exact Ao Bc A0 | exact Ao (by show List.all (ints _ _ ++ ints _ _) _ = true; rw [En]; exact Bc) A0), ?_⟩
    exact ⟨1, by show Out.ret (V.o _ _ _ ((hdg b (2 ^ j) (vl (lm (qn (vl l) ((b ^ 2 ^ j : Nat) : Int)))).toNat).length + (hdg b (2 ^ j) (vl (lm (rn (vl l) ((b ^ 2 ^ j : Nat) : Int)))).toNat).length)) = _; rw [← List.length_append, hQn, hRn, Oj hlb hx], by show [(⟨3, 1, 1, true, ints .i64 (hdg b (2 ^ j) (vl (lm (qn (vl l) ((b ^ 2 ^ j : Nat) : Int)))).toNat) ++ ints .i64 (hdg b (2 ^ j) (vl (lm (rn (vl l) ((b ^ 2 ^ j : Nat) : Int)))).toNat)⟩ : Ob)] = [⟨3, 1, 1, true, ints .i64 (hdg b (2 ^ (j + 1)) (vl l).toNat)⟩]; rw [En, hQn, hRn, Oj hlb hx]⟩

theorem Abd (b K : Nat) (hlb : 2 ≤ b) (hb2 : b ≤ 36) (hK : ∀ k, k < K → Al ((b ^ 2 ^ k : Nat) : Int) ≤ 67108864) (hK2 : K ≤ 40) : ∀ (j : Nat) (l : List Int) (n : Nat) (hl : l.length ≤ 1048576) (hu : Av l) (hx : (vl l).toNat < b ^ 2 ^ j) (hn : j ≤ n) (hjK : j ≤ K), SpecM Tryz.prog 133 [.n false .u64 l, .i .i64 (((j : Nat) : Int) - 1), .q [.i .i64 (b : Int)], .q [.l true 1 (pwR b K)], .q [cyc 133 [.q [.i .i64 (b : Int)], .q [.l true 1 (pwR b K)]] [] n]] [] (fun o G => o = .ret (.o 0 0 0 (hdg b (2 ^ j) (vl l).toNat).length) ∧ G = [⟨3, 1, 0, true, ints .i64 (hdg b (2 ^ j) (vl l).toNat)⟩])
  | 0, l, n, hl, hu, hx, hn, hjK => (Ag7 b K hlb hb2 hK hK2 l n hl hu hx hn hjK).ver0 Bc
  | j + 1, l, n, hl, hu, hx, hn, hjK => (Ag6 b K j hlb hb2 hK hK2 (fun l n hl hu hx hn hjK => Abd b K hlb hb2 hK hK2 j l n hl hu hx hn hjK) l n hl hu hx hn hjK).ver0 Bc

theorem Ako (l : List Int) (b : Nat) (hl : l.length ≤ 1048576) (hu : Av l) (hlb : 2 ≤ b) (hb2 : b ≤ 36) : SpecM Tryz.prog 111 [.n false .u64 l, .i .i64 (b : Int)] [] (fun o G => o = .ret (.o 0 0 0 (hdg b 1 (vl l).toNat).length) ∧ G = [⟨3, 1, 0, true, ints .i64 (hdg b 1 (vl l).toNat)⟩]) := by
  refine Ei [(0, .n false .u64 l), (1, .i .i64 (b : Int))] rfl Tryz.func111 rfl (Zb rfl) fun Γ hN hds hL hR => ?_
  have hd := B2 75 hN
  have hlenl := I9 l
  have hxv := Abh hu
  have hv0 := A4 hu
  have hv : Al (vl l) ≤ 67108864 := by have := H5 (s := false) hu; have e : sv false l = vl l := rfl; rw [e] at this; omega
  have hxp := Yx hv0 hv
  have hF : Spec Tryz.prog 35 [.i .u64 (b : Int)] (fun o => o = .ret (.n true .u64 (lm ((b ^ 2 ^ 0 : Nat) : Int)))) := by have h := Gn (b : Int); rwa [show (if (b : Int) = 0 then [] else [(b : Int)]) = lm ((b ^ 2 ^ 0 : Nat) : Int) from by rw [Nat.pow_zero, Nat.pow_one]; exact Zh (by omega) (by omega)] at h
  refine Zs <| A1 (Bn (id := 0) (n := 1) rfl rfl rfl (by decide) rfl) (hd 3 rfl) <| Za rfl (hd 4 rfl) <| Ab <| Ae <| Zs <| Zm rfl (hd 12 rfl) ?_
  refine Ag Tryz.f30 (Dl l (by omega) hu) rfl Tryz.func30 rfl rfl (Aa rfl Ad) (.cons .n .nil) (hd 13 rfl) ?_ (fun _ h => by simp at h)
  rintro _ ⟨⟩; refine Ac (Jq rfl rfl) (hd 14 rfl) <| Zm rfl (hd 15 rfl) ?_
  refine Ez 15 rfl (fun h1 => ?_) (fun h1 => ?_)
  · refine Bz 15 rfl rfl rfl (hd 16 rfl) <| Bz 15 rfl rfl rfl (hd 17 rfl) <| Bz 15 rfl rfl rfl (hd 18 rfl) <| Ac (Bt rfl rfl) (hd 19 rfl) <| Ab <| Cw rfl <| Zs <| Zm rfl (hd 20 rfl) <| Ac (A9 S2 rfl rfl rfl) (hd 21 rfl) ?_
    refine Fk Tryz.f131 (Nj l b 1 hl hu hlb hb2 (by decide)) (fun o G ⟨_, h⟩ => h ▸ Ao Bc A0) rfl Tryz.func131 rfl rfl (Aa rfl (Aa rfl (Aa rfl Ad))) (.cons .n (.cons .i (.cons .i .nil))) (hd 22 rfl) ?_ (fun _ _ h => by simp at h)
    rintro y G ⟨hy, rfl⟩; injection hy with hy; subst hy
    show JO _ _ _ _ ((22, .o 1 0 0 (hdg b 1 (vl l).toNat).length) :: _) _ _
    refine Za rfl (hd 4 rfl) <| Ab <| An ?_
    refine ⟨[1], _, (.o 0 0 0 (hdg b 1 (vl l).toNat).length), (.cons rfl .nil), rfl, rfl, (by decide), (Ao Bc A0), ?_⟩
    exact ⟨rfl, rfl⟩
  · refine Bi 15 rfl rfl (Ay rfl) (hd 16 rfl) ?_
    refine Ek Tryz.f30 15 rfl rfl (Dl l (by omega) hu) rfl Tryz.func30 rfl rfl (Aa rfl Ad) (.cons .n .nil) (hd 17 rfl) ?_ (fun _ h => by simp at h)
    rintro _ ⟨⟩; refine Bi 15 rfl rfl (B0 (Ce rfl rfl) (by omega)) (hd 18 rfl) <| Ac (Bg rfl rfl) (hd 19 rfl) <| Ab <| A6 rfl <| Aj <| Zs <| Ac (A9 S2 rfl rfl rfl) (hd 23 rfl) <| Ac (D5 N5 Li rfl (r := (b : Int)) (Bf (by omega) (by omega))) (hd 24 rfl) ?_
    refine Ag Tryz.f35 (hF) rfl Tryz.func35 rfl rfl (Aa rfl Ad) (.cons .i .nil) (hd 25 rfl) ?_ (fun _ h => by simp at h)
    rintro _ ⟨⟩; refine A1 (Do (id := 1) (xs := [.tmp 25]) V7 rfl (Aa rfl Ad) rfl (Cz rfl) (by decide) rfl) (hd 26 rfl) <| A1 (Aq (id := 2) Xk (by decide) rfl (by decide) rfl) (hd 5 rfl) <| A3 (Ah rfl rfl rfl Uc rfl rfl (Zb rfl)) <| Ab ?_
    refine Ja (G := Nat) (fun k => k ≤ 26 ∧ Al ((b ^ 2 ^ k : Nat) : Int) ≤ 67108864 ∧ (vl l).toNat < b ^ 2 ^ (k + 1)) (fun k => [(6, .u), (7, .u), (8, .u), (27, .u), (28, .u), (29, .u), (30, .u), (31, .u), (32, .u), (33, .u), (34, .u), (35, .u), (36, .u), (37, .u), (38, .u), (39, .u), (40, .u), (41, .u), (42, .u), (43, .u), (44, .u), (45, .u), (46, .u), (47, .u), (48, .u), (49, .u)]) (fun k => [⟨3, 1, 0, true, [.i .i64 (b : Int)]⟩, ⟨23, 1, k, true, (pwR b (k + 1)).flatten⟩, ⟨147, 1, 0, true, [.o 1 k 0 (k + 1)]⟩]) ?_ ?_
    · refine At <| Nv (H' := [⟨3, 1, 0, true, [.i .i64 (b : Int)]⟩, ⟨23, 1, 0, true, (pwR b (0 + 1)).flatten⟩, ⟨147, 1, 0, true, [.o 1 0 0 (0 + 1)]⟩]) (by rw [← Ag1]; rfl) ?_
      refine Fy (G := Nat) 3 (fun k => k ≤ 26 ∧ Al ((b ^ 2 ^ k : Nat) : Int) ≤ 67108864) (fun k => [(6, .u), (7, .u), (8, .u), (27, .u), (28, .u), (29, .u), (30, .u), (31, .u), (32, .u), (33, .u), (34, .u), (35, .u), (36, .u), (37, .u), (38, .u), (39, .u), (40, .u), (41, .u), (42, .u), (43, .u), (44, .u), (45, .u), (46, .u), (47, .u), (48, .u), (49, .u)]) (fun k => [⟨3, 1, 0, true, [.i .i64 (b : Int)]⟩, ⟨23, 1, k, true, (pwR b (k + 1)).flatten⟩, ⟨147, 1, 0, true, [.o 1 k 0 (k + 1)]⟩]) (fun k => 27 - k) 0 ?_ ?_ rfl hR rfl (fun _ _ => rfl) (fun k _ => .cons rfl (.cons Aj0 (.cons rfl .nil))) ?_
      · exact ⟨by decide, Nat.le_trans (B7 (w := 36) (by rw [Int.natAbs_natCast, Nat.pow_zero, Nat.pow_one]; omega)) (by decide)⟩
      · exact (.v9 (.v9 (.v5 (.u .nil))))
      · rintro k ⟨hk26, hkl⟩
        have hkm := Bv hkl
        refine At <| Zs <| Ac (A9 Ky rfl rfl rfl) (hd 27 rfl) <| Ac (A9 Ky rfl rfl rfl) (hd 28 rfl) <| Ac (E7 Ra rfl rfl) (hd 29 rfl) <| Ac (Bm rfl rfl (Ak (by omega) (by omega))) (hd 30 rfl) <| Ac (Ck (i := k) Ra rfl rfl rfl (by omega) (by omega) rfl) (hd 31 rfl) <| Ac (A9 (y := pwV b k) B5 rfl rfl (by rw [Nat.zero_add, Nat.mul_one]; exact Ag2 (by omega))) (hd 32 rfl) <| Za rfl (hd 6 rfl) <| Ab <| Ae <| Af ?_; refine Zm rfl (hd 34 rfl) ?_
        refine Ag Tryz.f132 (Aae (lm ((b ^ 2 ^ k : Nat) : Int)) (by omega) (Cu _)) rfl Tryz.func132 rfl rfl (Aa rfl Ad) (.cons .n .nil) (hd 35 rfl) ?_ (fun _ h => by simp at h)
        rintro y ⟨r2, e2, hy, he2⟩; injection hy with hy; subst hy
        rw [Agz] at he2
        have hle2 := Zn he2
        have hu2 := Ah2 he2
        have hcv := Hm hu2 hu
        refine Zm rfl (hd 33 rfl) <| Ac (Ai rfl rfl) (hd 36 rfl) <| Ac (Ai rfl rfl) (hd 37 rfl) <| Za rfl (hd 7 rfl) <| Za rfl (hd 8 rfl) <| Ab <| Ae <| Zs <| Zm rfl (hd 38 rfl) <| Ac (Ec rfl rfl) (hd 39 rfl) <| Zm rfl (hd 40 rfl) ?_
        refine Ez 40 rfl (fun h4 => ?_) (fun h4 => ?_)
        · refine Bz 40 rfl rfl rfl (hd 41 rfl) <| Bz 40 rfl rfl rfl (hd 42 rfl) <| Bz 40 rfl rfl rfl (hd 43 rfl) <| Bz 40 rfl rfl rfl (hd 44 rfl) <| Ac (Bt rfl rfl) (hd 45 rfl) <| Ab <| Cw rfl <| Br ?_
          refine ⟨k, ?_, rfl, Bj 49 rfl rfl ?_⟩
          · exact ⟨hk26, hkl, Ag4 hv hv0 (Aep he2 (by assumption))⟩
          · exact (.v9 (.v9 (.v5 (.u .nil))))
        · obtain ⟨hr2, hle9⟩ := Aeq he2 (Decidable.not_not.1 h4)
          have hvr : vl r2 = ((b ^ 2 ^ (k + 1) : Nat) : Int) := by rw [hr2, Gb (Int.natCast_nonneg _)]
          refine Bi 40 rfl rfl (Ay rfl) (hd 41 rfl) <| Bi 40 rfl rfl (Ay rfl) (hd 42 rfl) ?_
          refine Ek Tryz.f89 40 rfl rfl (Fu r2 l (by omega) (by omega)) rfl Tryz.func89 rfl rfl (Aa rfl (Aa rfl Ad)) (.cons .n (.cons .n .nil)) (hd 43 rfl) ?_ (fun _ h => by simp at h)
          rintro _ ⟨⟩; refine Bi 40 rfl rfl (Ce rfl rfl) (hd 44 rfl) <| Ac (Bg rfl rfl) (hd 45 rfl) <| Ab ?_
          refine Bh rfl (fun h6 => ?_) (fun h6 => ?_)
          · refine Br ?_
            refine ⟨k, ?_, rfl, Bj 49 rfl rfl ?_⟩
            · exact ⟨hk26, hkl, by rcases hcv with ⟨c, v⟩ | ⟨c, v⟩ | ⟨c, v⟩ <;> omega⟩
            · exact (.v9 (.v9 (.v5 (.u .nil))))
          · have hge : b ^ 2 ^ (k + 1) ≤ (vl l).toNat := by rcases hcv with ⟨c, v⟩ | ⟨c, v⟩ | ⟨c, v⟩ <;> omega
            have hkeep : k + 1 ≤ 26 ∧ Al ((b ^ 2 ^ (k + 1) : Nat) : Int) ≤ 67108864 := ⟨Yi hlb hge hxp, hle9⟩
            refine Aj <| Af <| Ac (A9 Ky rfl rfl rfl) (hd 46 rfl) <| Zm rfl (hd 47 rfl) <| A1 (Do (id := 3) (xs := [.tmp 47]) V7 rfl (Aa rfl Ad) rfl (Cz rfl) (by decide) rfl) (hd 48 rfl) <| O2 V7 rfl rfl (by rw [Adm, Nat.mul_one]) rfl (Pq rfl rfl rfl) (by show (k + 1 + 1) * 24 ≤ _; omega) (by show k + 1 + 1 ≤ 9223372036854775807; omega) (hd 49 rfl) <| A3 (Ah rfl rfl rfl Uc rfl (by simp [cellsV, Ij]) (Zb rfl)) <| Ab ?_
            refine ⟨k + 1, ?_, ?_, (by show [_, (⟨23, 1, k + 1, true, (pwR b (k + 1)).flatten ++ [V.n true .u64 r2]⟩ : Ob), _] = [_, ⟨23, 1, k + 1, true, (pwR b (k + 1 + 1)).flatten⟩, _]; rw [hr2, ← Uz (K := k + 1)]; rfl), Bj 53 rfl rfl ?_⟩
            · exact hkeep
            · omega
            · exact (.v9 (.v9 (.v5 (.u .nil))))
    · rintro k ⟨hk26, hkl, hx⟩
      have hK : ∀ j, j < k + 1 → Al ((b ^ 2 ^ j : Nat) : Int) ≤ 67108864 := fun j hj => Nat.le_trans (Adl hlb (by omega)) hkl
      have hx0 : (vl l).toNat ≠ 0 := fun h0 => by have h1 := (Ir hu).2 (by omega); omega
      have hdm := F1 hlb _ _ hx
      have hlen : (hdg b (2 ^ (k + 1)) (vl l).toNat).length = 2 ^ (k + 1) := by rw [L6]; omega
      have h27 : 2 ^ (k + 1) ≤ 2 ^ 27 := Kk (by omega)
      refine Zs <| A1 (Aq (id := 3) Xl (by decide) rfl (by decide) rfl) (hd 9 rfl) <| Ab <| Ae <| Y3 0 (idB := 2) (id := 1) (pwR b (k + 1)) rfl rfl rfl rfl Oi Ajz Adk (by decide) hL <| Vu 5 rfl rfl rfl rfl hL <| Vu 3 rfl rfl rfl rfl hL <| Af <| Ac (F5 (Aa rfl (Aa rfl (Aa rfl Ad)))) (hd 50 rfl) <| A3 (Ah rfl rfl rfl Ac0 rfl rfl (Zb rfl)) <| Ab <| Ae ?_; refine Ahu 9 [.q [.i .i64 (b : Int)], .q [.l true 1 (pwR b (k + 1))]] [] (k + 2) rfl rfl rfl rfl hL <| Af <| Ac (P9 P6 rfl rfl) (hd 51 rfl) <| Zm rfl (hd 52 rfl) <| Ac (B8 Ky rfl rfl) (hd 53 rfl) <| Ac (Bk (I8 Ra rfl) (show V.i .i64 _ = V.i .i64 ((k + 1 : Nat) : Int) by rw [Oi])) (hd 54 rfl) <| Ac (Bm rfl rfl (Ak (by omega) (by omega))) (hd 55 rfl) ?_
      refine Vq Tryz.f133 (Abd b (k + 1) hlb hb2 hK (by omega) (k + 1) l (k + 1) hl hu hx (Nat.le_refl _) (Nat.le_refl _)) (fun o G ⟨_, h⟩ => h ▸ Ao Bc A0) rfl Tryz.func133 rfl rfl (Aa rfl (Aa rfl Ad)) (.cons .n (.cons .i (.cons .q (.cons .q (.cons .q .nil))))) (hd 56 rfl) ?_ (fun _ _ h => by simp at h)
      rintro y G ⟨hy, rfl⟩; injection hy with hy; subst hy
      show JO _ _ _ _ ((56, .o 4 0 0 (hdg b (2 ^ (k + 1)) (vl l).toNat).length) :: _) _ _
      refine Za rfl (hd 10 rfl) <| Ab <| Zs <| Za rfl (hd 11 rfl) <| Ab ?_
      refine C9 (G := Nat) (fun i => i = (2 ^ (k + 1) - (Cb b (vl l).toNat).length)) (fun i => [(11, .i .i64 (i : Int)), (57, .u), (58, .u), (59, .u), (60, .u), (61, .u), (62, .u), (63, .u), (64, .u), (65, .u), (66, .u), (67, .u), (68, .u), (69, .u), (70, .u)]) ?_ ?_
      · refine At ?_
        refine Ch (G := Nat) (fun i => i ≤ (2 ^ (k + 1) - (Cb b (vl l).toNat).length)) (fun i => [(11, .i .i64 (i : Int)), (57, .u), (58, .u), (59, .u), (60, .u), (61, .u), (62, .u), (63, .u), (64, .u), (65, .u), (66, .u), (67, .u), (68, .u), (69, .u), (70, .u)]) (fun _ => _) (fun i => (2 ^ (k + 1) - (Cb b (vl l).toNat).length) - i) 0 ?_ ?_ rfl ?_
        · exact Nat.zero_le _
        · exact (.cons rfl (.v9 (.u (.u (.u (.u .nil))))))
        · rintro i hiz; refine Ae <| Zs <| Zm rfl (hd 57 rfl) <| Zm rfl (hd 58 rfl) <| Ac (E7 Fc rfl rfl) (hd 59 rfl) <| Ac (Bm rfl rfl (Ak (by omega) (by omega))) (hd 60 rfl) <| Ac (Ca rfl rfl) (hd 61 rfl) <| Zm rfl (hd 62 rfl) ?_
          refine Ez 62 rfl (fun h7 => ?_) (fun h7 => ?_)
          · refine Bi 62 rfl rfl (Ay rfl) (hd 63 rfl) <| Bi 62 rfl rfl (Ay rfl) (hd 64 rfl) <| Bi 62 rfl rfl (Ck (i := i) Fc rfl rfl rfl (by first | rfl | omega) (by omega) rfl) (hd 65 rfl) <| Bi 62 rfl rfl (Bk (Ee S2 rfl rfl (by first | omega | (dsimp only; omega))) (show V.i .i64 _ = V.i .i64 ((hdg b (2 ^ (k + 1)) (vl l).toNat).getD i 0) by rw [Nat.zero_add, Nat.mul_one])) (hd 66 rfl) <| Bi 62 rfl rfl (Cq rfl rfl) (hd 67 rfl) <| Ac (Bt rfl rfl) (hd 68 rfl) <| Ab ?_
            refine Bh rfl (fun h8 => ?_) (fun h8 => ?_)
            · have hz0 := h8
              refine Aj <| At <| Af <| Zm rfl (hd 69 rfl) <| Ac (Bd rfl rfl (r := ((i + 1 : Nat) : Int)) (by rw [Ak (by omega) (by omega)]; omega)) (hd 70 rfl) <| Za rfl (hd 11 rfl) <| Ab ?_
              refine ⟨i + 1, ?_, ?_, rfl, Bj 31 rfl rfl ?_⟩
              · exact Se hlb hx0 hdm hiz hz0
              · have := Se hlb hx0 hdm hiz hz0
                omega
              · exact (.cons rfl (.v9 (.u (.u (.u (.u .nil))))))
            · refine Br ?_
              refine ⟨i, ?_, rfl, Bj 28 rfl rfl ?_⟩
              · exact Abz hlb hx0 hdm hiz (by first | (left; omega) | (right; assumption))
              · exact (.cons rfl (.v9 (.u (.u (.u (.u .nil))))))
          · refine Bz 62 rfl rfl rfl (hd 63 rfl) <| Bz 62 rfl rfl rfl (hd 64 rfl) <| Bz 62 rfl rfl rfl (hd 65 rfl) <| Bz 62 rfl rfl rfl (hd 66 rfl) <| Bz 62 rfl rfl rfl (hd 67 rfl) <| Ac (Bg rfl rfl) (hd 68 rfl) <| Ab <| A6 rfl <| Br ?_
            refine ⟨i, ?_, rfl, Bj 28 rfl rfl ?_⟩
            · exact Abz hlb hx0 hdm hiz (by first | (left; omega) | (right; assumption))
            · exact (.cons rfl (.v9 (.u (.u (.u (.u .nil))))))
      · rintro i hiz
        have hdr := Zz (m := 2 ^ (k + 1)) hlb hx0
        have hR1l : (hdg b 1 (vl l).toNat).length = (hdg b (2 ^ (k + 1)) (vl l).toNat).length - i := by rw [← hdr, List.length_drop, hiz]
        refine Zs <| Zm rfl (hd 71 rfl) <| Zm rfl (hd 72 rfl) <| Ac (Vg (l := i) (h := (hdg b (2 ^ (k + 1)) (vl l).toNat).length) (r := i) (n := (hdg b (2 ^ (k + 1)) (vl l).toNat).length - i) Fc rfl rfl (Dg rfl rfl) Gx (by omega) (Nat.le_refl _) (by omega) rfl) (hd 73 rfl) <| A1 (Qi (id := 5) Lb rfl rfl (Agi rfl (by omega)) (by omega) (by show _ ≤ 9223372036854775807; omega) rfl) (hd 74 rfl) <| Za rfl (hd 4 rfl) <| Ab <| An ?_
        refine ⟨[5], _, (.o 0 0 0 ((hdg b (2 ^ (k + 1)) (vl l).toNat).length - i)), (.cons rfl .nil), rfl, rfl, (by decide), (Ao Bc A0), ?_⟩
        exact ⟨by rw [hR1l], by show [(⟨3, 1, 0, true, ints .i64 (((hdg b (2 ^ (k + 1)) (vl l).toNat).drop i).take ((hdg b (2 ^ (k + 1)) (vl l).toNat).length - i))⟩ : Ob)] = [⟨3, 1, 0, true, ints .i64 (hdg b 1 (vl l).toNat)⟩]; rw [List.take_of_length_le (by rw [List.length_drop]; exact Nat.le_refl _), hiz, hdr]⟩

theorem Agc (l : List Int) (hl : l.length < 1099511627776) (hr : rng 36 l) : Spec Tryz.prog 110 [.n false .i64 l] (fun o => o = .ret (.n true .u8 (Gk (txt l)))) := by
  refine Aw [(0, .n false .i64 l)] rfl Tryz.func110 rfl (Zb rfl) fun Γ hN hds hL hR => ?_
  have hd := B2 23 hN
  refine Zs <| Za rfl (hd 2 rfl) <| Ab <| Zs <| Zm rfl (hd 6 rfl) <| Ac (Ar Fc rfl) (hd 7 rfl) <| A1 (Gv (m := l.length) Ah4 rfl rfl rfl (by show 1 * l.length ≤ _; omega) (by unfold maxLen; omega) rfl) (hd 8 rfl) <| Za rfl (hd 3 rfl) <| Ab <| Ae <| Ae ?_; refine Nv (H' := [⟨5, 1, 0, true, ints .u8 (cpI (l.map ltr) 0)⟩]) (by rw [← Akk, List.length_map]; rfl) <| Af <| Zm rfl (hd 9 rfl) <| Ac (Ar Fc rfl) (hd 10 rfl) <| Zm rfl (hd 11 rfl) <| Ab <| At ?_
  refine Ch (G := Nat) (fun i => i ≤ l.length) (fun i => [(11, .i .i64 (i : Int)), (4, .u), (5, .u), (12, .u), (13, .u), (14, .u), (15, .u), (16, .u), (17, .u), (18, .u), (19, .u), (20, .u), (21, .u)]) (fun i => [⟨5, 1, 0, true, ints .u8 (cpI (l.map ltr) i)⟩]) (fun i => l.length - i) 0 ?_ ?_ rfl ?_
  · exact Nat.zero_le _
  · exact (.cons rfl (.v9 (.u (.u .nil))))
  · rintro i hi
    have hcl := Ae1 (l := l.map ltr) (i := i) (by rw [List.length_map]; exact hi)
    rw [List.length_map] at hcl
    have hx := X8 (by decide) hr i
    refine Zs <| Ac (Ca rfl rfl) (hd 12 rfl) <| Ab <| Ae ?_
    refine Bh rfl (fun h1 => ?_) (fun h1 => ?_)
    · refine Aj <| Ae <| At <| Zs <| Zm rfl (hd 13 rfl) <| Ac (Cc (i := i) Fc rfl rfl (by first | rfl | omega) (by omega)) (hd 14 rfl) <| Ac (B8 S2 rfl rfl) (hd 15 rfl) <| Za rfl (hd 4 rfl) <| Za rfl (hd 5 rfl) <| Ab <| Af <| Zm rfl (hd 16 rfl) ?_; refine Zm rfl (hd 17 rfl) <| Zm rfl (hd 18 rfl) <| Ac (Abk (b := Abm) (i := (l.getD i 0).toNat) Ajn (by kernel_rfl) rfl (by omega) (by show _ < 36; omega)) (hd 19 rfl) <| Ac (Ck (i := i) Agn rfl rfl rfl (by first | rfl | omega) (by omega) rfl) (hd 20 rfl) <| A3 (Cf rfl rfl rfl Ak6 (by first | omega | (dsimp only; omega))) <| Ab <| Af <| Ac (Bd rfl rfl (r := ((i + 1 : Nat) : Int)) (by rw [Ak (by omega) (by omega)]; omega)) (hd 21 rfl) <| Zm rfl (hd 11 rfl) <| Ab ?_
      refine ⟨i + 1, ?_, ?_, (by show [(⟨5, 1, 0, true, ints .u8 _⟩ : Ob)] = [⟨5, 1, 0, true, ints .u8 _⟩]; rw [← Ae0 (by rw [List.length_map]; omega), Xw (by omega)]; rfl), Bj 26 rfl rfl ?_⟩
      · omega
      · omega
      · exact (.cons rfl (.v9 (.u (.u .nil))))
    · refine Br <| Ae ?_
      obtain rfl : i = l.length := by omega
      refine Jm (k := .u8) (l := cpI (l.map ltr) l.length) (l' := Gk (txt l)) 3 rfl rfl (by rw [hcl]; omega) (by rw [Aga, List.drop_zero, List.take_of_length_le (by omega)]; have h := Ae2 (l.map ltr); rwa [List.length_map] at h) hL <| Af <| Zm rfl (hd 22 rfl) <| Za rfl (hd 2 rfl) <| Ab <| An ?_
      refine ⟨_, _, (.cons rfl .nil), .n, ?_⟩
      rfl

theorem Ahy (b : Nat) (hb : 2 ≤ b) (hb2 : b ≤ 36) : Spec Tryz.prog 109 [.i .i64 (b : Int)] (fun o => o = .ret (.b true)) := by
  refine Aw [(0, .i .i64 (b : Int))] rfl Tryz.func109 rfl (Zb rfl) fun Γ hN hds hL hR => ?_
  have hd := B2 9 hN
  refine Zs <| Za rfl (hd 2 rfl) <| Ab <| Zs <| Zm rfl (hd 3 rfl) <| Ac (E6 (F6 rfl rfl) (by omega)) (hd 4 rfl) <| Zm rfl (hd 5 rfl) <| Bi 5 rfl rfl (Ay rfl) (hd 6 rfl) <| Bi 5 rfl rfl (E6 (Jq rfl rfl) (by omega)) (hd 7 rfl) <| Ac (Bt rfl rfl) (hd 8 rfl) <| Za rfl (hd 2 rfl) ?_; refine Ab <| An ?_
  refine ⟨_, _, (.cons rfl .nil), .b, ?_⟩
  exact rfl

theorem Xc (l : List Int) (b : Nat) (hl : l.length ≤ 1048576) (hu : Av l) (hlb : 2 ≤ b) (hb2 : b ≤ 36) : Spec Tryz.prog 88 [.n false .u64 l, .i .i64 (b : Int)] (fun o => o = .ret (.t [.s (txt (hdg b 1 (vl l).toNat)), .i .i64 0])) := by
  refine Aw [(0, .n false .u64 l), (1, .i .i64 (b : Int))] rfl Tryz.func88 rfl (Zb rfl) fun Γ hN hds hL hR => ?_
  have hd := B2 14 hN
  have hRl : (hdg b 1 (vl l).toNat).length ≤ 67108864 := by rw [L6]; have h1 := Qo hu hlb; omega
  refine Zs <| Za rfl (hd 4 rfl) <| Za rfl (hd 5 rfl) <| Ab <| Ae <| Zs <| Zm rfl (hd 6 rfl) ?_
  refine Ag Tryz.f109 (Ahy b hlb hb2) rfl Tryz.func109 rfl rfl (Aa rfl Ad) (.cons .i .nil) (hd 7 rfl) ?_ (fun _ h => by simp at h)
  rintro _ ⟨⟩; refine Ac (Ha rfl) (hd 8 rfl) <| Ab <| A6 rfl <| Aj <| Zs <| Zm rfl (hd 9 rfl) <| Zm rfl (hd 10 rfl) ?_
  refine Fk Tryz.f111 (Ako l b hl hu hlb hb2) (fun o G ⟨_, h⟩ => h ▸ Ao Bc A0) rfl Tryz.func111 rfl rfl (Aa rfl (Aa rfl Ad)) (.cons .n (.cons .i .nil)) (hd 11 rfl) ?_ (fun _ _ h => by simp at h)
  rintro y G ⟨hy, rfl⟩; injection hy with hy; subst hy
  show JO _ _ _ _ ((11, .o 0 0 0 (hdg b 1 (vl l).toNat).length) :: _) _ _
  refine Jl (k := .i64) (l := (hdg b 1 (vl l).toNat)) (l' := (hdg b 1 (vl l).toNat)) 11 rfl rfl (by omega) (by rw [List.drop_zero, List.take_length]) hL ?_
  refine Ag Tryz.f110 (Agc (hdg b 1 (vl l).toNat) (by omega) (Ajy hb2 (Aej hlb _ _))) rfl Tryz.func110 rfl rfl (Aa rfl Ad) (.cons .n .nil) (hd 12 rfl) ?_ (fun _ h => by simp at h)
  rintro _ ⟨⟩; refine Ac (Aho Q4 Ai9 Ajn rfl) (hd 13 rfl) <| Za rfl (hd 4 rfl) <| Za rfl (hd 5 rfl) <| Ab <| An ?_
  refine ⟨_, _, (.cons rfl (.cons rfl .nil)), (.t1 .s (.t1 .i .t0)), ?_⟩
  exact rfl
























theorem Xf (l l2 : List Int) (x y : Nat) (hl : l.length ≤ 1048576) (hl2 : l2.length ≤ 1048576) (hu : Av l) (hu2 : Av l2) (hx : vl l = (x : Int)) (hy : vl l2 = (y : Int)) : Spec Tryz.prog 70 [.n false .u64 l, .n false .u64 l2] (fun o => o = .ret (.n false .u64 (lm ((Nat.gcd x y : Nat) : Int)))) := by
  refine Aw [(0, .n false .u64 l), (1, .n false .u64 l2)] rfl Tryz.func70 rfl (Zb rfl) fun Γ hN hds hL hR => ?_
  have hd := B2 23 hN
  have hlx : Al (x : Int) ≤ 67108864 := by have h9 := H5 (s := false) hu; rw [show sv false l = (x : Int) from hx] at h9; omega
  have hly : Al (y : Int) ≤ 67108864 := by have h9 := H5 (s := false) hu2; rw [show sv false l2 = (y : Int) from hy] at h9; omega
  have hNa : Spec Tryz.prog 66 [.n false .u64 l] (fun o => o = .ret (.n false .u64 (lm (x : Int)))) := by have h := D4 l (by omega); rw [Fo hu hx] at h; exact h.nn
  have hNb : Spec Tryz.prog 66 [.n false .u64 l2] (fun o => o = .ret (.n false .u64 (lm (y : Int)))) := by have h := D4 l2 (by omega); rw [Fo hu2 hy] at h; exact h.nn
  refine Zs <| Za rfl (hd 4 rfl) <| Ab <| Zs <| Zm rfl (hd 7 rfl) ?_
  refine Ag Tryz.f66 (hNa) rfl Tryz.func66 rfl rfl (Aa rfl Ad) (.cons .n .nil) (hd 8 rfl) ?_ (fun _ h => by simp at h)
  rintro _ ⟨⟩; refine Zm rfl (hd 9 rfl) ?_
  refine Ag Tryz.f66 (hNb) rfl Tryz.func66 rfl rfl (Aa rfl Ad) (.cons .n .nil) (hd 10 rfl) ?_ (fun _ h => by simp at h)
  rintro _ ⟨⟩; refine Za rfl (hd 0 rfl) <| Za rfl (hd 1 rfl) <| Ab <| Ae <| At ?_
  refine Ch (G := Nat × Nat) (fun g => Nat.gcd g.1 g.2 = Nat.gcd x y ∧ Al (g.1 : Int) ≤ 67108864 ∧ Al (g.2 : Int) ≤ 67108864) (fun g => [(0, .n false .u64 (lm (g.1 : Int))), (1, .n false .u64 (lm (g.2 : Int))), (5, .u), (6, .u), (11, .u), (12, .u), (13, .u), (14, .u), (15, .u), (16, .u), (17, .u), (18, .u), (19, .u), (20, .u), (21, .u)]) (fun _ => _) (fun g => g.2) (x, y) ?_ ?_ rfl ?_
  · exact ⟨rfl, hlx, hly⟩
  · exact (.cons rfl (.cons rfl (.v9 (.u (.u (.u .nil))))))
  · rintro ⟨u, v⟩ ⟨hc1, hc2, hc3⟩
    dsimp only at hc1 hc2 hc3
    have hmu := Bv hc2
    have hmv := Bv hc3
    refine Ae <| Zs <| Zm rfl (hd 11 rfl) <| Ac (Ar A7 rfl) (hd 12 rfl) <| Ac (Ce rfl rfl) (hd 13 rfl) <| Ab ?_
    refine Bh rfl (fun h1 => ?_) (fun h1 => ?_)
    · have hv0 : v ≠ 0 := fun e => by subst e; have h9 : (0 : Int) < ((lm ((0 : Nat) : Int)).length : Int) := h1; rw [show ((0 : Nat) : Int) = 0 from rfl, Afm] at h9; simp at h9
      have hDv : Spec Tryz.prog 107 [.n false .u64 (lm (u : Int)), .n false .u64 (lm (v : Int))] (fun o => o = .ret (.t [.n false .u64 (lm (qn (u : Int) (v : Int))), .n false .u64 (lm ((u % v : Nat) : Int))])) := by have h := Hl (u : Int) (v : Int) (by omega) (by omega) (by omega); rwa [Agu] at h
      refine Aj <| At <| Zs <| Zm rfl (hd 15 rfl) <| Zm rfl (hd 16 rfl) ?_
      refine Ag Tryz.f107 (hDv) rfl Tryz.func107 rfl rfl (Aa rfl (Aa rfl Ad)) (.cons .n (.cons .n .nil)) (hd 17 rfl) ?_ (fun _ h => by simp at h)
      rintro _ ⟨⟩; refine Zm rfl (hd 14 rfl) <| Ac (Ai rfl rfl) (hd 18 rfl) <| Ac (Ai rfl rfl) (hd 19 rfl) <| Za rfl (hd 5 rfl) <| Za rfl (hd 6 rfl) <| Ab <| Af <| Zm rfl (hd 20 rfl) <| Zm rfl (hd 21 rfl) <| Za rfl (hd 0 rfl) <| Za rfl (hd 1 rfl) <| Ab ?_
      refine ⟨(v, u % v), ?_, ?_, rfl, Bj 30 rfl rfl ?_⟩
      · exact ⟨by rw [← hc1]; exact Ze, hc3, Nat.le_trans (B7 (by have := Nat.mod_le u v; dsimp only; omega)) hc2⟩
      · exact Nat.mod_lt _ (by omega)
      · exact (.cons rfl (.cons rfl (.v9 (.u (.u (.u .nil))))))
    · have hv0 : v = 0 := Decidable.byContradiction fun hc => h1 (by have h9 := List.length_pos_iff.2 (Ow (show (v : Int) ≠ 0 by omega)); show (0 : Int) < ((lm (v : Int)).length : Int); omega)
      subst hv0
      rw [Nat.gcd_zero_right] at hc1
      refine Br <| Zs <| Zm rfl (hd 22 rfl) <| Za rfl (hd 4 rfl) <| Ab <| An ?_
      refine ⟨_, _, (.cons rfl .nil), .n, ?_⟩
      rw [← hc1]

theorem W6 (s t : Bool) (a b : List Int) (v x : Int) (hla : a.length < 4294967296) (hlb : b.length < 4294967296) (ua : Av a) (ub : Av b) (hv : sv s a = v) (hx : sv t b = x) (h : Al (v * x) ≤ 67108864) : Spec Tryz.prog 138 [.a [.b s, .n false .u64 a], .a [.b t, .n false .u64 b]] (fun o => o = .ret (.t [.a [.b (decide ((v * x) < 0)), .n true .u64 (lm (v * x))], .i .i64 0])) :=
  (Aig s t a b hla hlb ua ub).mono fun o ⟨s2, r, e, ho, hR⟩ => by
    rw [hv, hx] at hR
    rcases hR with ⟨_, h1, h2, h3⟩ | ⟨hb, _⟩
    · subst h1; subst h2; subst h3; exact ho
    · omega

theorem Afa (s t : Bool) (a b : List Int) (v x : Int) (hla : a.length < 4294967296) (hlb : b.length < 4294967296) (ua : Av a) (ub : Av b) (hv : sv s a = v) (hx : sv t b = x) (h : Al (v + x) ≤ 67108864) : Spec Tryz.prog 139 [.a [.b s, .n false .u64 a], .a [.b t, .n false .u64 b]] (fun o => o = .ret (.t [.a [.b (decide ((v + x) < 0)), .n true .u64 (lm (v + x))], .i .i64 0])) :=
  (Aii s t a b hla hlb ua ub).mono fun o ⟨s2, r, e, ho, hR⟩ => by
    rw [hv, hx] at hR
    rcases hR with ⟨_, h1, h2, h3⟩ | ⟨hb, _⟩
    · subst h1; subst h2; subst h3; exact ho
    · omega


theorem Ado (s : Bool) (l d : List Int) (y : Nat) (hx : Rw l 0) (hy : Rw d y) (h0 : y ≠ 0) : Spec Tryz.prog 29 [(.a [.b s, .n false .u64 l, .n false .u64 d])] (fun o => o = .ret (.t [.b (sgq s 0), .n false .u64 (lm ((rn0 0 y : Nat) : Int)), .n false .u64 (lm ((rd0 0 y : Nat) : Int))])) := by
  refine Aw [(0, (.a [.b s, .n false .u64 l, .n false .u64 d]))] rfl Tryz.func29 rfl (Zb rfl) fun Γ hN hds hL hR => ?_
  have hd := B2 42 hN
  have hNl : Spec Tryz.prog 66 [.n false .u64 l] (fun o => o = .ret (.n true .u64 (lm ((0 : Nat) : Int)))) := by have h := D4 l (by have := hx.l; omega); rw [hx.t] at h; exact h
  have hNd : Spec Tryz.prog 66 [.n false .u64 d] (fun o => o = .ret (.n true .u64 (lm (y : Int)))) := by have h := D4 d (by have := hy.l; omega); rw [hy.t] at h; exact h
  have hF1 : Spec Tryz.prog 35 [.i .u64 1] (fun o => o = .ret (.n true .u64 [1])) := by have h := Gn 1; rwa [if_neg (by decide)] at h
  have hly := mt lm_len0.1 h0
  refine Zs <| A1 (Bn (id := 0) (n := 3) rfl rfl rfl (by decide) rfl) (hd 1 rfl) <| Za rfl (hd 2 rfl) <| Za rfl (hd 3 rfl) <| Za rfl (hd 4 rfl) <| Ab <| Ae <| Bo (n := 9) _ rfl B9 <| Z2 0 [1, 2, 3, 6, 7, 8] (Am (A5 Cg rfl rfl rfl) (hd 8 rfl)) rfl <| Z2 1 [2, 3, 6, 7, 8] (Am (A5 By rfl rfl rfl) (hd 9 rfl)) rfl <| Z2 2 [3, 6, 7, 8] (Am (A9 B5 rfl rfl rfl) (hd 10 rfl)) rfl <| Z2 4 [5, 6, 7, 8] (Am (A5 Cs rfl rfl rfl) (hd 12 rfl)) rfl ?_; refine Z2 5 [6, 7, 8] (Am (A9 B5 rfl rfl rfl) (hd 13 rfl)) rfl ?_
  refine Be 3 ?_ rfl (by kernel_rfl)
  refine Ax Tryz.f66 (hNl) rfl Tryz.func66 rfl rfl (Aa rfl Ad) (.cons .n .nil) (hd 11 rfl) ?_ (fun _ h => by simp at h)
  rintro y hy; injection hy with hy; subst hy
  refine Be 6 ?_ rfl (by kernel_rfl)
  refine Ax Tryz.f66 (hNd) rfl Tryz.func66 rfl rfl (Aa rfl Ad) (.cons .n .nil) (hd 14 rfl) ?_ (fun _ h => by simp at h)
  rintro _ ⟨⟩; refine Z1 7 (Am (Cm rfl) (hd 5 rfl)) rfl <| Z1 8 (Am (Cm rfl) (hd 6 rfl)) rfl <| Bx (by kernel_rfl) <| Ae <| Zs <| Zm rfl (hd 15 rfl) <| Ac (Ar A7 rfl) (hd 16 rfl) <| Ac (B0 (Cq rfl rfl) (by omega)) (hd 17 rfl) <| Ab <| A6 rfl <| Aj <| Ae ?_; refine Zs <| Zm rfl (hd 20 rfl) <| Ac (Ar A7 rfl) (hd 21 rfl) <| Ac (E6 (Cq rfl rfl) (by rw [show ((0 : Nat) : Int) = 0 from rfl, Afm]; rfl)) (hd 22 rfl) <| Ab <| Cw rfl <| Ae <| Af ?_
  refine Ag Tryz.f35 (hF1) rfl Tryz.func35 rfl rfl (Aa rfl Ad) (.cons .i .nil) (hd 23 rfl) ?_ (fun _ h => by simp at h)
  rintro _ ⟨⟩; refine Za rfl (hd 2 rfl) <| Za rfl (hd 3 rfl) <| Za rfl (hd 4 rfl) <| Ab <| An ?_
  refine ⟨_, _, (.cons rfl (.cons rfl (.cons rfl .nil))), (.t1 .b (.t1 (.nil (fr := false) (k := .u64)) (.t1 .nn .t0))), ?_⟩
  rw [Adb, Agw h0, M9, show ((0 : Nat) : Int) = 0 from rfl, Afm, sgq_0]

theorem Adn (s : Bool) (l d : List Int) (x y : Nat) (hx : Rw l x) (hy : Rw d y) (h0 : y ≠ 0) (h1 : x ≠ 0) : Spec Tryz.prog 29 [(.a [.b s, .n false .u64 l, .n false .u64 d])] (fun o => o = .ret (.t [.b (sgq s x), .n false .u64 (lm ((rn0 x y : Nat) : Int)), .n false .u64 (lm ((rd0 x y : Nat) : Int))])) := by
  refine Aw [(0, (.a [.b s, .n false .u64 l, .n false .u64 d]))] rfl Tryz.func29 rfl (Zb rfl) fun Γ hN hds hL hR => ?_
  have hd := B2 42 hN
  have hNl : Spec Tryz.prog 66 [.n false .u64 l] (fun o => o = .ret (.n true .u64 (lm (x : Int)))) := by have h := D4 l (by have := hx.l; omega); rw [hx.t] at h; exact h
  have hNd : Spec Tryz.prog 66 [.n false .u64 d] (fun o => o = .ret (.n true .u64 (lm (y : Int)))) := by have h := D4 d (by have := hy.l; omega); rw [hy.t] at h; exact h
  have hly := mt lm_len0.1 h0
  have hlx := mt lm_len0.1 h1
  have hGc : Spec Tryz.prog 70 [.n false .u64 (lm (x : Int)), .n false .u64 (lm (y : Int))] (fun o => o = .ret (.n false .u64 (lm ((Nat.gcd x y : Nat) : Int)))) := Xf (lm (x : Int)) (lm (y : Int)) x y (Rw.of hx.b).l (Rw.of hy.b).l (Cu _) (Cu _) (Rw.of hx.b).v (Rw.of hy.b).v
  have hQx : Spec Tryz.prog 71 [.n false .u64 (lm (x : Int)), .n false .u64 (lm ((Nat.gcd x y : Nat) : Int))] (fun o => o = .ret (.t [.n false .u64 (lm ((rn0 x y : Nat) : Int)), .i .i64 0])) := by have h := Lk (x : Int) ((Nat.gcd x y : Nat) : Int) hx.b (Ta h0 hy.b) (by have := Dk (x := x) h0; omega); rw [Kx] at h; exact h
  have hQy : Spec Tryz.prog 71 [.n false .u64 (lm (y : Int)), .n false .u64 (lm ((Nat.gcd x y : Nat) : Int))] (fun o => o = .ret (.t [.n false .u64 (lm ((rd0 x y : Nat) : Int)), .i .i64 0])) := by have h := Lk (y : Int) ((Nat.gcd x y : Nat) : Int) hy.b (Ta h0 hy.b) (by have := Dk (x := x) h0; omega); rw [Kx] at h; exact h
  refine Zs <| A1 (Bn (id := 0) (n := 3) rfl rfl rfl (by decide) rfl) (hd 1 rfl) <| Za rfl (hd 2 rfl) <| Za rfl (hd 3 rfl) <| Za rfl (hd 4 rfl) <| Ab <| Ae <| Bo (n := 9) _ rfl B9 <| Z2 0 [1, 2, 3, 6, 7, 8] (Am (A5 Cg rfl rfl rfl) (hd 8 rfl)) rfl <| Z2 1 [2, 3, 6, 7, 8] (Am (A5 By rfl rfl rfl) (hd 9 rfl)) rfl <| Z2 2 [3, 6, 7, 8] (Am (A9 B5 rfl rfl rfl) (hd 10 rfl)) rfl <| Z2 4 [5, 6, 7, 8] (Am (A5 Cs rfl rfl rfl) (hd 12 rfl)) rfl ?_; refine Z2 5 [6, 7, 8] (Am (A9 B5 rfl rfl rfl) (hd 13 rfl)) rfl ?_
  refine Be 3 ?_ rfl (by kernel_rfl)
  refine Ax Tryz.f66 (hNl) rfl Tryz.func66 rfl rfl (Aa rfl Ad) (.cons .n .nil) (hd 11 rfl) ?_ (fun _ h => by simp at h)
  rintro y hy; injection hy with hy; subst hy
  refine Be 6 ?_ rfl (by kernel_rfl)
  refine Ax Tryz.f66 (hNd) rfl Tryz.func66 rfl rfl (Aa rfl Ad) (.cons .n .nil) (hd 14 rfl) ?_ (fun _ h => by simp at h)
  rintro _ ⟨⟩; refine Z1 7 (Am (Cm rfl) (hd 5 rfl)) rfl <| Z1 8 (Am (Cm rfl) (hd 6 rfl)) rfl <| Bx (by kernel_rfl) <| Ae <| Zs <| Zm rfl (hd 15 rfl) <| Ac (Ar A7 rfl) (hd 16 rfl) <| Ac (B0 (Cq rfl rfl) (by omega)) (hd 17 rfl) <| Ab <| A6 rfl <| Aj <| Ae ?_; refine Zs <| Zm rfl (hd 20 rfl) <| Ac (Ar A7 rfl) (hd 21 rfl) <| Ac (B0 (Cq rfl rfl) (by omega)) (hd 22 rfl) <| Ab <| A6 rfl <| Aj <| Zs <| Zm rfl (hd 24 rfl) <| Zm rfl (hd 25 rfl) ?_
  refine Ag Tryz.f70 (hGc) rfl Tryz.func70 rfl rfl (Aa rfl (Aa rfl Ad)) (.cons .n (.cons .n .nil)) (hd 26 rfl) ?_ (fun _ h => by simp at h)
  rintro _ ⟨⟩; refine Za rfl (hd 7 rfl) <| Ab <| Ae <| Bo (n := 18) _ rfl B9 <| Z2 0 [1, 2, 15, 16, 17] (Am (A5 Cg rfl rfl rfl) (hd 27 rfl)) rfl <| Z1 1 (Am (A5 Cx rfl rfl rfl) (hd 28 rfl)) rfl <| Z1 2 (Am (A9 Il rfl rfl rfl) (hd 29 rfl)) rfl <| Z2 3 [5, 6, 7, 8, 11, 12, 13, 14, 15, 16, 17] (Am (Ay rfl) (hd 30 rfl)) rfl <| Z2 4 [5, 6, 7, 8, 11, 12, 13, 14, 15, 16, 17] (Am (Ay rfl) (hd 31 rfl)) rfl <| Z2 9 [11, 12, 13, 14, 15, 16, 17] (Am (Ay rfl) (hd 36 rfl)) rfl <| Z2 10 [11, 12, 13, 14, 15, 16, 17] (Am (Ay rfl) (hd 37 rfl)) rfl ?_
  refine Be 5 ?_ rfl (by kernel_rfl)
  refine Ax Tryz.f71 (hQx) rfl Tryz.func71 rfl rfl (Aa rfl (Aa rfl Ad)) (.cons .n (.cons .n .nil)) (hd 32 rfl) ?_ (fun _ h => by simp at h)
  rintro _ ⟨⟩; refine Z2 6 [8, 11, 12, 13, 14, 15, 16, 17] (Am (Ai rfl rfl) (hd 33 rfl)) rfl <| Z2 7 [8, 11, 12, 13, 14, 15, 16, 17] (Am (Ai rfl rfl) (hd 34 rfl)) rfl ?_
  refine Be 8 ?_ rfl (by kernel_rfl)
  refine Ax Tryz.f32 (Gr _) rfl Tryz.func32 rfl rfl (Aa rfl (Aa rfl Ad)) (.cons .n (.cons .i .nil)) (hd 35 rfl) ?_ (fun _ h => by simp at h)
  rintro y hy; injection hy with hy; subst hy
  refine Be 11 ?_ rfl (by kernel_rfl)
  refine Ax Tryz.f71 (hQy) rfl Tryz.func71 rfl rfl (Aa rfl (Aa rfl Ad)) (.cons .n (.cons .n .nil)) (hd 38 rfl) ?_ (fun _ h => by simp at h)
  rintro _ ⟨⟩; refine Z2 12 [14, 15, 16, 17] (Am (Ai rfl rfl) (hd 39 rfl)) rfl <| Z2 13 [14, 15, 16, 17] (Am (Ai rfl rfl) (hd 40 rfl)) rfl ?_
  refine Be 14 ?_ rfl (by kernel_rfl)
  refine Ax Tryz.f32 (Gr _) rfl Tryz.func32 rfl rfl (Aa rfl (Aa rfl Ad)) (.cons .n (.cons .i .nil)) (hd 41 rfl) ?_ (fun _ h => by simp at h)
  rintro _ ⟨⟩; refine Z1 15 (Am (Cm rfl) (hd 2 rfl)) rfl <| Z1 16 (Am (Cm rfl) (hd 3 rfl)) rfl <| Z1 17 (Am (Cm rfl) (hd 4 rfl)) rfl <| Bx (by kernel_rfl) <| An ?_
  refine ⟨_, _, (.cons rfl (.cons rfl (.cons rfl .nil))), (.t1 .b (.t1 .n (.t1 .n .t0))), ?_⟩
  rw [Sy h1]

theorem P2 (s : Bool) (l d : List Int) (x y : Nat) (hx : Rw l x) (hy : Rw d y) (h0 : y ≠ 0) : Spec Tryz.prog 29 [(.a [.b s, .n false .u64 l, .n false .u64 d])] (fun o => o = .ret (.t [.b (sgq s x), .n false .u64 (lm ((rn0 x y : Nat) : Int)), .n false .u64 (lm ((rd0 x y : Nat) : Int))])) := by
  by_cases h1 : x = 0
  · subst h1; exact Ado s l d y hx hy h0
  · exact Adn s l d x y hx hy h0 h1

theorem Em (s : Bool) (l d : List Int) (x y : Nat) (hx : Rw l x) (hy : Rw d y) (h0 : y ≠ 0) : Spec Tryz.prog 54 [(.a [.b s, .n false .u64 l, .n false .u64 d])] (fun o => o = .ret (.a [.b (sgq s x), .n false .u64 (lm ((rn0 x y : Nat) : Int)), .n false .u64 (lm ((rd0 x y : Nat) : Int))])) := by
  refine Aw [(0, (.a [.b s, .n false .u64 l, .n false .u64 d]))] rfl Tryz.func54 rfl (Zb rfl) fun Γ hN hds hL hR => ?_
  have hd := B2 17 hN
  refine Zs <| A1 (Bn (id := 0) (n := 3) rfl rfl rfl (by decide) rfl) (hd 1 rfl) <| A1 (Aq (id := 1) B4 (by decide) rfl (by decide) rfl) (hd 2 rfl) <| Ab <| Zs <| Ac (Au Ap rfl rfl rfl rfl) (hd 7 rfl) ?_
  refine Ag Tryz.f29 (P2 s l d x y hx hy h0) rfl Tryz.func29 rfl rfl (Aa rfl Ad) (.cons (.a1 .b (.a1 .n (.a1 .n .a0))) .nil) (hd 8 rfl) ?_ (fun _ h => by simp at h)
  rintro _ ⟨⟩; refine Zm rfl (hd 6 rfl) <| Ac (Ai rfl rfl) (hd 9 rfl) <| Ac (Ai rfl rfl) (hd 10 rfl) <| Ac (Ai rfl rfl) (hd 11 rfl) <| Za rfl (hd 3 rfl) <| Za rfl (hd 4 rfl) <| Za rfl (hd 5 rfl) <| Ab <| Zs <| Zm rfl (hd 12 rfl) <| Zm rfl (hd 13 rfl) <| Ac (Bp (is := [0, 1]) (xs := [.tmp 12, .tmp 13]) Az C0 rfl (Aa rfl (Aa rfl Ad)) rfl (by first | (simp [Ci, cellsV]; done) | (simp [Ci, cellsV, old]; done)) (Cd rfl) rfl) (hd 14 rfl) ?_; refine Zm rfl (hd 15 rfl) <| Ac (Bp (is := [0, 1]) (xs := [.tmp 14, .tmp 15]) B4 Dm rfl (Aa rfl (Aa rfl Ad)) rfl ⟨rfl, (by decide), rfl, (by decide), trivial⟩ (Cd rfl) rfl) (hd 16 rfl) <| A3 (Ah rfl rfl rfl Bq rfl rfl (Zb rfl)) <| Ab <| An ?_
  refine ⟨_, _, (.cons (ResV.cell Ap rfl rfl rfl rfl) .nil), (.a1 .b (.a1 .n (.a1 .n .a0))), ?_⟩
  exact rfl


theorem Rv (rs : List (Bool × List Int × List Int)) (hr : ∀ r ∈ rs, r.2.2.length ≤ 1048576 ∧ Av r.2.2) (hrl : rs.length ≤ 1000) : Spec Tryz.prog 25 [.l false 3 (Tg rs)] (fun o => o = lkO 100 rs) := by
  refine Aw [(0, .l false 3 (Tg rs))] rfl Tryz.func25 rfl (Zb rfl) fun Γ hN hds hL hR => ?_
  have hd := B2 17 hN
  refine Zs <| Zm rfl (hd 4 rfl) <| Ac (I8 Rb rfl) (hd 5 rfl) <| Zm rfl (hd 6 rfl) <| Ab <| At ?_
  refine Fy (G := Nat) 0 (fun i => i ≤ rs.length ∧ ∀ j < i, vl (Di rs j).2.2 ≠ 0) (fun i => [(6, .i .i64 (i : Int)), (3, .u), (7, .u), (8, .u), (9, .u), (10, .u), (11, .u), (12, .u), (13, .u), (14, .u), (15, .u), (16, .u)]) (fun i => []) (fun i => rs.length - i) 0 ?_ ?_ rfl hR rfl (fun _ _ => rfl) (fun g _ => .nil) ?_
  · exact ⟨Nat.zero_le _, fun j h => absurd h (Nat.not_lt_zero _)⟩
  · exact (.cons rfl (.v9 (.u .nil)))
  · rintro i ⟨hi, hj⟩; refine Zs <| Ac (Ca rfl rfl) (hd 7 rfl) <| Ab <| Ae ?_
    refine Bh rfl (fun h1 => ?_) (fun h1 => ?_)
    · have hil : i < rs.length := by have h9 : (i : Int) < ((Tg rs).length : Int) := h1; rw [Jz] at h9; omega
      have hru : (Di rs i).2.2.length ≤ 1048576 ∧ Av (Di rs i).2.2 := by have h9 := hr _ (List.getElem_mem hil); unfold Di; rwa [List.getD_eq_getElem?_getD, List.getElem?_eq_getElem hil]
      have hrv := A4 hru.2
      have hLn := Dl (Di rs i).2.2 (by omega) hru.2
      rw [Fd hru.2 rfl] at hLn
      refine Aj <| Ae <| At <| Zs <| Ac (Ov (i := i) (row := [V.b (Di rs i).1, V.n false .u64 (Di rs i).2.1, V.n false .u64 (Di rs i).2.2]) Rb rfl rfl (by omega) (Un hil)) (hd 8 rfl) <| Ac (M6 Ap rfl rfl rfl) (hd 9 rfl) <| A1 (Aq (id := 0) B4 (by decide) rfl (by decide) rfl) (hd 3 rfl) <| A3 (Ah rfl rfl rfl Bq rfl rfl (Zb rfl)) <| Ab <| Zs <| Ac (A5 Cs rfl rfl rfl) (hd 10 rfl) ?_; refine Ac (A9 B5 rfl rfl rfl) (hd 11 rfl) ?_
      refine Ag Tryz.f30 (hLn) rfl Tryz.func30 rfl rfl (Aa rfl Ad) (.cons .n .nil) (hd 12 rfl) ?_ (fun _ h => by simp at h)
      rintro _ ⟨⟩; refine Ac (Cq rfl rfl) (hd 13 rfl) <| Ab ?_
      refine Bh rfl (fun h2 => ?_) (fun h2 => ?_)
      · have hz : vl (Di rs i).2.2 = 0 := by have h9 : ((Al (vl (Di rs i).2.2) : Nat) : Int) = 0 := h2; have h7 := K6 (x := (vl (Di rs i).2.2).toNat); rw [Int.toNat_of_nonneg hrv] at h7; have := h7.1 (by omega); omega
        refine Af <| Ac (Bp (is := [0]) (xs := [.const (.int .i64 70)]) H8 U2 rfl (Aa rfl Ad) rfl (by first | (simp [Ci, cellsV]; done) | (simp [Ci, cellsV, old]; done)) (Cd rfl) rfl) (hd 14 rfl) <| Ac (Aj7 Kz rfl) (hd 15 rfl) <| Y0 rfl ?_
        show Out.pan _ = lkO 100 rs
        rw [Akd hil hz]
        rfl
      · have hnz : vl (Di rs i).2.2 ≠ 0 := fun e => by have h9 : ¬ ((Al (vl (Di rs i).2.2) : Nat) : Int) = 0 := h2; rw [e] at h9; exact h9 rfl
        refine Aj <| Af <| Ac (Bd rfl rfl (r := ((i + 1 : Nat) : Int)) (by rw [Ak (by omega) (by omega)]; omega)) (hd 16 rfl) <| Zm rfl (hd 6 rfl) <| Ab ?_
        refine ⟨i + 1, ?_, ?_, rfl, Bj 22 rfl rfl ?_⟩
        · exact ⟨by omega, fun j hjj => by rcases Nat.lt_or_ge j i with h9 | h9; exact hj j h9; rw [show j = i by omega]; exact hnz⟩
        · omega
        · exact (.cons rfl (.v9 (.u .nil)))
    · obtain rfl : i = rs.length := by have h9 : ¬ (i : Int) < ((Tg rs).length : Int) := h1; rw [Jz] at h9; omega
      refine Br ?_
      refine ⟨_, _, .nil, .t0, ?_⟩
      rw [Akc hj]

theorem Io (s : Bool) (l d : List Int) (y : Nat) (hy : Rw d y) (h0 : y ≠ 0) : Spec Tryz.prog 25 [.l false 3 [[V.b s, V.n false .u64 l, V.n false .u64 d]]] (fun o => o = .ret (.t [])) := by
  have h := Rv [(s, l, d)] (fun r hr => by simp only [List.mem_cons, List.mem_nil_iff, or_false] at hr; subst hr; exact ⟨hy.l, hy.u⟩) (by simp)
  have h1 : (vl d ≠ 0) := by rw [hy.v]; omega
  rwa [show lkO 100 [(s, l, d)] = .ret (.t []) by unfold lkO; simp [h1]] at h
theorem Es (s : Bool) (l d : List Int) (y : Nat) (s2 : Bool) (l2 d2 : List Int) (y2 : Nat) (hy : Rw d y) (h0 : y ≠ 0) (hy2 : Rw d2 y2) (h02 : y2 ≠ 0) : Spec Tryz.prog 25 [.l false 3 [[V.b s, V.n false .u64 l, V.n false .u64 d], [V.b s2, V.n false .u64 l2, V.n false .u64 d2]]] (fun o => o = .ret (.t [])) := by
  have h := Rv [(s, l, d), (s2, l2, d2)] (fun r hr => by simp only [List.mem_cons, List.mem_nil_iff, or_false] at hr; rcases hr with rfl | rfl; exact ⟨hy.l, hy.u⟩; exact ⟨hy2.l, hy2.u⟩) (by simp)
  have h1 : (vl d ≠ 0) := by rw [hy.v]; omega
  have h2 : (vl d2 ≠ 0) := by rw [hy2.v]; omega
  rwa [show lkO 100 [(s, l, d), (s2, l2, d2)] = .ret (.t []) by unfold lkO; simp [h1, h2]] at h

theorem Xb (s : Bool) (l d : List Int) (x y : Nat) (hx : Rw l x) (hy : Rw d y) (h0 : y ≠ 0) : Spec Tryz.prog 20 [(.a [.b s, .n false .u64 l, .n false .u64 d])] (fun o => o = .ret (.t [(.a [.b (sgq s x), .n false .u64 (lm ((rn0 x y : Nat) : Int)), .n false .u64 (lm ((rd0 x y : Nat) : Int))]), .i .i64 0])) := by
  refine D6 [(0, (.a [.b s, .n false .u64 l, .n false .u64 d]))] rfl Tryz.func20 rfl (Zb rfl) fun Γ 𝓡 hN hds hL hR hE => ?_
  have hd := B2 7 hN
  refine Dr <| Af <| A1 (Bn (id := 0) (n := 3) rfl rfl rfl (by decide) rfl) (hd 1 rfl) <| A1 (Aq (id := 1) B4 (by decide) rfl (by decide) rfl) (hd 2 rfl) <| A1 (Aq (id := 2) Ep (by decide) rfl (by decide) rfl) (hd 3 rfl) <| Ab <| Dj (g := 67) (caps := [.p 1 0 0, .p 2 0 0]) 3 [_] (ops := [_, _]) rfl Tryz.func67 rfl rfl rfl hds hR hL hE <| Ac (F5 (Aa rfl (Aa rfl Ad))) (hd 4 rfl) <| Ab ?_
  refine ⟨rfl, rfl, rfl, ?_⟩
  intro Γ1 hN1 hL hR1
  replace hd : ∀ d, Nat.blt d 7 = true → d < Γ1.N := fun d h => by rw [hN1]; exact hd d h
  refine Ab <| Zs <| Ac (Au Ap rfl rfl rfl rfl) (hd 5 rfl) ?_
  refine Ag Tryz.f54 (Em s l d x y hx hy h0) rfl Tryz.func54 rfl rfl (Aa rfl Ad) (.cons (.a1 .b (.a1 .n (.a1 .n .a0))) .nil) (hd 6 rfl) ?_ (fun _ h => by simp at h)
  rintro _ ⟨⟩; refine A3 (Ah rfl rfl rfl Bq rfl rfl (Zb rfl)) <| A3 (Ah rfl rfl rfl E5 rfl rfl (Zb rfl)) <| Ab <| An <| Clo.fin Z8 (m := 3) (i := 1) (j := 2) (Zb rfl) rfl rfl rfl rfl ?_
  refine ⟨_, _, (.cons (ResV.cell Ap rfl rfl rfl rfl) (.cons (ResV.cell1 Cr rfl rfl rfl) .nil)), (.t1 (.a1 .b (.a1 .n (.a1 .n .a0))) (.t1 .i .t0)), ?_⟩
  exact rfl

theorem Ss (s : Bool) (l d : List Int) (x y : Nat) (hx : Rw l x) (hy : Rw d y) (h0 : y ≠ 0) : Spec Tryz.prog 53 [(.a [.b s, .n false .u64 l, .n false .u64 d])] (fun o => o = .ret (.t [(.a [.b (sgq (!s) x), .n false .u64 (lm ((rn0 x y : Nat) : Int)), .n false .u64 (lm ((rd0 x y : Nat) : Int))]), .i .i64 0])) := by
  refine D6 [(0, (.a [.b s, .n false .u64 l, .n false .u64 d]))] rfl Tryz.func53 rfl (Zb rfl) fun Γ 𝓡 hN hds hL hR hE => ?_
  have hd := B2 21 hN
  refine Dr <| Af <| A1 (Bn (id := 0) (n := 3) rfl rfl rfl (by decide) rfl) (hd 1 rfl) <| A1 (Aq (id := 1) B4 (by decide) rfl (by decide) rfl) (hd 2 rfl) <| A1 (Aq (id := 2) Ep (by decide) rfl (by decide) rfl) (hd 3 rfl) <| Ab <| Dj (g := 98) (caps := [.p 1 0 0, .p 2 0 0]) 3 [_] (ops := [_, _]) rfl Tryz.func98 rfl rfl rfl hds hR hL hE <| Ac (F5 (Aa rfl (Aa rfl Ad))) (hd 4 rfl) <| Ab ?_
  refine ⟨rfl, rfl, rfl, ?_⟩
  intro Γ1 hN1 hL hR1
  replace hd : ∀ d, Nat.blt d 21 = true → d < Γ1.N := fun d h => by rw [hN1]; exact hd d h
  refine Ab <| Zs <| Ac (Au Ap rfl rfl rfl rfl) (hd 5 rfl) ?_
  refine Ag Tryz.f54 (Em s l d x y hx hy h0) rfl Tryz.func54 rfl rfl (Aa rfl Ad) (.cons (.a1 .b (.a1 .n (.a1 .n .a0))) .nil) (hd 6 rfl) ?_ (fun _ h => by simp at h)
  rintro _ ⟨⟩; refine A3 (Ah rfl rfl rfl Bq rfl rfl (Zb rfl)) <| Ab <| Zs <| Ac (A5 Cg rfl rfl rfl) (hd 7 rfl) <| Ac (A5 Cx rfl rfl rfl) (hd 8 rfl) <| Ac (A9 Il rfl rfl rfl) (hd 9 rfl) <| Ac (Ha rfl) (hd 10 rfl) <| Zm rfl (hd 11 rfl) ?_
  refine J7 11 rfl (fun h1 => ?_) (fun h1 => ?_)
  · refine Bi 11 rfl rfl (A5 Cg rfl rfl rfl) (hd 12 rfl) <| Bi 11 rfl rfl (A5 By rfl rfl rfl) (hd 13 rfl) <| Bi 11 rfl rfl (A9 B5 rfl rfl rfl) (hd 14 rfl) <| Bi 11 rfl rfl (Ar A7 rfl) (hd 15 rfl) <| Bi 11 rfl rfl (Ce rfl rfl) (hd 16 rfl) <| Ac (Bt rfl rfl) (hd 17 rfl) <| Ac (A5 Cg rfl rfl rfl) (hd 18 rfl) <| Ac (A5 Cx rfl rfl rfl) (hd 19 rfl) <| A3 (Ah rfl rfl rfl Ak1 rfl rfl (Zb rfl)) <| Ab <| Zs <| Ac (Au Ap rfl rfl rfl rfl) (hd 20 rfl) ?_; refine A3 (Ah rfl rfl rfl Bq rfl rfl (Zb rfl)) <| A3 (Ah rfl rfl rfl E5 rfl rfl (Zb rfl)) <| Ab <| An <| Clo.fin Sl (m := 3) (i := 1) (j := 2) (Zb rfl) rfl rfl rfl rfl ?_
    refine ⟨_, _, (.cons (ResV.cell Ap rfl rfl rfl rfl) (.cons (ResV.cell1 Cr rfl rfl rfl) .nil)), (.t1 (.a1 .b (.a1 .n (.a1 .n .a0))) (.t1 .i .t0)), ?_⟩
    have e9 := Ue (s := s) (x := x) (y := y)
    rw [h1, Bool.true_and] at e9
    rw [e9]
  · refine Bz 11 rfl rfl rfl (hd 12 rfl) <| Bz 11 rfl rfl rfl (hd 13 rfl) <| Bz 11 rfl rfl rfl (hd 14 rfl) <| Bz 11 rfl rfl rfl (hd 15 rfl) <| Bz 11 rfl rfl rfl (hd 16 rfl) <| Ac (Bg rfl rfl) (hd 17 rfl) <| Ac (A5 Cg rfl rfl rfl) (hd 18 rfl) <| Ac (A5 Cx rfl rfl rfl) (hd 19 rfl) <| A3 (Ah rfl rfl rfl Ak1 rfl rfl (Zb rfl)) <| Ab <| Zs <| Ac (Au Ap rfl rfl rfl rfl) (hd 20 rfl) ?_; refine A3 (Ah rfl rfl rfl Bq rfl rfl (Zb rfl)) <| A3 (Ah rfl rfl rfl E5 rfl rfl (Zb rfl)) <| Ab <| An <| Clo.fin Sl (m := 3) (i := 1) (j := 2) (Zb rfl) rfl rfl rfl rfl ?_
    refine ⟨_, _, (.cons (ResV.cell Ap rfl rfl rfl rfl) (.cons (ResV.cell1 Cr rfl rfl rfl) .nil)), (.t1 (.a1 .b (.a1 .n (.a1 .n .a0))) (.t1 .i .t0)), ?_⟩
    have e9 := Ue (s := s) (x := x) (y := y)
    rw [h1, Bool.false_and] at e9
    first | rw [← e9] | rw [h1, ← e9]

theorem M3 (s : Bool) (l d : List Int) (hl : l.length ≤ 1048576) (hu : Av l) : Spec Tryz.prog 50 [(.a [.b s, .n false .u64 l, .n false .u64 d])] (fun o => o = .ret (.i .i64 (C8 (sv s l)))) := by
  refine Aw [(0, (.a [.b s, .n false .u64 l, .n false .u64 d]))] rfl Tryz.func50 rfl (Zb rfl) fun Γ hN hds hL hR => ?_
  have hd := B2 6 hN
  refine Zs <| A1 (Bn (id := 0) (n := 3) rfl rfl rfl (by decide) rfl) (hd 1 rfl) <| Za rfl (hd 2 rfl) <| Ab <| Zs <| Ac (A5 Cg rfl rfl rfl) (hd 3 rfl) <| Ac (Au Bw rfl rfl rfl rfl) (hd 4 rfl) ?_
  refine Ag Tryz.f93 (Qw s l (by omega) hu) rfl Tryz.func93 rfl rfl (Aa rfl Ad) (.cons (.a1 .b (.a1 .n .a0)) .nil) (hd 5 rfl) ?_ (fun _ h => by simp at h)
  rintro _ ⟨⟩; refine Za rfl (hd 2 rfl) <| Ab <| An ?_
  refine ⟨_, _, (.cons rfl .nil), .i, ?_⟩
  exact rfl

theorem Aff (s t : Bool) (l d : List Int) (x y : Nat) (hx : Rw l x) (hy : Rw d y) (h0 : y ≠ 0) : Spec Tryz.prog 43 [.a [.b s, .n false .u64 l], .a [.b t, .n false .u64 d]] (fun o => o = .ret (.t [(.a [.b (sgq (s != t) x), .n false .u64 (lm ((rn0 x y : Nat) : Int)), .n false .u64 (lm ((rd0 x y : Nat) : Int))]), .i .i64 0])) := by
  refine D6 [(0, .a [.b s, .n false .u64 l]), (1, .a [.b t, .n false .u64 d])] rfl Tryz.func43 rfl (Zb rfl) fun Γ 𝓡 hN hds hL hR hE => ?_
  have hd := B2 21 hN
  refine Dr <| Af <| A1 (Bn (id := 0) (n := 2) rfl rfl rfl (by decide) rfl) (hd 2 rfl) <| A1 (Bn (id := 1) (n := 2) rfl rfl rfl (by decide) rfl) (hd 3 rfl) <| A1 (Aq (id := 2) B4 (by decide) rfl (by decide) rfl) (hd 4 rfl) <| A1 (Aq (id := 3) Ep (by decide) rfl (by decide) rfl) (hd 5 rfl) <| Ab <| Dj (g := 84) (caps := [.p 2 0 0, .p 3 0 0]) 4 [_] (ops := [_, _]) rfl Tryz.func84 rfl rfl rfl hds hR hL hE <| Ac (F5 (Aa rfl (Aa rfl Ad))) (hd 7 rfl) <| Ab ?_
  refine ⟨rfl, rfl, rfl, ?_⟩
  intro Γ1 hN1 hL hR1
  replace hd : ∀ d, Nat.blt d 21 = true → d < Γ1.N := fun d h => by rw [hN1]; exact hd d h
  refine Ab <| Zs <| Ac (A5 Cx rfl rfl rfl) (hd 8 rfl) <| Ac (A9 Il rfl rfl rfl) (hd 9 rfl) <| Ac (A5 Cx rfl rfl rfl) (hd 10 rfl) <| Ac (A9 Il rfl rfl rfl) (hd 11 rfl) <| Ac (Ot Afk rfl rfl) (hd 12 rfl) <| Za rfl (hd 6 rfl) <| Ab <| Zs <| Zm rfl (hd 13 rfl) ?_; refine Ac (A5 By rfl rfl rfl) (hd 14 rfl) <| Ac (A9 B5 rfl rfl rfl) (hd 15 rfl) <| Ac (Bp (is := [0, 1]) (xs := [.tmp 13, .tmp 15]) Az C0 rfl (Aa rfl (Aa rfl Ad)) rfl (by first | (simp [Ci, cellsV]; done) | (simp [Ci, cellsV, old]; done)) (Cd rfl) rfl) (hd 16 rfl) <| Ac (A5 By rfl rfl rfl) (hd 17 rfl) <| Ac (A9 B5 rfl rfl rfl) (hd 18 rfl) <| Ac (Bp (is := [0, 1]) (xs := [.tmp 16, .tmp 18]) B4 Dm rfl (Aa rfl (Aa rfl Ad)) rfl ⟨rfl, (by decide), rfl, (by decide), trivial⟩ (Cd rfl) rfl) (hd 19 rfl) ?_
  refine Ag Tryz.f54 (Em _ l d x y hx hy h0) rfl Tryz.func54 rfl rfl (Aa rfl Ad) (.cons (.a1 .b (.a1 .n (.a1 .n .a0))) .nil) (hd 20 rfl) ?_ (fun _ h => by simp at h)
  rintro _ ⟨⟩; refine A3 (Ah rfl rfl rfl Bq rfl rfl (Zb rfl)) <| A3 (Ah rfl rfl rfl E5 rfl rfl (Zb rfl)) <| Ab <| An <| Clo.fin Z7 (m := 4) (i := 2) (j := 3) (Zb rfl) rfl rfl rfl rfl ?_
  refine ⟨_, _, (.cons (ResV.cell Ap rfl rfl rfl rfl) (.cons (ResV.cell1 Cr rfl rfl rfl) .nil)), (.t1 (.a1 .b (.a1 .n (.a1 .n .a0))) (.t1 .i .t0)), ?_⟩
  exact rfl

theorem Jp (v : Int) (hv : inI v) : Spec Tryz.prog 46 [.i .i64 v] (fun o => o = .ret (.a [.b (decide (v < 0)), .n true .u64 (lm v), .n true .u64 (lm ((1 : Nat) : Int))])) := by
  refine Aw [(0, .i .i64 v)] rfl Tryz.func46 rfl (Zb rfl) fun Γ hN hds hL hR => ?_
  have hd := B2 7 hN
  have hF1 : Spec Tryz.prog 35 [.i .u64 1] (fun o => o = .ret (.n true .u64 [1])) := by have h := Gn 1; rwa [if_neg (by decide)] at h
  refine Zs <| A1 (Aq (id := 0) B4 (by decide) rfl (by decide) rfl) (hd 2 rfl) <| Ab <| Zs <| Zm rfl (hd 3 rfl) ?_
  refine Ag Tryz.f92 (Ame v hv) rfl Tryz.func92 rfl rfl (Aa rfl Ad) (.cons .i .nil) (hd 4 rfl) ?_ (fun _ h => by simp at h)
  rintro y hy; injection hy with hy; subst hy
  refine Ag Tryz.f35 (hF1) rfl Tryz.func35 rfl rfl (Aa rfl Ad) (.cons .i .nil) (hd 5 rfl) ?_ (fun _ h => by simp at h)
  rintro _ ⟨⟩; refine Ac (Bp (is := [0, 1]) (xs := [.tmp 4, .tmp 5]) B4 Dm rfl (Aa rfl (Aa rfl Ad)) rfl ⟨rfl, (by decide), rfl, (by decide), trivial⟩ (Cd rfl) rfl) (hd 6 rfl) <| A3 (Ah rfl rfl rfl Bq rfl rfl (Zb rfl)) <| Ab <| An ?_
  refine ⟨_, _, (.cons (ResV.cell Ap rfl rfl rfl rfl) .nil), (.a1 .b (.a1 .n (.a1 .n .a0))), ?_⟩
  rw [M9]

theorem Aai (s : Bool) (l d : List Int) (x y : Nat) (hx : Rw l x) (hy : Rw d y) (h0 : y ≠ 0) : Spec Tryz.prog 44 [(.a [.b s, .n false .u64 l, .n false .u64 d])] (fun o => o = .ret (.t [.s (rtx (sgq s x) (rn0 x y) (rd0 x y)), .i .i64 0])) := by
  refine D6 [(0, (.a [.b s, .n false .u64 l, .n false .u64 d]))] rfl Tryz.func44 rfl (Zb rfl) fun Γ 𝓡 hN hds hL hR hE => ?_
  have hd := B2 38 hN
  have hbn : Al ((rn0 x y : Nat) : Int) ≤ 67108864 := Py hx.b
  have hbd : Al ((rd0 x y : Nat) : Int) ≤ 67108864 := Kv hy.b
  have hRn := Rw.of hbn
  have hRd := Rw.of hbd
  have hF1 : Spec Tryz.prog 35 [.i .u64 1] (fun o => o = .ret (.n true .u64 [1])) := by have h := Gn 1; rwa [if_neg (by decide)] at h
  have hsn := Rp _ hbn
  have hsd := Rp _ hbd
  have hl1 := hRd.l
  have hPn : Spec Tryz.prog 88 [.n false .u64 (lm ((rn0 x y : Nat) : Int)), .i .i64 10] (fun o => o = .ret (.t [.s (ntx (rn0 x y)), .i .i64 0])) := by have h := Xc (lm ((rn0 x y : Nat) : Int)) 10 hRn.l hRn.u (by decide) (by decide); rwa [hRn.v, Int.toNat_natCast] at h
  have hPd : Spec Tryz.prog 88 [.n false .u64 (lm ((rd0 x y : Nat) : Int)), .i .i64 10] (fun o => o = .ret (.t [.s (ntx (rd0 x y)), .i .i64 0])) := by have h := Xc (lm ((rd0 x y : Nat) : Int)) 10 hRd.l hRd.u (by decide) (by decide); rwa [hRd.v, Int.toNat_natCast] at h
  have hCp : Spec Tryz.prog 89 [.n false .u64 (lm ((rd0 x y : Nat) : Int)), .n false .u64 [1]] (fun o => o = .ret (.i .i64 (C1 ((rd0 x y : Nat) : Int) 1))) := by have h := Pf ((rd0 x y : Nat) : Int) ((1 : Nat) : Int) (by omega) (by rw [M9]; decide); rw [M9, Int.natAbs_natCast, Int.natAbs_natCast] at h; exact h
  refine Dr <| Af <| A1 (Bn (id := 0) (n := 3) rfl rfl rfl (by decide) rfl) (hd 1 rfl) <| A1 (Aq (id := 1) Ajj (by decide) rfl (by decide) rfl) (hd 2 rfl) <| A1 (Aq (id := 2) Ep (by decide) rfl (by decide) rfl) (hd 3 rfl) <| Ab <| Dj (g := 85) (caps := [.p 1 0 0, .p 2 0 0]) 3 [_] (ops := [_, _]) rfl Tryz.func85 rfl rfl rfl hds hR hL hE <| Ac (F5 (Aa rfl (Aa rfl Ad))) (hd 5 rfl) <| Ab ?_
  refine ⟨rfl, rfl, rfl, ?_⟩
  intro Γ1 hN1 hL hR1
  replace hd : ∀ d, Nat.blt d 38 = true → d < Γ1.N := fun d h => by rw [hN1]; exact hd d h
  refine Ab <| Zs <| Ac (Au Ap rfl rfl rfl rfl) (hd 6 rfl) <| A1 (Do (id := 3) (xs := [.tmp 6]) E0 rfl (Aa rfl Ad) rfl (Cz rfl) (by decide) rfl) (hd 7 rfl) <| Dy 7 (sz := 3) [[V.b s, V.n false .u64 l, V.n false .u64 d]] rfl rfl rfl rfl (by simp) (by simp [Ef]) (by decide) hL ?_
  refine Ag Tryz.f25 (Io s l d y hy h0) rfl Tryz.func25 rfl rfl (Aa rfl Ad) (.cons .l .nil) (hd 8 rfl) ?_ (fun _ h => by simp at h)
  rintro _ ⟨⟩; refine Ab <| Zs <| Ac (Au Ap rfl rfl rfl rfl) (hd 9 rfl) ?_
  refine Ag Tryz.f54 (Em s l d x y hx hy h0) rfl Tryz.func54 rfl rfl (Aa rfl Ad) (.cons (.a1 .b (.a1 .n (.a1 .n .a0))) .nil) (hd 10 rfl) ?_ (fun _ h => by simp at h)
  rintro _ ⟨⟩; refine A1 (Aq (id := 4) B4 (by decide) rfl (by decide) rfl) (hd 4 rfl) <| A3 (Ah rfl rfl rfl Bq rfl rfl (Zb rfl)) <| Ab <| Zs <| Ac (A5 Cg rfl rfl rfl) (hd 11 rfl) <| Ac (A5 By rfl rfl rfl) (hd 12 rfl) <| Ac (A9 B5 rfl rfl rfl) (hd 13 rfl) ?_
  refine Ag Tryz.f88 (hPn) rfl Tryz.func88 rfl rfl (Aa rfl (Aa rfl Ad)) (.cons .n (.cons .i .nil)) (hd 14 rfl) ?_ (fun _ h => by simp at h)
  rintro _ ⟨⟩; refine Ac (Ai rfl rfl) (hd 15 rfl) <| Ac (Ai rfl rfl) (hd 16 rfl) ?_
  refine Ag Tryz.f87 (Adu _) rfl Tryz.func87 rfl rfl (Aa rfl (Aa rfl Ad)) (.cons .s (.cons .i .nil)) (hd 17 rfl) ?_ (fun _ h => by simp at h)
  rintro _ ⟨⟩; refine A3 (Ah rfl rfl rfl X3 rfl rfl (Zb rfl)) <| Ab <| Ae <| Zs <| Ac (A5 Cg rfl rfl rfl) (hd 18 rfl) <| Ac (A5 Cx rfl rfl rfl) (hd 19 rfl) <| Ac (A9 Il rfl rfl rfl) (hd 20 rfl) <| Ab ?_
  refine F7 rfl (fun h1 => ?_) (fun h1 => ?_)
  · have hs1 : Afl (sgq s x) (rn0 x y) = (⟨#[45]⟩ : ByteArray) ++ ntx (rn0 x y) := by unfold Afl; rw [if_pos h1]
    refine Af <| Ac (A9 Ti rfl rfl rfl) (hd 21 rfl) <| Ac (K5 rfl rfl (by show ((1 + _ : Nat) : Int) ≤ 9223372036854775807; omega)) (hd 22 rfl) <| A3 (Ah rfl rfl rfl X3 rfl rfl (Zb rfl)) <| Ab <| Ae <| Ae <| C7 <| Bo (n := 5) _ rfl B9 <| Z2 0 [1, 3, 4] (Am (A5 Cs rfl rfl rfl) (hd 23 rfl)) rfl <| Z2 1 [3, 4] (Am (A9 B5 rfl rfl rfl) (hd 24 rfl)) rfl ?_
    refine Be 2 ?_ rfl (by kernel_rfl)
    refine Ax Tryz.f35 (hF1) rfl Tryz.func35 rfl rfl (Aa rfl Ad) (.cons .i .nil) (hd 25 rfl) ?_ (fun _ h => by simp at h)
    rintro y hy; injection hy with hy; subst hy
    refine Be 3 ?_ rfl (by kernel_rfl)
    refine Ax Tryz.f89 (hCp) rfl Tryz.func89 rfl rfl (Aa rfl (Aa rfl Ad)) (.cons .n (.cons .n .nil)) (hd 26 rfl) ?_ (fun _ h => by simp at h)
    rintro _ ⟨⟩; refine Z1 4 (Am (Ec rfl rfl) (hd 27 rfl)) rfl <| Bx (by kernel_rfl) ?_
    refine Bh rfl (fun h2 => ?_) (fun h2 => ?_)
    · have hd1 : rd0 x y ≠ 1 := fun e => h2 (by rw [e]; exact Ht.2 rfl)
      refine C7 <| Bo (n := 10) _ rfl B9 <| Z1 0 (Am (A9 Ti rfl rfl rfl) (hd 28 rfl)) rfl <| Z2 1 [2, 3, 4, 5, 6, 7, 8, 9] (Am (A5 Cs rfl rfl rfl) (hd 29 rfl)) rfl <| Z2 2 [3, 4, 5, 6, 7, 8, 9] (Am (A9 B5 rfl rfl rfl) (hd 30 rfl)) rfl ?_
      refine Be 3 ?_ rfl (by kernel_rfl)
      refine Ax Tryz.f88 (hPd) rfl Tryz.func88 rfl rfl (Aa rfl (Aa rfl Ad)) (.cons .n (.cons .i .nil)) (hd 31 rfl) ?_ (fun _ h => by simp at h)
      rintro _ ⟨⟩; refine Z2 4 [6, 7, 8, 9] (Am (Ai rfl rfl) (hd 32 rfl)) rfl <| Z2 5 [6, 7, 8, 9] (Am (Ai rfl rfl) (hd 33 rfl)) rfl ?_
      refine Be 6 ?_ rfl (by kernel_rfl)
      refine Ax Tryz.f87 (Adu _) rfl Tryz.func87 rfl rfl (Aa rfl (Aa rfl Ad)) (.cons .s (.cons .i .nil)) (hd 34 rfl) ?_ (fun _ h => by simp at h)
      rintro _ ⟨⟩; refine Z1 7 (Am (K5 rfl rfl (by show ((1 + _ : Nat) : Int) ≤ 9223372036854775807; omega)) (hd 35 rfl)) rfl <| Z1 8 (Am (K5 rfl rfl (by simp only [ByteArray.size_append]; show ((_ : Nat) : Int) ≤ 9223372036854775807; simp only [show (⟨#[45]⟩ : ByteArray).size = 1 from rfl, show (⟨#[47]⟩ : ByteArray).size = 1 from rfl]; omega)) (hd 36 rfl)) rfl ?_
      refine Be 9 ?_ rfl (by kernel_rfl)
      refine Cl (Ah rfl rfl rfl X3 rfl rfl (Zb rfl)) rfl <| Bx (by kernel_rfl) <| Zs <| Ac (A9 Ti rfl rfl rfl) (hd 37 rfl) <| A3 (Ah rfl rfl rfl X3 rfl rfl (Zb rfl)) <| A3 (Ah rfl rfl rfl E5 rfl rfl (Zb rfl)) <| Ab <| An <| Clo.fin Kb (m := 3) (i := 1) (j := 2) (Zb rfl) rfl rfl rfl rfl ?_
      refine ⟨_, _, (.cons (ResV.cell1 Ti rfl rfl rfl) (.cons (ResV.cell1 Cr rfl rfl rfl) .nil)), (.t1 .s (.t1 .i .t0)), ?_⟩
      show Out.ret _ = Out.ret _
      unfold rtx
      first | rw [if_neg hd1, hs1] | rw [if_pos hd1, hs1]
    · have hd1 : rd0 x y = 1 := by have h9 := Ht.1 (Decidable.not_not.1 h2); omega
      refine Aj <| Zs <| Ac (A9 Ti rfl rfl rfl) (hd 37 rfl) <| A3 (Ah rfl rfl rfl X3 rfl rfl (Zb rfl)) <| A3 (Ah rfl rfl rfl E5 rfl rfl (Zb rfl)) <| Ab <| An <| Clo.fin Kb (m := 3) (i := 1) (j := 2) (Zb rfl) rfl rfl rfl rfl ?_
      refine ⟨_, _, (.cons (ResV.cell1 Ti rfl rfl rfl) (.cons (ResV.cell1 Cr rfl rfl rfl) .nil)), (.t1 .s (.t1 .i .t0)), ?_⟩
      show Out.ret _ = Out.ret _
      unfold rtx
      first | rw [if_neg hd1, hs1] | rw [if_pos hd1, hs1]
  · have hs1 : Afl (sgq s x) (rn0 x y) = ntx (rn0 x y) := by unfold Afl; rw [if_neg (by rw [h1]; decide)]
    refine Aj <| Ae <| Ae <| C7 <| Bo (n := 5) _ rfl B9 <| Z2 0 [1, 3, 4] (Am (A5 Cs rfl rfl rfl) (hd 23 rfl)) rfl <| Z2 1 [3, 4] (Am (A9 B5 rfl rfl rfl) (hd 24 rfl)) rfl ?_
    refine Be 2 ?_ rfl (by kernel_rfl)
    refine Ax Tryz.f35 (hF1) rfl Tryz.func35 rfl rfl (Aa rfl Ad) (.cons .i .nil) (hd 25 rfl) ?_ (fun _ h => by simp at h)
    rintro y hy; injection hy with hy; subst hy
    refine Be 3 ?_ rfl (by kernel_rfl)
    refine Ax Tryz.f89 (hCp) rfl Tryz.func89 rfl rfl (Aa rfl (Aa rfl Ad)) (.cons .n (.cons .n .nil)) (hd 26 rfl) ?_ (fun _ h => by simp at h)
    rintro _ ⟨⟩; refine Z1 4 (Am (Ec rfl rfl) (hd 27 rfl)) rfl <| Bx (by kernel_rfl) ?_
    refine Bh rfl (fun h3 => ?_) (fun h3 => ?_)
    · have hd1 : rd0 x y ≠ 1 := fun e => h3 (by rw [e]; exact Ht.2 rfl)
      refine C7 <| Bo (n := 10) _ rfl B9 <| Z1 0 (Am (A9 Ti rfl rfl rfl) (hd 28 rfl)) rfl <| Z2 1 [2, 3, 4, 5, 6, 7, 8, 9] (Am (A5 Cs rfl rfl rfl) (hd 29 rfl)) rfl <| Z2 2 [3, 4, 5, 6, 7, 8, 9] (Am (A9 B5 rfl rfl rfl) (hd 30 rfl)) rfl ?_
      refine Be 3 ?_ rfl (by kernel_rfl)
      refine Ax Tryz.f88 (hPd) rfl Tryz.func88 rfl rfl (Aa rfl (Aa rfl Ad)) (.cons .n (.cons .i .nil)) (hd 31 rfl) ?_ (fun _ h => by simp at h)
      rintro _ ⟨⟩; refine Z2 4 [6, 7, 8, 9] (Am (Ai rfl rfl) (hd 32 rfl)) rfl <| Z2 5 [6, 7, 8, 9] (Am (Ai rfl rfl) (hd 33 rfl)) rfl ?_
      refine Be 6 ?_ rfl (by kernel_rfl)
      refine Ax Tryz.f87 (Adu _) rfl Tryz.func87 rfl rfl (Aa rfl (Aa rfl Ad)) (.cons .s (.cons .i .nil)) (hd 34 rfl) ?_ (fun _ h => by simp at h)
      rintro _ ⟨⟩; refine Z1 7 (Am (K5 rfl rfl (by show ((1 + _ : Nat) : Int) ≤ 9223372036854775807; omega)) (hd 35 rfl)) rfl <| Z1 8 (Am (K5 rfl rfl (by simp only [ByteArray.size_append]; show ((_ : Nat) : Int) ≤ 9223372036854775807; simp only [show (⟨#[45]⟩ : ByteArray).size = 1 from rfl, show (⟨#[47]⟩ : ByteArray).size = 1 from rfl]; omega)) (hd 36 rfl)) rfl ?_
      refine Be 9 ?_ rfl (by kernel_rfl)
      refine Cl (Ah rfl rfl rfl X3 rfl rfl (Zb rfl)) rfl <| Bx (by kernel_rfl) <| Zs <| Ac (A9 Ti rfl rfl rfl) (hd 37 rfl) <| A3 (Ah rfl rfl rfl X3 rfl rfl (Zb rfl)) <| A3 (Ah rfl rfl rfl E5 rfl rfl (Zb rfl)) <| Ab <| An <| Clo.fin Kb (m := 3) (i := 1) (j := 2) (Zb rfl) rfl rfl rfl rfl ?_
      refine ⟨_, _, (.cons (ResV.cell1 Ti rfl rfl rfl) (.cons (ResV.cell1 Cr rfl rfl rfl) .nil)), (.t1 .s (.t1 .i .t0)), ?_⟩
      show Out.ret _ = Out.ret _
      unfold rtx
      first | rw [if_neg hd1, hs1] | rw [if_pos hd1, hs1]
    · have hd1 : rd0 x y = 1 := by have h9 := Ht.1 (Decidable.not_not.1 h3); omega
      refine Aj <| Zs <| Ac (A9 Ti rfl rfl rfl) (hd 37 rfl) <| A3 (Ah rfl rfl rfl X3 rfl rfl (Zb rfl)) <| A3 (Ah rfl rfl rfl E5 rfl rfl (Zb rfl)) <| Ab <| An <| Clo.fin Kb (m := 3) (i := 1) (j := 2) (Zb rfl) rfl rfl rfl rfl ?_
      refine ⟨_, _, (.cons (ResV.cell1 Ti rfl rfl rfl) (.cons (ResV.cell1 Cr rfl rfl rfl) .nil)), (.t1 .s (.t1 .i .t0)), ?_⟩
      show Out.ret _ = Out.ret _
      unfold rtx
      first | rw [if_neg hd1, hs1] | rw [if_pos hd1, hs1]

theorem Aiq (s : Bool) (l d : List Int) (x y : Nat) (hx : Rw l x) (hy : Rw d y) (s2 : Bool) (l2 d2 : List Int) (x2 y2 : Nat) (hx2 : Rw l2 x2) (hy2 : Rw d2 y2) (h0 : y ≠ 0) (h02 : y2 ≠ 0) (hz : x2 = 0) : Spec Tryz.prog 45 [(.a [.b s, .n false .u64 l, .n false .u64 d]), (.a [.b s2, .n false .u64 l2, .n false .u64 d2])] (fun o => o = .ret (.t [(.a [.b false, .n false .u64 [], .n false .u64 []]), .i .i64 70])) := by
  refine D6 [(0, (.a [.b s, .n false .u64 l, .n false .u64 d])), (1, (.a [.b s2, .n false .u64 l2, .n false .u64 d2]))] rfl Tryz.func45 rfl (Zb rfl) fun Γ 𝓡 hN hds hL hR hE => ?_
  have hd := B2 31 hN
  have hLn : Spec Tryz.prog 30 [.n false .u64 l2] (fun o => o = .ret (.i .i64 (Al (x2 : Int)))) := by have h := Dl l2 (by have := hx2.l; omega) hx2.u; rwa [hx2.n] at h
  refine Dr <| Af <| A1 (Bn (id := 0) (n := 3) rfl rfl rfl (by decide) rfl) (hd 2 rfl) <| A1 (Bn (id := 1) (n := 3) rfl rfl rfl (by decide) rfl) (hd 3 rfl) <| A1 (Aq (id := 2) B4 (by decide) rfl (by decide) rfl) (hd 4 rfl) <| A1 (Aq (id := 3) Ep (by decide) rfl (by decide) rfl) (hd 5 rfl) <| Ab <| Dj (g := 90) (caps := [.p 2 0 0, .p 3 0 0]) 4 [_] (ops := [_, _]) rfl Tryz.func90 rfl rfl rfl hds hR hL hE <| Ac (F5 (Aa rfl (Aa rfl Ad))) (hd 6 rfl) <| Ab ?_
  refine ⟨rfl, rfl, rfl, ?_⟩
  intro Γ1 hN1 hL hR1
  replace hd : ∀ d, Nat.blt d 31 = true → d < Γ1.N := fun d h => by rw [hN1]; exact hd d h
  refine Ab <| Zs <| Ac (Au Ap rfl rfl rfl rfl) (hd 7 rfl) <| Ac (Au Ap rfl rfl rfl rfl) (hd 8 rfl) <| A1 (Do (id := 4) (xs := [.tmp 7, .tmp 8]) E0 rfl (Aa rfl (Aa rfl Ad)) rfl (Cz rfl) (by decide) rfl) (hd 9 rfl) <| Dy 9 (sz := 3) [[V.b s, V.n false .u64 l, V.n false .u64 d], [V.b s2, V.n false .u64 l2, V.n false .u64 d2]] rfl rfl rfl rfl (by simp) (by simp [Ef]) (by decide) hL ?_
  refine Ag Tryz.f25 (Es s l d y s2 l2 d2 y2 hy h0 hy2 h02) rfl Tryz.func25 rfl rfl (Aa rfl Ad) (.cons .l .nil) (hd 10 rfl) ?_ (fun _ h => by simp at h)
  rintro _ ⟨⟩; refine Ab <| Ae <| Zs <| Ac (A5 Cg rfl rfl rfl) (hd 11 rfl) <| Ac (A5 By rfl rfl rfl) (hd 12 rfl) <| Ac (A9 B5 rfl rfl rfl) (hd 13 rfl) ?_
  refine Ag Tryz.f30 (hLn) rfl Tryz.func30 rfl rfl (Aa rfl Ad) (.cons .n .nil) (hd 14 rfl) ?_ (fun _ h => by simp at h)
  rintro _ ⟨⟩; refine Ac (E6 (Cq rfl rfl) (by subst hz; rfl)) (hd 15 rfl) <| Ab <| Cw rfl <| Zs <| Ac (Bp (is := []) (xs := []) (pls := []) B4 Yj rfl Ad rfl trivial (Cd rfl) rfl) (hd 16 rfl) <| A3 (Ah rfl rfl rfl Bq rfl rfl (Zb rfl)) <| A3 (Ah rfl rfl rfl E5 rfl rfl (Zb rfl)) <| Ab <| An <| Clo.fin Sj (m := 4) (i := 2) (j := 3) (Zb rfl) rfl rfl rfl rfl ?_
  refine ⟨_, _, (.cons (ResV.cell Ap rfl rfl rfl rfl) (.cons (ResV.cell1 Cr rfl rfl rfl) .nil)), (.t1 (.a1 .b (.a1 (.nil (fr := false) (k := .u64)) (.a1 (.nil (fr := false) (k := .u64)) .a0))) (.t1 .i .t0)), ?_⟩
  exact rfl

theorem J6  : Spec Tryz.prog 11 [] (fun o => o = .ret (.b true)) := by
  refine Aw [] rfl Tryz.func11 rfl (Zb rfl) fun Γ hN hds hL hR => ?_
  have hd := B2 40 hN
  have hMk : Spec Tryz.prog 43 [.a [.b false, .n false .u64 [6]], .a [.b true, .n false .u64 [4]]] (fun o => o = .ret (.t [.a [.b true, .n false .u64 [3], .n false .u64 [2]], .i .i64 0])) := by
    have h := Aff false true [6] [4] 6 4 (X6 (by decide) (by decide)) (X6 (by decide) (by decide)) (by decide)
    rwa [show sgq (false != true) 6 = true by decide, show rn0 6 4 = 3 by decide +kernel, show rd0 6 4 = 2 by decide +kernel, Ahp (by decide) (by decide), Ahp (by decide) (by decide)] at h
  have hPr : Spec Tryz.prog 44 [.a [.b true, .n false .u64 [3], .n false .u64 [2]]] (fun o => o = .ret (.t [.s ⟨#[45, 51, 47, 50]⟩, .i .i64 0])) := by
    have h := Aai true [3] [2] 3 2 (X6 (by decide) (by decide)) (X6 (by decide) (by decide)) (by decide)
    rwa [show rtx (sgq true 3) (rn0 3 2) (rd0 3 2) = ⟨#[45, 51, 47, 50]⟩ by decide +kernel] at h
  have r1 : Rw (lm 1) 1 := Rw.of (x := 1) (by decide +kernel)
  have r0 : Rw (lm 0) 0 := Rw.of (x := 0) (by decide +kernel)
  refine Zs <| Za rfl (hd 0 rfl) <| Ab <| Zs <| A1 (Do (id := 0) (xs := [.const (.int .u64 6)]) Lg rfl (Aa rfl Ad) rfl (Cz rfl) (by decide) rfl) (hd 8 rfl) <| Jl (k := .u64) (l := [6]) (l' := [6]) 8 rfl rfl (by decide) rfl hL <| Ac (Bp (is := [1]) (xs := [.tmp 8]) Az G8 rfl (Aa rfl Ad) rfl (by first | (simp [Ci, cellsV]; done) | (simp [Ci, cellsV, old]; done)) (Cd rfl) rfl) (hd 9 rfl) <| A1 (Do (id := 1) (xs := [.const (.int .u64 4)]) Lg rfl (Aa rfl Ad) rfl (Cz rfl) (by decide) rfl) (hd 10 rfl) <| Jl (k := .u64) (l := [4]) (l' := [4]) 10 rfl rfl (by decide) rfl hL <| Ac (Bp (is := [0, 1]) (xs := [.const (.bool true), .tmp 10]) Az C0 rfl (Aa rfl (Aa rfl Ad)) rfl (by first | (simp [Ci, cellsV]; done) | (simp [Ci, cellsV, old]; done)) (Cd rfl) rfl) (hd 11 rfl) ?_
  refine Ag Tryz.f43 (hMk) rfl Tryz.func43 rfl rfl (Aa rfl (Aa rfl Ad)) (.cons (.a1 .b (.a1 .n .a0)) (.cons (.a1 .b (.a1 .n .a0)) .nil)) (hd 12 rfl) ?_ (fun _ h => by simp at h)
  rintro _ ⟨⟩; refine Zm rfl (hd 7 rfl) <| Ac (Ai rfl rfl) (hd 13 rfl) <| Ac (Ai rfl rfl) (hd 14 rfl) <| A1 (Aq (id := 2) B4 (by decide) rfl (by decide) rfl) (hd 1 rfl) <| A3 (Ah rfl rfl rfl Bq rfl rfl (Zb rfl)) <| Za rfl (hd 2 rfl) <| Ab <| Zs <| Ac (Au Ap rfl rfl rfl rfl) (hd 16 rfl) ?_
  refine Ag Tryz.f44 (hPr) rfl Tryz.func44 rfl rfl (Aa rfl Ad) (.cons (.a1 .b (.a1 .n (.a1 .n .a0))) .nil) (hd 17 rfl) ?_ (fun _ h => by simp at h)
  rintro _ ⟨⟩; refine Zm rfl (hd 15 rfl) <| Ac (Ai rfl rfl) (hd 18 rfl) <| Ac (Ai rfl rfl) (hd 19 rfl) <| Za rfl (hd 3 rfl) <| Za rfl (hd 4 rfl) <| Ab <| Ae <| Af ?_
  refine Ag Tryz.f46 (Jp 1 (by unfold inI; omega)) rfl Tryz.func46 rfl rfl (Aa rfl Ad) (.cons .i .nil) (hd 21 rfl) ?_ (fun _ h => by simp at h)
  rintro y hy; injection hy with hy; subst hy
  refine Ag Tryz.f46 (Jp 0 (by unfold inI; omega)) rfl Tryz.func46 rfl rfl (Aa rfl Ad) (.cons .i .nil) (hd 22 rfl) ?_ (fun _ h => by simp at h)
  rintro y hy; injection hy with hy; subst hy
  refine Ag Tryz.f45 (Aiq _ _ _ 1 1 r1 r1 _ _ _ 0 1 r0 r1 (by decide) (by decide) rfl) rfl Tryz.func45 rfl rfl (Aa rfl (Aa rfl Ad)) (.cons (.a1 .b (.a1 .n (.a1 .n .a0))) (.cons (.a1 .b (.a1 .n (.a1 .n .a0))) .nil)) (hd 23 rfl) ?_ (fun _ h => by simp at h)
  rintro _ ⟨⟩; refine Zm rfl (hd 20 rfl) <| Ac (Ai rfl rfl) (hd 24 rfl) <| Ac (Ai rfl rfl) (hd 25 rfl) <| A1 (Aq (id := 3) B4 (by decide) rfl (by decide) rfl) (hd 5 rfl) <| A3 (Ah rfl rfl rfl Bq rfl rfl (Zb rfl)) <| Za rfl (hd 6 rfl) <| Ab <| Zs <| Zm rfl (hd 26 rfl) <| Ac (E6 (Cq rfl rfl) rfl) (hd 27 rfl) <| Zm rfl (hd 28 rfl) <| Bi 28 rfl rfl (Ay rfl) (hd 29 rfl) ?_; refine Bi 28 rfl rfl (E6 (Cq rfl rfl) rfl) (hd 30 rfl) <| Ac (Bt rfl rfl) (hd 31 rfl) <| Zm rfl (hd 32 rfl) <| Bi 32 rfl rfl (Ay rfl) (hd 33 rfl) <| Bi 32 rfl rfl (E6 (Ahn rfl rfl) rfl) (hd 34 rfl) <| Ac (Bt rfl rfl) (hd 35 rfl) <| Zm rfl (hd 36 rfl) <| Bi 36 rfl rfl (Ay rfl) (hd 37 rfl) <| Bi 36 rfl rfl (E6 (Cq rfl rfl) rfl) (hd 38 rfl) <| Ac (Bt rfl rfl) (hd 39 rfl) <| Za rfl (hd 0 rfl) <| Ab <| An ?_
  refine ⟨_, _, (.cons rfl .nil), .b, ?_⟩
  exact rfl
end Go.Proofs.YtnadmljoefecfaaGreatDoor.Vc
