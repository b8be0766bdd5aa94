/- The law RatioAts of every input of bulk at most 1048576: it returns true, and the input reads as it did. Texts joined: Xc, Xd, Xe, Xf, Ra, Xm, Rh, Cb, Cf, Cfa, Cg, Ri. -/
import Derived.Test.YtnadmljoefecfaaGreatDoorK7
set_option linter.unusedVariables false
set_option linter.unusedSimpArgs false
set_option maxHeartbeats 4000000
namespace Go.Proofs.YtnadmljoefecfaaGreatDoor.Vc
open Go Go.RowKit
theorem M7 (rs : List (Bool × List Int × List Int)) (hr : ∀ r ∈ rs, r.2.2.length ≤ 1048576 ∧ Az r.2.2) (hrl : rs.length ≤ 1000) : Spec Tryz.prog 25 [.l false 3 (Aa7 rs)] (fun o => o = lkO 100 rs) := by
  refine Au [(0, .l false 3 (Aa7 rs))] rfl Tryz.func25 rfl (zlb rfl) fun Γ hN hds hL hR => ?_
  have hd := Bt 17 hN
  refine zsr <| zmv rfl (hd 4 rfl) <| Ac (Vj Aaz rfl) (hd 5 rfl) <| zmv rfl (hd 6 rfl) <| Aa <| Ap ?_
  refine Gd (G := Nat) 0 (fun i => i ≤ rs.length ∧ ∀ j < i, vl (Lq rs j).2.2 ≠ 0) (fun i => [(6, .i .i64 (i : Int)), (3, .u), (7, .u), (8, .u), (9, .u), (10, .u), (11, .u), (12, .u), (13, .u), (14, .u), (15, .u), (16, .u)]) (fun i => []) (fun i => rs.length - i) 0 ?_ ?_ rfl hR rfl (fun _ _ => rfl) (fun g _ => .nil) ?_
  · exact ⟨Nat.zero_le _, fun j h => absurd h (Nat.not_lt_zero _)⟩
  · exact (.cons rfl (.v9 (.u .nil)))
  · rintro i ⟨hi, hj⟩; refine zsr <| Ac (Br rfl rfl) (hd 7 rfl) <| Aa <| Ae ?_
    refine Bg rfl (fun h1 => ?_) (fun h1 => ?_)
    · have hil : i < rs.length := by have h9 : (i : Int) < ((Aa7 rs).length : Int) := h1; rw [Rm] at h9; omega
      have hru : (Lq rs i).2.2.length ≤ 1048576 ∧ Az (Lq rs i).2.2 := by have h9 := hr _ (List.getElem_mem hil); unfold Lq; rwa [List.getD_eq_getElem?_getD, List.getElem?_eq_getElem hil]
      have hrv := Bf hru.2
      have hLn := Ee (Lq rs i).2.2 (by omega) hru.2
      rw [F3 hru.2 rfl] at hLn
      refine Ai <| Ae <| Ap <| zsr <| Ac (Abq (i := i) (row := [V.b (Lq rs i).1, V.n false .u64 (Lq rs i).2.1, V.n false .u64 (Lq rs i).2.2]) Aaz rfl rfl (by omega) (Adi hil)) (hd 8 rfl) <| Ac (Aep B6 rfl rfl rfl) (hd 9 rfl) <| A4 (At (id := 0) Ds (by decide) rfl (by decide) rfl) (hd 3 rfl) <| A6 (Ak rfl rfl rfl Er rfl rfl (zlb rfl)) <| Aa <| zsr <| Ac (Bl Ex rfl rfl rfl) (hd 10 rfl) ?_; refine Ac (Be D8 rfl rfl rfl) (hd 11 rfl) ?_
      refine Ah Tryz.f30 (hLn) rfl Tryz.func30 rfl rfl (Ab rfl Ad) (.cons .n .nil) (hd 12 rfl) ?_ (fun ch hp => by simp at hp)
      rintro _ ⟨⟩; refine Ac (Ch rfl rfl) (hd 13 rfl) <| Aa ?_
      refine Bg rfl (fun h2 => ?_) (fun h2 => ?_)
      · have hz : vl (Lq rs i).2.2 = 0 := by have h9 : ((Aq (vl (Lq rs i).2.2) : Nat) : Int) = 0 := h2; have h7 := Vt (x := (vl (Lq rs i).2.2).toNat); rw [Int.toNat_of_nonneg hrv] at h7; have := h7.1 (by omega); omega
        refine Af <| Ac (Bn (is := [0]) (xs := [.const (.int .i64 70)]) J6 U2 rfl (Ab rfl Ad) rfl (by first | (simp [B9, cellsV]; done) | (simp [B9, cellsV, old]; done)) (B7 rfl) rfl) (hd 14 rfl) <| Ac (ly_mi M3 rfl) (hd 15 rfl) <| Zf rfl ?_
        show Out.pan _ = lkO 100 rs
        rw [lkO_n hil hz]
        rfl
      · have hnz : vl (Lq rs i).2.2 ≠ 0 := fun e => by have h9 : ¬ ((Aq (vl (Lq rs i).2.2) : Nat) : Int) = 0 := h2; rw [e] at h9; exact h9 rfl
        refine Ai <| Af <| Ac (Aw rfl rfl (r := ((i + 1 : Nat) : Int)) (by rw [Ag (by omega) (by omega)]; omega)) (hd 16 rfl) <| zmv rfl (hd 6 rfl) <| Aa ?_
        refine ⟨i + 1, ?_, ?_, rfl, A5 22 rfl rfl ?_⟩
        · exact ⟨by omega, fun j hjj => by rcases Nat.lt_or_ge j i with h9 | h9; exact hj j h9; rw [show j = i by omega]; exact hnz⟩
        · omega
        · exact (.cons rfl (.v9 (.u .nil)))
    · obtain rfl : i = rs.length := by have h9 : ¬ (i : Int) < ((Aa7 rs).length : Int) := h1; rw [Rm] at h9; omega
      refine Bh ?_
      refine ⟨_, _, .nil, .t0, ?_⟩
      rw [lkO_y hj]

theorem Fa (s : Bool) (l d : List Int) (y : Nat) (hy : Rw d y) (h0 : y ≠ 0) : Spec Tryz.prog 25 [.l false 3 [[V.b s, V.n false .u64 l, V.n false .u64 d]]] (fun o => o = .ret (.t [])) := by
  have h := M7 [(s, l, d)] (fun r hr => by simp only [List.mem_cons, List.mem_nil_iff, or_false] at hr; subst hr; exact ⟨hy.l, hy.u⟩) (by simp)
  have h1 : (vl d ≠ 0) := by rw [hy.v]; omega
  rwa [show lkO 100 [(s, l, d)] = .ret (.t []) by unfold lkO; simp [h1]] at h
theorem Vm (s : Bool) (l d : List Int) (hy : Rw d 0) : Spec Tryz.prog 25 [.l false 3 [[V.b s, V.n false .u64 l, V.n false .u64 d]]] (fun o => o = .pan (Ab0 100 70 false)) := by
  have h := M7 [(s, l, d)] (fun r hr => by simp only [List.mem_cons, List.mem_nil_iff, or_false] at hr; subst hr; exact ⟨hy.l, hy.u⟩) (by simp)
  have h1 : (vl d = 0) := hy.v
  rwa [show lkO 100 [(s, l, d)] = .pan (Ab0 100 70 false) by unfold lkO; simp [h1]] at h
theorem Za (s : Bool) (l d : List Int) (y : Nat) (s2 : Bool) (l2 d2 : List Int) (y2 : Nat) (hy : Rw d y) (h0 : y ≠ 0) (hy2 : Rw d2 y2) (h02 : y2 ≠ 0) : Spec Tryz.prog 25 [.l false 3 [[V.b s, V.n false .u64 l, V.n false .u64 d], [V.b s2, V.n false .u64 l2, V.n false .u64 d2]]] (fun o => o = .ret (.t [])) := by
  have h := M7 [(s, l, d), (s2, l2, d2)] (fun r hr => by simp only [List.mem_cons, List.mem_nil_iff, or_false] at hr; rcases hr with rfl | rfl; exact ⟨hy.l, hy.u⟩; exact ⟨hy2.l, hy2.u⟩) (by simp)
  have h1 : (vl d ≠ 0) := by rw [hy.v]; omega
  have h2 : (vl d2 ≠ 0) := by rw [hy2.v]; omega
  rwa [show lkO 100 [(s, l, d), (s2, l2, d2)] = .ret (.t []) by unfold lkO; simp [h1, h2]] at h

theorem Af1 (s t : Bool) (l d : List Int) (x y : Nat) (hx : Rw l x) (hy : Rw d y) (h0 : y ≠ 0) : Spec Tryz.prog 43 [.a [.b s, .n false .u64 l], .a [.b t, .n false .u64 d]] (fun o => o = .ret (.t [(.a [.b (sgq (s != t) x), .n false .u64 (lm ((rn0 x y : Nat) : Int)), .n false .u64 (lm ((rd0 x y : Nat) : Int))]), .i .i64 0])) := by
  refine E8 [(0, .a [.b s, .n false .u64 l]), (1, .a [.b t, .n false .u64 d])] rfl Tryz.func43 rfl (zlb rfl) fun Γ 𝓡 hN hds hL hR hE => ?_
  have hd := Bt 21 hN
  refine E7 <| Af <| A4 (By (id := 0) (n := 2) rfl rfl rfl (by decide) rfl) (hd 2 rfl) <| A4 (By (id := 1) (n := 2) rfl rfl rfl (by decide) rfl) (hd 3 rfl) <| A4 (At (id := 2) Ds (by decide) rfl (by decide) rfl) (hd 4 rfl) <| A4 (At (id := 3) Gk (by decide) rfl (by decide) rfl) (hd 5 rfl) <| Aa <| Ei (g := 84) (caps := [.p 2 0 0, .p 3 0 0]) 4 [_] (ops := [_, _]) rfl Tryz.func84 rfl rfl rfl hds hR hL hE <| Ac (I5 (Ab rfl (Ab rfl Ad))) (hd 7 rfl) <| Aa ?_
  refine ⟨rfl, rfl, rfl, ?_⟩
  intro Γ1 hN1 hL hR1
  replace hd : ∀ d, Nat.blt d 21 = true → d < Γ1.N := fun d h => by rw [hN1]; exact hd d h
  refine Aa <| zsr <| Ac (Bl Dm rfl rfl rfl) (hd 8 rfl) <| Ac (Be Ir rfl rfl rfl) (hd 9 rfl) <| Ac (Bl Dm rfl rfl rfl) (hd 10 rfl) <| Ac (Be Ir rfl rfl rfl) (hd 11 rfl) <| Ac (Vi und4 rfl rfl) (hd 12 rfl) <| zas rfl (hd 6 rfl) <| Aa <| zsr <| zmv rfl (hd 13 rfl) ?_; refine Ac (Bl Cw rfl rfl rfl) (hd 14 rfl) <| Ac (Be D8 rfl rfl rfl) (hd 15 rfl) <| Ac (Bn (is := [0, 1]) (xs := [.tmp 13, .tmp 15]) A7 C9 rfl (Ab rfl (Ab rfl Ad)) rfl (by first | (simp [B9, cellsV]; done) | (simp [B9, cellsV, old]; done)) (B7 rfl) rfl) (hd 16 rfl) <| Ac (Bl Cw rfl rfl rfl) (hd 17 rfl) <| Ac (Be D8 rfl rfl rfl) (hd 18 rfl) <| Ac (Bn (is := [0, 1]) (xs := [.tmp 16, .tmp 18]) Ds Il rfl (Ab rfl (Ab rfl Ad)) rfl ⟨rfl, (by decide), rfl, (by decide), trivial⟩ (B7 rfl) rfl) (hd 19 rfl) ?_
  refine Ah Tryz.f54 (Uz _ l d x y hx hy h0) rfl Tryz.func54 rfl rfl (Ab rfl Ad) (.cons (.a1 .b (.a1 .n (.a1 .n .a0))) .nil) (hd 20 rfl) ?_ (fun ch hp => by simp at hp)
  rintro _ ⟨⟩; refine A6 (Ak rfl rfl rfl Er rfl rfl (zlb rfl)) <| A6 (Ak rfl rfl rfl Ig rfl rfl (zlb rfl)) <| Aa <| Ao <| Clo.fin Z6 (m := 4) (i := 2) (j := 3) (zlb rfl) rfl rfl rfl rfl ?_
  refine ⟨_, _, (.cons (ResV.cell B6 rfl rfl rfl rfl) (.cons (ResV.cell1 E6 rfl rfl rfl) .nil)), (.t1 (.a1 .b (.a1 .n (.a1 .n .a0))) (.t1 .i .t0)), ?_⟩
  exact rfl

theorem Acg (v : Int) (hv : inI v) : Spec Tryz.prog 46 [.i .i64 v] (fun o => o = .ret (.a [.b (decide (v < 0)), .n true .u64 (lm v), .n true .u64 (lm ((1 : Nat) : Int))])) := by
  refine Au [(0, .i .i64 v)] rfl Tryz.func46 rfl (zlb rfl) fun Γ hN hds hL hR => ?_
  have hd := Bt 7 hN
  have hF1 : Spec Tryz.prog 35 [.i .u64 1] (fun o => o = .ret (.n true .u64 [1])) := by have h := Hu 1; rwa [if_neg (by decide)] at h
  refine zsr <| A4 (At (id := 0) Ds (by decide) rfl (by decide) rfl) (hd 2 rfl) <| Aa <| zsr <| zmv rfl (hd 3 rfl) ?_
  refine Ah Tryz.f92 (Of_v v hv) rfl Tryz.func92 rfl rfl (Ab rfl Ad) (.cons .i .nil) (hd 4 rfl) ?_ (fun ch hp => by simp at hp)
  rintro y hy; injection hy with hy; subst hy
  refine Ah Tryz.f35 (hF1) rfl Tryz.func35 rfl rfl (Ab rfl Ad) (.cons .i .nil) (hd 5 rfl) ?_ (fun ch hp => by simp at hp)
  rintro _ ⟨⟩; refine Ac (Bn (is := [0, 1]) (xs := [.tmp 4, .tmp 5]) Ds Il rfl (Ab rfl (Ab rfl Ad)) rfl ⟨rfl, (by decide), rfl, (by decide), trivial⟩ (B7 rfl) rfl) (hd 6 rfl) <| A6 (Ak rfl rfl rfl Er rfl rfl (zlb rfl)) <| Aa <| Ao ?_
  refine ⟨_, _, (.cons (ResV.cell B6 rfl rfl rfl rfl) .nil), (.a1 .b (.a1 .n (.a1 .n .a0))), ?_⟩
  rw [Vp]

theorem Aab (s : Bool) (l d : List Int) (x y : Nat) (hx : Rw l x) (hy : Rw d y) (h0 : y ≠ 0) : Spec Tryz.prog 44 [(.a [.b s, .n false .u64 l, .n false .u64 d])] (fun o => o = .ret (.t [.s (rtx (sgq s x) (rn0 x y) (rd0 x y)), .i .i64 0])) := by
  refine E8 [(0, (.a [.b s, .n false .u64 l, .n false .u64 d]))] rfl Tryz.func44 rfl (zlb rfl) fun Γ 𝓡 hN hds hL hR hE => ?_
  have hd := Bt 38 hN
  have hbn : Aq ((rn0 x y : Nat) : Int) ≤ 67108864 := Ahj hx.b
  have hbd : Aq ((rd0 x y : Nat) : Int) ≤ 67108864 := Adt hy.b
  have hRn := Rw.of hbn
  have hRd := Rw.of hbd
  have hF1 : Spec Tryz.prog 35 [.i .u64 1] (fun o => o = .ret (.n true .u64 [1])) := by have h := Hu 1; rwa [if_neg (by decide)] at h
  have hsn := R4 _ hbn
  have hsd := R4 _ hbd
  have hl1 := hRd.l
  have hPn : Spec Tryz.prog 88 [.n false .u64 (lm ((rn0 x y : Nat) : Int)), .i .i64 10] (fun o => o = .ret (.t [.s (ntx (rn0 x y)), .i .i64 0])) := by have h := Xg (lm ((rn0 x y : Nat) : Int)) 10 hRn.l hRn.u (by decide) (by decide); rwa [hRn.v, Int.toNat_natCast] at h
  have hPd : Spec Tryz.prog 88 [.n false .u64 (lm ((rd0 x y : Nat) : Int)), .i .i64 10] (fun o => o = .ret (.t [.s (ntx (rd0 x y)), .i .i64 0])) := by have h := Xg (lm ((rd0 x y : Nat) : Int)) 10 hRd.l hRd.u (by decide) (by decide); rwa [hRd.v, Int.toNat_natCast] at h
  have hCp : Spec Tryz.prog 89 [.n false .u64 (lm ((rd0 x y : Nat) : Int)), .n false .u64 [1]] (fun o => o = .ret (.i .i64 (Ht ((rd0 x y : Nat) : Int) 1))) := by have h := Po ((rd0 x y : Nat) : Int) ((1 : Nat) : Int) (by omega) (by rw [Vp]; decide); rw [Vp, Int.natAbs_natCast, Int.natAbs_natCast] at h; exact h
  refine E7 <| Af <| A4 (By (id := 0) (n := 3) rfl rfl rfl (by decide) rfl) (hd 1 rfl) <| A4 (At (id := 1) zero9 (by decide) rfl (by decide) rfl) (hd 2 rfl) <| A4 (At (id := 2) Gk (by decide) rfl (by decide) rfl) (hd 3 rfl) <| Aa <| Ei (g := 85) (caps := [.p 1 0 0, .p 2 0 0]) 3 [_] (ops := [_, _]) rfl Tryz.func85 rfl rfl rfl hds hR hL hE <| Ac (I5 (Ab rfl (Ab rfl Ad))) (hd 5 rfl) <| Aa ?_
  refine ⟨rfl, rfl, rfl, ?_⟩
  intro Γ1 hN1 hL hR1
  replace hd : ∀ d, Nat.blt d 38 = true → d < Γ1.N := fun d h => by rw [hN1]; exact hd d h
  refine Aa <| zsr <| Ac (Bm B6 rfl rfl rfl rfl) (hd 6 rfl) <| A4 (Dl (id := 3) (xs := [.tmp 6]) G8 rfl (Ab rfl Ad) rfl (Cx rfl) (by decide) rfl) (hd 7 rfl) <| Fl 7 (sz := 3) [[V.b s, V.n false .u64 l, V.n false .u64 d]] rfl rfl rfl rfl (by simp) (by simp [Fh]) (by decide) hL ?_
  refine Ah Tryz.f25 (Fa s l d y hy h0) rfl Tryz.func25 rfl rfl (Ab rfl Ad) (.cons .l .nil) (hd 8 rfl) ?_ (fun ch hp => by simp at hp)
  rintro _ ⟨⟩; refine Aa <| zsr <| Ac (Bm B6 rfl rfl rfl rfl) (hd 9 rfl) ?_
  refine Ah Tryz.f54 (Uz s l d x y hx hy h0) rfl Tryz.func54 rfl rfl (Ab rfl Ad) (.cons (.a1 .b (.a1 .n (.a1 .n .a0))) .nil) (hd 10 rfl) ?_ (fun ch hp => by simp at hp)
  rintro _ ⟨⟩; refine A4 (At (id := 4) Ds (by decide) rfl (by decide) rfl) (hd 4 rfl) <| A6 (Ak rfl rfl rfl Er rfl rfl (zlb rfl)) <| Aa <| zsr <| Ac (Bl Fj rfl rfl rfl) (hd 11 rfl) <| Ac (Bl Cw rfl rfl rfl) (hd 12 rfl) <| Ac (Be D8 rfl rfl rfl) (hd 13 rfl) ?_
  refine Ah Tryz.f88 (hPn) rfl Tryz.func88 rfl rfl (Ab rfl (Ab rfl Ad)) (.cons .n (.cons .i .nil)) (hd 14 rfl) ?_ (fun ch hp => by simp at hp)
  rintro _ ⟨⟩; refine Ac (Am rfl rfl) (hd 15 rfl) <| Ac (Am rfl rfl) (hd 16 rfl) ?_
  refine Ah Tryz.f87 (Aeh _) rfl Tryz.func87 rfl rfl (Ab rfl (Ab rfl Ad)) (.cons .s (.cons .i .nil)) (hd 17 rfl) ?_ (fun ch hp => by simp at hp)
  rintro _ ⟨⟩; refine A6 (Ak rfl rfl rfl X8 rfl rfl (zlb rfl)) <| Aa <| Ae <| zsr <| Ac (Bl Fj rfl rfl rfl) (hd 18 rfl) <| Ac (Bl Dm rfl rfl rfl) (hd 19 rfl) <| Ac (Be Ir rfl rfl rfl) (hd 20 rfl) <| Aa ?_
  refine Fm rfl (fun h1 => ?_) (fun h1 => ?_)
  · have hs1 : Aga (sgq s x) (rn0 x y) = (⟨#[45]⟩ : ByteArray) ++ ntx (rn0 x y) := by unfold Aga; rw [if_pos h1]
    refine Af <| Ac (Be Th rfl rfl rfl) (hd 21 rfl) <| Ac (Lb rfl rfl (by show ((1 + _ : Nat) : Int) ≤ 9223372036854775807; omega)) (hd 22 rfl) <| A6 (Ak rfl rfl rfl X8 rfl rfl (zlb rfl)) <| Aa <| Ae <| Ae <| G2 <| Bu (n := 5) _ rfl Cg <| Av 0 [1, 3, 4] (Al (Bl Ex rfl rfl rfl) (hd 23 rfl)) rfl <| Av 1 [3, 4] (Al (Be D8 rfl rfl rfl) (hd 24 rfl)) rfl ?_
    refine B5 2 ?_ rfl (by kernel_rfl)
    refine Bp Tryz.f35 (hF1) rfl Tryz.func35 rfl rfl (Ab rfl Ad) (.cons .i .nil) (hd 25 rfl) ?_ (fun ch hp => by simp at hp)
    rintro y hy; injection hy with hy; subst hy
    refine B5 3 ?_ rfl (by kernel_rfl)
    refine Bp Tryz.f89 (hCp) rfl Tryz.func89 rfl rfl (Ab rfl (Ab rfl Ad)) (.cons .n (.cons .n .nil)) (hd 26 rfl) ?_ (fun ch hp => by simp at hp)
    rintro _ ⟨⟩; refine zal 4 (Al (Ec rfl rfl) (hd 27 rfl)) rfl <| Bx (by kernel_rfl) ?_
    refine Bg rfl (fun h2 => ?_) (fun h2 => ?_)
    · have hd1 : rd0 x y ≠ 1 := fun e => h2 (by rw [e]; exact Mb.2 rfl)
      refine G2 <| Bu (n := 10) _ rfl Cg <| zal 0 (Al (Be Th rfl rfl rfl) (hd 28 rfl)) rfl <| Av 1 [2, 3, 4, 5, 6, 7, 8, 9] (Al (Bl Ex rfl rfl rfl) (hd 29 rfl)) rfl <| Av 2 [3, 4, 5, 6, 7, 8, 9] (Al (Be D8 rfl rfl rfl) (hd 30 rfl)) rfl ?_
      refine B5 3 ?_ rfl (by kernel_rfl)
      refine Bp Tryz.f88 (hPd) rfl Tryz.func88 rfl rfl (Ab rfl (Ab rfl Ad)) (.cons .n (.cons .i .nil)) (hd 31 rfl) ?_ (fun ch hp => by simp at hp)
      rintro _ ⟨⟩; refine Av 4 [6, 7, 8, 9] (Al (Am rfl rfl) (hd 32 rfl)) rfl <| Av 5 [6, 7, 8, 9] (Al (Am rfl rfl) (hd 33 rfl)) rfl ?_
      refine B5 6 ?_ rfl (by kernel_rfl)
      refine Bp Tryz.f87 (Aeh _) rfl Tryz.func87 rfl rfl (Ab rfl (Ab rfl Ad)) (.cons .s (.cons .i .nil)) (hd 34 rfl) ?_ (fun ch hp => by simp at hp)
      rintro _ ⟨⟩; refine zal 7 (Al (Lb rfl rfl (by show ((1 + _ : Nat) : Int) ≤ 9223372036854775807; omega)) (hd 35 rfl)) rfl <| zal 8 (Al (Lb rfl rfl (by simp only [ByteArray.size_append]; show ((_ : Nat) : Int) ≤ 9223372036854775807; simp only [show (⟨#[45]⟩ : ByteArray).size = 1 from rfl, show (⟨#[47]⟩ : ByteArray).size = 1 from rfl]; omega)) (hd 36 rfl)) rfl ?_
      refine B5 9 ?_ rfl (by kernel_rfl)
      refine D1 (Ak rfl rfl rfl X8 rfl rfl (zlb rfl)) rfl <| Bx (by kernel_rfl) <| zsr <| Ac (Be Th rfl rfl rfl) (hd 37 rfl) <| A6 (Ak rfl rfl rfl X8 rfl rfl (zlb rfl)) <| A6 (Ak rfl rfl rfl Ig rfl rfl (zlb rfl)) <| Aa <| Ao <| Clo.fin Ki (m := 3) (i := 1) (j := 2) (zlb rfl) rfl rfl rfl rfl ?_
      refine ⟨_, _, (.cons (ResV.cell1 Th rfl rfl rfl) (.cons (ResV.cell1 E6 rfl rfl rfl) .nil)), (.t1 .s (.t1 .i .t0)), ?_⟩
      show Out.ret _ = Out.ret _
      unfold rtx
      first | rw [if_neg hd1, hs1] | rw [if_pos hd1, hs1]
    · have hd1 : rd0 x y = 1 := by have h9 := Mb.1 (Decidable.not_not.1 h2); omega
      refine Ai <| zsr <| Ac (Be Th rfl rfl rfl) (hd 37 rfl) <| A6 (Ak rfl rfl rfl X8 rfl rfl (zlb rfl)) <| A6 (Ak rfl rfl rfl Ig rfl rfl (zlb rfl)) <| Aa <| Ao <| Clo.fin Ki (m := 3) (i := 1) (j := 2) (zlb rfl) rfl rfl rfl rfl ?_
      refine ⟨_, _, (.cons (ResV.cell1 Th rfl rfl rfl) (.cons (ResV.cell1 E6 rfl rfl rfl) .nil)), (.t1 .s (.t1 .i .t0)), ?_⟩
      show Out.ret _ = Out.ret _
      unfold rtx
      first | rw [if_neg hd1, hs1] | rw [if_pos hd1, hs1]
  · have hs1 : Aga (sgq s x) (rn0 x y) = ntx (rn0 x y) := by unfold Aga; rw [if_neg (by rw [h1]; decide)]
    refine Ai <| Ae <| Ae <| G2 <| Bu (n := 5) _ rfl Cg <| Av 0 [1, 3, 4] (Al (Bl Ex rfl rfl rfl) (hd 23 rfl)) rfl <| Av 1 [3, 4] (Al (Be D8 rfl rfl rfl) (hd 24 rfl)) rfl ?_
    refine B5 2 ?_ rfl (by kernel_rfl)
    refine Bp Tryz.f35 (hF1) rfl Tryz.func35 rfl rfl (Ab rfl Ad) (.cons .i .nil) (hd 25 rfl) ?_ (fun ch hp => by simp at hp)
    rintro y hy; injection hy with hy; subst hy
    refine B5 3 ?_ rfl (by kernel_rfl)
    refine Bp Tryz.f89 (hCp) rfl Tryz.func89 rfl rfl (Ab rfl (Ab rfl Ad)) (.cons .n (.cons .n .nil)) (hd 26 rfl) ?_ (fun ch hp => by simp at hp)
    rintro _ ⟨⟩; refine zal 4 (Al (Ec rfl rfl) (hd 27 rfl)) rfl <| Bx (by kernel_rfl) ?_
    refine Bg rfl (fun h3 => ?_) (fun h3 => ?_)
    · have hd1 : rd0 x y ≠ 1 := fun e => h3 (by rw [e]; exact Mb.2 rfl)
      refine G2 <| Bu (n := 10) _ rfl Cg <| zal 0 (Al (Be Th rfl rfl rfl) (hd 28 rfl)) rfl <| Av 1 [2, 3, 4, 5, 6, 7, 8, 9] (Al (Bl Ex rfl rfl rfl) (hd 29 rfl)) rfl <| Av 2 [3, 4, 5, 6, 7, 8, 9] (Al (Be D8 rfl rfl rfl) (hd 30 rfl)) rfl ?_
      refine B5 3 ?_ rfl (by kernel_rfl)
      refine Bp Tryz.f88 (hPd) rfl Tryz.func88 rfl rfl (Ab rfl (Ab rfl Ad)) (.cons .n (.cons .i .nil)) (hd 31 rfl) ?_ (fun ch hp => by simp at hp)
      rintro _ ⟨⟩; refine Av 4 [6, 7, 8, 9] (Al (Am rfl rfl) (hd 32 rfl)) rfl <| Av 5 [6, 7, 8, 9] (Al (Am rfl rfl) (hd 33 rfl)) rfl ?_
      refine B5 6 ?_ rfl (by kernel_rfl)
      refine Bp Tryz.f87 (Aeh _) rfl Tryz.func87 rfl rfl (Ab rfl (Ab rfl Ad)) (.cons .s (.cons .i .nil)) (hd 34 rfl) ?_ (fun ch hp => by simp at hp)
      rintro _ ⟨⟩; refine zal 7 (Al (Lb rfl rfl (by show ((1 + _ : Nat) : Int) ≤ 9223372036854775807; omega)) (hd 35 rfl)) rfl <| zal 8 (Al (Lb rfl rfl (by simp only [ByteArray.size_append]; show ((_ : Nat) : Int) ≤ 9223372036854775807; simp only [show (⟨#[45]⟩ : ByteArray).size = 1 from rfl, show (⟨#[47]⟩ : ByteArray).size = 1 from rfl]; omega)) (hd 36 rfl)) rfl ?_
      refine B5 9 ?_ rfl (by kernel_rfl)
      refine D1 (Ak rfl rfl rfl X8 rfl rfl (zlb rfl)) rfl <| Bx (by kernel_rfl) <| zsr <| Ac (Be Th rfl rfl rfl) (hd 37 rfl) <| A6 (Ak rfl rfl rfl X8 rfl rfl (zlb rfl)) <| A6 (Ak rfl rfl rfl Ig rfl rfl (zlb rfl)) <| Aa <| Ao <| Clo.fin Ki (m := 3) (i := 1) (j := 2) (zlb rfl) rfl rfl rfl rfl ?_
      refine ⟨_, _, (.cons (ResV.cell1 Th rfl rfl rfl) (.cons (ResV.cell1 E6 rfl rfl rfl) .nil)), (.t1 .s (.t1 .i .t0)), ?_⟩
      show Out.ret _ = Out.ret _
      unfold rtx
      first | rw [if_neg hd1, hs1] | rw [if_pos hd1, hs1]
    · have hd1 : rd0 x y = 1 := by have h9 := Mb.1 (Decidable.not_not.1 h3); omega
      refine Ai <| zsr <| Ac (Be Th rfl rfl rfl) (hd 37 rfl) <| A6 (Ak rfl rfl rfl X8 rfl rfl (zlb rfl)) <| A6 (Ak rfl rfl rfl Ig rfl rfl (zlb rfl)) <| Aa <| Ao <| Clo.fin Ki (m := 3) (i := 1) (j := 2) (zlb rfl) rfl rfl rfl rfl ?_
      refine ⟨_, _, (.cons (ResV.cell1 Th rfl rfl rfl) (.cons (ResV.cell1 E6 rfl rfl rfl) .nil)), (.t1 .s (.t1 .i .t0)), ?_⟩
      show Out.ret _ = Out.ret _
      unfold rtx
      first | rw [if_neg hd1, hs1] | rw [if_pos hd1, hs1]

theorem QQuo_0 (s : Bool) (l d : List Int) (x y : Nat) (hx : Rw l x) (hy : Rw d y) (s2 : Bool) (l2 d2 : List Int) (x2 y2 : Nat) (hx2 : Rw l2 x2) (hy2 : Rw d2 y2) (h0 : y ≠ 0) (h02 : y2 ≠ 0) (hz : x2 = 0) : Spec Tryz.prog 45 [(.a [.b s, .n false .u64 l, .n false .u64 d]), (.a [.b s2, .n false .u64 l2, .n false .u64 d2])] (fun o => o = .ret (.t [(.a [.b false, .n false .u64 [], .n false .u64 []]), .i .i64 70])) := by
  refine E8 [(0, (.a [.b s, .n false .u64 l, .n false .u64 d])), (1, (.a [.b s2, .n false .u64 l2, .n false .u64 d2]))] rfl Tryz.func45 rfl (zlb rfl) fun Γ 𝓡 hN hds hL hR hE => ?_
  have hd := Bt 31 hN
  have hLn : Spec Tryz.prog 30 [.n false .u64 l2] (fun o => o = .ret (.i .i64 (Aq (x2 : Int)))) := by have h := Ee l2 (by have := hx2.l; omega) hx2.u; rwa [hx2.n] at h
  refine E7 <| Af <| A4 (By (id := 0) (n := 3) rfl rfl rfl (by decide) rfl) (hd 2 rfl) <| A4 (By (id := 1) (n := 3) rfl rfl rfl (by decide) rfl) (hd 3 rfl) <| A4 (At (id := 2) Ds (by decide) rfl (by decide) rfl) (hd 4 rfl) <| A4 (At (id := 3) Gk (by decide) rfl (by decide) rfl) (hd 5 rfl) <| Aa <| Ei (g := 90) (caps := [.p 2 0 0, .p 3 0 0]) 4 [_] (ops := [_, _]) rfl Tryz.func90 rfl rfl rfl hds hR hL hE <| Ac (I5 (Ab rfl (Ab rfl Ad))) (hd 6 rfl) <| Aa ?_
  refine ⟨rfl, rfl, rfl, ?_⟩
  intro Γ1 hN1 hL hR1
  replace hd : ∀ d, Nat.blt d 31 = true → d < Γ1.N := fun d h => by rw [hN1]; exact hd d h
  refine Aa <| zsr <| Ac (Bm B6 rfl rfl rfl rfl) (hd 7 rfl) <| Ac (Bm B6 rfl rfl rfl rfl) (hd 8 rfl) <| A4 (Dl (id := 4) (xs := [.tmp 7, .tmp 8]) G8 rfl (Ab rfl (Ab rfl Ad)) rfl (Cx rfl) (by decide) rfl) (hd 9 rfl) <| Fl 9 (sz := 3) [[V.b s, V.n false .u64 l, V.n false .u64 d], [V.b s2, V.n false .u64 l2, V.n false .u64 d2]] rfl rfl rfl rfl (by simp) (by simp [Fh]) (by decide) hL ?_
  refine Ah Tryz.f25 (Za s l d y s2 l2 d2 y2 hy h0 hy2 h02) rfl Tryz.func25 rfl rfl (Ab rfl Ad) (.cons .l .nil) (hd 10 rfl) ?_ (fun ch hp => by simp at hp)
  rintro _ ⟨⟩; refine Aa <| Ae <| zsr <| Ac (Bl Fj rfl rfl rfl) (hd 11 rfl) <| Ac (Bl Cw rfl rfl rfl) (hd 12 rfl) <| Ac (Be D8 rfl rfl rfl) (hd 13 rfl) ?_
  refine Ah Tryz.f30 (hLn) rfl Tryz.func30 rfl rfl (Ab rfl Ad) (.cons .n .nil) (hd 14 rfl) ?_ (fun ch hp => by simp at hp)
  rintro _ ⟨⟩; refine Ac (Cq (Ch rfl rfl) (by subst hz; rfl)) (hd 15 rfl) <| Aa <| B4 rfl <| zsr <| Ac (Bn (is := []) (xs := []) (pls := []) Ds Yu rfl Ad rfl trivial (B7 rfl) rfl) (hd 16 rfl) <| A6 (Ak rfl rfl rfl Er rfl rfl (zlb rfl)) <| A6 (Ak rfl rfl rfl Ig rfl rfl (zlb rfl)) <| Aa <| Ao <| Clo.fin Z5 (m := 4) (i := 2) (j := 3) (zlb rfl) rfl rfl rfl rfl ?_
  refine ⟨_, _, (.cons (ResV.cell B6 rfl rfl rfl rfl) (.cons (ResV.cell1 E6 rfl rfl rfl) .nil)), (.t1 (.a1 .b (.a1 (.nil (fr := false) (k := .u64)) (.a1 (.nil (fr := false) (k := .u64)) .a0))) (.t1 .i .t0)), ?_⟩
  exact rfl

theorem Kg  : Spec Tryz.prog 11 [] (fun o => o = .ret (.b true)) := by
  refine Au [] rfl Tryz.func11 rfl (zlb rfl) fun Γ hN hds hL hR => ?_
  have hd := Bt 40 hN
  have hMk : Spec Tryz.prog 43 [.a [.b false, .n false .u64 [6]], .a [.b true, .n false .u64 [4]]] (fun o => o = .ret (.t [.a [.b true, .n false .u64 [3], .n false .u64 [2]], .i .i64 0])) := by
    have h := Af1 false true [6] [4] 6 4 (rw_1 (by decide) (by decide)) (rw_1 (by decide) (by decide)) (by decide)
    rwa [show sgq (false != true) 6 = true by decide, show rn0 6 4 = 3 by decide +kernel, show rd0 6 4 = 2 by decide +kernel, Ait (by decide) (by decide), Ait (by decide) (by decide)] at h
  have hPr : Spec Tryz.prog 44 [.a [.b true, .n false .u64 [3], .n false .u64 [2]]] (fun o => o = .ret (.t [.s ⟨#[45, 51, 47, 50]⟩, .i .i64 0])) := by
    have h := Aab true [3] [2] 3 2 (rw_1 (by decide) (by decide)) (rw_1 (by decide) (by decide)) (by decide)
    rwa [show rtx (sgq true 3) (rn0 3 2) (rd0 3 2) = ⟨#[45, 51, 47, 50]⟩ by decide +kernel] at h
  have r1 : Rw (lm 1) 1 := Rw.of (x := 1) (by decide +kernel)
  have r0 : Rw (lm 0) 0 := Rw.of (x := 0) (by decide +kernel)
  refine zsr <| zas rfl (hd 0 rfl) <| Aa <| zsr <| A4 (Dl (id := 0) (xs := [.const (.int .u64 6)]) Lr rfl (Ab rfl Ad) rfl (Cx rfl) (by decide) rfl) (hd 8 rfl) <| Hl (k := .u64) (l := [6]) (l' := [6]) 8 rfl rfl (by decide) rfl hL <| Ac (Bn (is := [1]) (xs := [.tmp 8]) A7 Jl rfl (Ab rfl Ad) rfl (by first | (simp [B9, cellsV]; done) | (simp [B9, cellsV, old]; done)) (B7 rfl) rfl) (hd 9 rfl) <| A4 (Dl (id := 1) (xs := [.const (.int .u64 4)]) Lr rfl (Ab rfl Ad) rfl (Cx rfl) (by decide) rfl) (hd 10 rfl) <| Hl (k := .u64) (l := [4]) (l' := [4]) 10 rfl rfl (by decide) rfl hL <| Ac (Bn (is := [0, 1]) (xs := [.const (.bool true), .tmp 10]) A7 C9 rfl (Ab rfl (Ab rfl Ad)) rfl (by first | (simp [B9, cellsV]; done) | (simp [B9, cellsV, old]; done)) (B7 rfl) rfl) (hd 11 rfl) ?_
  refine Ah Tryz.f43 (hMk) rfl Tryz.func43 rfl rfl (Ab rfl (Ab rfl Ad)) (.cons (.a1 .b (.a1 .n .a0)) (.cons (.a1 .b (.a1 .n .a0)) .nil)) (hd 12 rfl) ?_ (fun ch hp => by simp at hp)
  rintro _ ⟨⟩; refine zmv rfl (hd 7 rfl) <| Ac (Am rfl rfl) (hd 13 rfl) <| Ac (Am rfl rfl) (hd 14 rfl) <| A4 (At (id := 2) Ds (by decide) rfl (by decide) rfl) (hd 1 rfl) <| A6 (Ak rfl rfl rfl Er rfl rfl (zlb rfl)) <| zas rfl (hd 2 rfl) <| Aa <| zsr <| Ac (Bm B6 rfl rfl rfl rfl) (hd 16 rfl) ?_
  refine Ah Tryz.f44 (hPr) rfl Tryz.func44 rfl rfl (Ab rfl Ad) (.cons (.a1 .b (.a1 .n (.a1 .n .a0))) .nil) (hd 17 rfl) ?_ (fun ch hp => by simp at hp)
  rintro _ ⟨⟩; refine zmv rfl (hd 15 rfl) <| Ac (Am rfl rfl) (hd 18 rfl) <| Ac (Am rfl rfl) (hd 19 rfl) <| zas rfl (hd 3 rfl) <| zas rfl (hd 4 rfl) <| Aa <| Ae <| Af ?_
  refine Ah Tryz.f46 (Acg 1 (by unfold inI; omega)) rfl Tryz.func46 rfl rfl (Ab rfl Ad) (.cons .i .nil) (hd 21 rfl) ?_ (fun ch hp => by simp at hp)
  rintro y hy; injection hy with hy; subst hy
  refine Ah Tryz.f46 (Acg 0 (by unfold inI; omega)) rfl Tryz.func46 rfl rfl (Ab rfl Ad) (.cons .i .nil) (hd 22 rfl) ?_ (fun ch hp => by simp at hp)
  rintro y hy; injection hy with hy; subst hy
  refine Ah Tryz.f45 (QQuo_0 _ _ _ 1 1 r1 r1 _ _ _ 0 1 r0 r1 (by decide) (by decide) rfl) rfl Tryz.func45 rfl rfl (Ab rfl (Ab rfl Ad)) (.cons (.a1 .b (.a1 .n (.a1 .n .a0))) (.cons (.a1 .b (.a1 .n (.a1 .n .a0))) .nil)) (hd 23 rfl) ?_ (fun ch hp => by simp at hp)
  rintro _ ⟨⟩; refine zmv rfl (hd 20 rfl) <| Ac (Am rfl rfl) (hd 24 rfl) <| Ac (Am rfl rfl) (hd 25 rfl) <| A4 (At (id := 3) Ds (by decide) rfl (by decide) rfl) (hd 5 rfl) <| A6 (Ak rfl rfl rfl Er rfl rfl (zlb rfl)) <| zas rfl (hd 6 rfl) <| Aa <| zsr <| zmv rfl (hd 26 rfl) <| Ac (Cq (Ch rfl rfl) rfl) (hd 27 rfl) <| zmv rfl (hd 28 rfl) <| Ay 28 rfl rfl (Ar rfl) (hd 29 rfl) ?_; refine Ay 28 rfl rfl (Cq (Ch rfl rfl) rfl) (hd 30 rfl) <| Ac (A9 rfl rfl) (hd 31 rfl) <| zmv rfl (hd 32 rfl) <| Ay 32 rfl rfl (Ar rfl) (hd 33 rfl) <| Ay 32 rfl rfl (Cq (Aiq rfl rfl) rfl) (hd 34 rfl) <| Ac (A9 rfl rfl) (hd 35 rfl) <| zmv rfl (hd 36 rfl) <| Ay 36 rfl rfl (Ar rfl) (hd 37 rfl) <| Ay 36 rfl rfl (Cq (Ch rfl rfl) rfl) (hd 38 rfl) <| Ac (A9 rfl rfl) (hd 39 rfl) <| zas rfl (hd 0 rfl) <| Aa <| Ao ?_
  refine ⟨_, _, (.cons rfl .nil), .b, ?_⟩
  exact rfl

theorem dl0 {x : Nat} : (Aj B32 x).length = 0 ↔ x = 0 := by
  rw [List.length_eq_zero_iff]
  constructor
  · intro h
    refine Decidable.byContradiction fun hx => ?_
    have := Jj (b := B32) (by decide) x
    rw [h] at this
    simp [vb] at this
    omega
  · rintro rfl; exact Ct
theorem Hq {x y : Nat} (h : x ≤ y) : (Aj B32 x).length ≤ (Aj B32 y).length := Hr (b := B32) (by decide) x y h
theorem Nj {x : Nat} (h : Aq (x : Int) ≤ 67108864) : (Aj B32 x).length ≤ 2097152 := by
  have h1 := Ae2 h
  rwa [show dg (x : Int) = Aj B32 x from by unfold dg; rw [Int.natAbs_natCast]] at h1
theorem dgN {x : Nat} : dg (x : Int) = Aj B32 x := by unfold dg; rw [Int.natAbs_natCast]
theorem Aez {x : Nat} : L8 (Aj B32 x) = lm (x : Int) := by unfold lm; rw [Int.natAbs_natCast]; exact Vr x
theorem Rw.dl {l : List Int} {x : Nat} (h : Rw l x) : (Aj B32 x).length ≤ 2097152 := Nj h.b
theorem Uf {s : Bool} {n : Nat} : Aa4 (zs s n) = if n = 0 then 0 else if s = true then -1 else 1 := by
  unfold Aa4 zs
  cases s <;> by_cases h : n = 0 <;> simp [h] <;> omega

theorem Ahr (x y : Nat) (hdx : (Aj B32 x).length < 4294967296) (hdy : (Aj B32 y).length < 4294967296) : Spec Tryz.prog 76 [.n false .u64 (Aj B32 x), .n false .u64 (Aj B32 y)] (fun o => o = .ret (.n false .u64 (Aj B32 (Nat.gcd x y)))) := by
  refine Au [(0, .n false .u64 (Aj B32 x)), (1, .n false .u64 (Aj B32 y))] rfl Tryz.func76 rfl (zlb rfl) fun Γ hN hds hL hR => ?_
  have hd := Bt 19 hN
  refine zsr <| zas rfl (hd 4 rfl) <| Aa <| Ae <| Ap ?_
  refine Bq (G := Nat × Nat) (fun g => Nat.gcd g.1 g.2 = Nat.gcd x y ∧ (Aj B32 g.1).length < 4294967296 ∧ (Aj B32 g.2).length < 4294967296) (fun g => [(0, .n false .u64 (Aj B32 g.1)), (1, .n false .u64 (Aj B32 g.2)), (5, .u), (6, .u), (7, .u), (8, .u), (9, .u), (10, .u), (11, .u), (12, .u), (13, .u), (14, .u), (15, .u), (16, .u), (17, .u)]) (fun _ => _) (fun g => g.2) (x, y) ?_ ?_ rfl ?_
  · exact ⟨rfl, hdx, hdy⟩
  · exact (.cons rfl (.cons rfl (.v9 (.u (.u (.u .nil))))))
  · rintro ⟨u, v⟩ ⟨hc1, hc2, hc3⟩
    dsimp only at hc1 hc2 hc3 ⊢
    have hl0 := @dl0 v
    refine Ae <| zsr <| zmv rfl (hd 7 rfl) ?_
    refine Ah Tryz.f36 (Fp (Aj B32 v)) rfl Tryz.func36 rfl rfl (Ab rfl Ad) (.cons .n .nil) (hd 8 rfl) ?_ (fun ch hp => by simp at hp)
    rintro _ ⟨⟩; refine Ac (E1 rfl) (hd 9 rfl) <| Aa ?_
    refine jc_ifn rfl (fun h1 => ?_) (fun h1 => ?_)
    · have hv0 : v ≠ 0 := fun e => h1 (by have := hl0.2 e; omega)
      refine Ai <| Ap <| zsr <| zmv rfl (hd 11 rfl) <| zmv rfl (hd 12 rfl) ?_
      refine Ah Tryz.f77 (K6 u v hc2 hc3 (by omega)) rfl Tryz.func77 rfl rfl (Ab rfl (Ab rfl Ad)) (.cons .n (.cons .n .nil)) (hd 13 rfl) ?_ (fun ch hp => by simp at hp)
      rintro _ ⟨⟩; refine zmv rfl (hd 10 rfl) <| Ac (Am rfl rfl) (hd 14 rfl) <| Ac (Am rfl rfl) (hd 15 rfl) <| zas rfl (hd 5 rfl) <| zas rfl (hd 6 rfl) <| Aa <| Af <| zmv rfl (hd 16 rfl) <| zmv rfl (hd 17 rfl) <| zas rfl (hd 0 rfl) <| zas rfl (hd 1 rfl) <| Aa ?_
      refine ⟨(v, u % v), ?_, ?_, rfl, A5 30 rfl rfl ?_⟩
      · exact ⟨by rw [← hc1]; exact Sc, hc3, Nat.lt_of_le_of_lt (Hq (Nat.mod_le u v)) hc2⟩
      · exact Nat.mod_lt _ (by omega)
      · exact (.cons rfl (.cons rfl (.v9 (.u (.u (.u .nil))))))
    · have hv0 : v = 0 := hl0.1 (by omega)
      subst hv0
      rw [Nat.gcd_zero_right] at hc1
      refine Bh <| zsr <| zmv rfl (hd 18 rfl) <| zas rfl (hd 4 rfl) <| Aa <| Ao ?_
      refine ⟨_, _, (.cons rfl .nil), .n, ?_⟩
      rw [← hc1]

theorem Adx (b : Bool) (y : Nat) (h0 : y ≠ 0) : Spec Tryz.prog 37 [.b b, .n false .u64 (Aj B32 0), .n false .u64 (Aj B32 y)] (fun o => o = .ret (.a [.b (sgq b 0), .n false .u64 (Aj B32 (rn0 0 y)), .n false .u64 (Aj B32 (rd0 0 y))])) := by
  refine Au [(0, .b b), (1, .n false .u64 (Aj B32 0)), (2, .n false .u64 (Aj B32 y))] rfl Tryz.func37 rfl (zlb rfl) fun Γ hN hds hL hR => ?_
  have hd := Bt 31 hN
  have hI1 : Spec Tryz.prog 59 [.i .i64 1] (fun o => o = .ret (.n false .u64 (Aj B32 1))) := by have h := Rv ((1 : Nat) : Int) (by decide) (by decide); rw [Ru (v := 1) (by decide)] at h; exact h
  have hZe : Spec Tryz.prog 36 [.n false .u64 (Aj B32 0)] (fun o => o = .ret (.b true)) := by have h := Fp (Aj B32 0); rwa [decide_eq_true (by rw [Ct]; rfl)] at h
  refine zsr <| A4 (At (id := 0) Dh (by decide) rfl (by decide) rfl) (hd 6 rfl) <| Aa <| Ae <| zsr <| zmv rfl (hd 8 rfl) ?_
  refine Ah Tryz.f36 (hZe) rfl Tryz.func36 rfl rfl (Ab rfl Ad) (.cons .n .nil) (hd 9 rfl) ?_ (fun ch hp => by simp at hp)
  rintro _ ⟨⟩; refine Aa <| B4 rfl <| Ae <| Af ?_
  refine Ah Tryz.f59 (hI1) rfl Tryz.func59 rfl rfl (Ab rfl Ad) (.cons .i .nil) (hd 10 rfl) ?_ (fun ch hp => by simp at hp)
  rintro _ ⟨⟩; refine Ac (Bn (is := [2]) (xs := [.tmp 10]) Dh U3 rfl (Ab rfl Ad) rfl (by first | (simp [B9, cellsV]; done) | (simp [B9, cellsV, old]; done)) (B7 rfl) rfl) (hd 11 rfl) <| A6 (Ak rfl rfl rfl Fw rfl rfl (zlb rfl)) <| Aa <| Ao ?_
  refine ⟨_, _, (.cons (ResV.cell Dp rfl rfl rfl rfl) .nil), (.a1 .b (.a1 (.nil (fr := false) (k := .u64)) (.a1 .n .a0))), ?_⟩
  rw [Ade, Yc, Ahq h0, Ct]

theorem Adw (b : Bool) (x y : Nat) (hdx : (Aj B32 x).length < 4294967296) (hdy : (Aj B32 y).length < 4294967296) (h0 : y ≠ 0) (h1 : x ≠ 0) : Spec Tryz.prog 37 [.b b, .n false .u64 (Aj B32 x), .n false .u64 (Aj B32 y)] (fun o => o = .ret (.a [.b (sgq b x), .n false .u64 (Aj B32 (rn0 x y)), .n false .u64 (Aj B32 (rd0 x y))])) := by
  refine Au [(0, .b b), (1, .n false .u64 (Aj B32 x)), (2, .n false .u64 (Aj B32 y))] rfl Tryz.func37 rfl (zlb rfl) fun Γ hN hds hL hR => ?_
  have hd := Bt 31 hN
  have hl0 := @dl0 x
  have hgl : (Aj B32 (Nat.gcd x y)).length < 4294967296 := Nat.lt_of_le_of_lt (Hq (Nat.le_of_dvd (by omega) (Nat.gcd_dvd_right x y))) hdy
  have hg0 := Ge (x := x) h0
  have hZe : Spec Tryz.prog 36 [.n false .u64 (Aj B32 x)] (fun o => o = .ret (.b false)) := by have h := Fp (Aj B32 x); rwa [decide_eq_false (by have := @dl0 x; omega)] at h
  refine zsr <| A4 (At (id := 0) Dh (by decide) rfl (by decide) rfl) (hd 6 rfl) <| Aa <| Ae <| zsr <| zmv rfl (hd 8 rfl) ?_
  refine Ah Tryz.f36 (hZe) rfl Tryz.func36 rfl rfl (Ab rfl Ad) (.cons .n .nil) (hd 9 rfl) ?_ (fun ch hp => by simp at hp)
  rintro _ ⟨⟩; refine Aa <| A1 rfl <| Ai <| zsr <| zmv rfl (hd 12 rfl) <| zmv rfl (hd 13 rfl) ?_
  refine Ah Tryz.f76 (Ahr x y hdx hdy) rfl Tryz.func76 rfl rfl (Ab rfl (Ab rfl Ad)) (.cons .n (.cons .n .nil)) (hd 14 rfl) ?_ (fun ch hp => by simp at hp)
  rintro _ ⟨⟩; refine zas rfl (hd 7 rfl) <| Aa <| zsr <| zmv rfl (hd 16 rfl) <| zmv rfl (hd 17 rfl) ?_
  refine Ah Tryz.f77 (K6 x (Nat.gcd x y) hdx hgl hg0) rfl Tryz.func77 rfl rfl (Ab rfl (Ab rfl Ad)) (.cons .n (.cons .n .nil)) (hd 18 rfl) ?_ (fun ch hp => by simp at hp)
  rintro _ ⟨⟩; refine zmv rfl (hd 15 rfl) <| Ac (Am rfl rfl) (hd 19 rfl) <| Ac (Am rfl rfl) (hd 20 rfl) <| zas rfl (hd 1 rfl) <| Aa <| zsr <| zmv rfl (hd 22 rfl) <| zmv rfl (hd 23 rfl) ?_
  refine Ah Tryz.f77 (K6 y (Nat.gcd x y) hdy hgl hg0) rfl Tryz.func77 rfl rfl (Ab rfl (Ab rfl Ad)) (.cons .n (.cons .n .nil)) (hd 24 rfl) ?_ (fun ch hp => by simp at hp)
  rintro _ ⟨⟩; refine zmv rfl (hd 21 rfl) <| Ac (Am rfl rfl) (hd 25 rfl) <| Ac (Am rfl rfl) (hd 26 rfl) <| zas rfl (hd 2 rfl) <| Aa <| zsr <| zmv rfl (hd 27 rfl) <| zmv rfl (hd 28 rfl) <| zmv rfl (hd 29 rfl) <| Ac (Bn (is := [0, 1, 2]) (xs := [.tmp 27, .tmp 28, .tmp 29]) Dh Gw rfl (Ab rfl (Ab rfl (Ab rfl Ad))) rfl (by first | (simp [B9, cellsV]; done) | (simp [B9, cellsV, old]; done)) (B7 rfl) rfl) (hd 30 rfl) <| A6 (Ak rfl rfl rfl Fw rfl rfl (zlb rfl)) <| Aa ?_; refine Ao ?_
  refine ⟨_, _, (.cons (ResV.cell Dp rfl rfl rfl rfl) .nil), (.a1 .b (.a1 .n (.a1 .n .a0))), ?_⟩
  rw [Ahd h1]
  rfl

theorem Adv (b : Bool) (x y : Nat) (hdx : (Aj B32 x).length < 4294967296) (hdy : (Aj B32 y).length < 4294967296) (h0 : y ≠ 0) : Spec Tryz.prog 37 [.b b, .n false .u64 (Aj B32 x), .n false .u64 (Aj B32 y)] (fun o => o = .ret (.a [.b (sgq b x), .n false .u64 (Aj B32 (rn0 x y)), .n false .u64 (Aj B32 (rd0 x y))])) := by
  by_cases h1 : x = 0
  · subst h1; exact Adx b y h0
  · exact Adw b x y hdx hdy h0 h1

theorem Y4 (s : Bool) (l d : List Int) (x y : Nat) (hx : Rw l x) (hy : Rw d y) (h0 : y ≠ 0) : Spec Tryz.prog 7 [(.a [.b s, .n false .u64 l, .n false .u64 d])] (fun o => o = .ret (.t [(.a [.b (sgq s x), .n false .u64 (Aj B32 (rn0 x y)), .n false .u64 (Aj B32 (rd0 x y))]), .b true])) := by
  refine Au [(0, (.a [.b s, .n false .u64 l, .n false .u64 d]))] rfl Tryz.func7 rfl (zlb rfl) fun Γ hN hds hL hR => ?_
  have hd := Bt 20 hN
  have hOl : Spec Tryz.prog 22 [.n false .u64 l] (fun o => o = .ret (.n false .u64 (Aj B32 x))) := by have h := Yp l (by have := hx.l; omega) hx.u; rwa [Yo hx.u, hx.v, Int.toNat_natCast] at h
  have hOd : Spec Tryz.prog 22 [.n false .u64 d] (fun o => o = .ret (.n false .u64 (Aj B32 y))) := by have h := Yp d (by have := hy.l; omega) hy.u; rwa [Yo hy.u, hy.v, Int.toNat_natCast] at h
  have hl0 := @dl0 y
  have hlx := hx.dl
  have hly := hy.dl
  have hZe : Spec Tryz.prog 36 [.n false .u64 (Aj B32 y)] (fun o => o = .ret (.b false)) := by have h := Fp (Aj B32 y); rwa [decide_eq_false (by have := @dl0 y; omega)] at h
  refine zsr <| A4 (By (id := 0) (n := 3) rfl rfl rfl (by decide) rfl) (hd 1 rfl) <| A4 (At (id := 1) Dh (by decide) rfl (by decide) rfl) (hd 2 rfl) <| zas rfl (hd 3 rfl) <| Aa <| zsr <| Ac (Bl Ex rfl rfl rfl) (hd 5 rfl) <| Ac (Be D8 rfl rfl rfl) (hd 6 rfl) ?_
  refine Ah Tryz.f22 (hOd) rfl Tryz.func22 rfl rfl (Ab rfl Ad) (.cons .n .nil) (hd 7 rfl) ?_ (fun ch hp => by simp at hp)
  rintro _ ⟨⟩; refine zas rfl (hd 4 rfl) <| Aa <| Ae <| zsr <| zmv rfl (hd 8 rfl) ?_
  refine Ah Tryz.f36 (hZe) rfl Tryz.func36 rfl rfl (Ab rfl Ad) (.cons .n .nil) (hd 9 rfl) ?_ (fun ch hp => by simp at hp)
  rintro _ ⟨⟩; refine Aa <| A1 rfl <| Ai <| Ae <| Bu (n := 11) _ rfl Cg <| Av 0 [1, 2, 8, 9, 10] (Al (Bl Fj rfl rfl rfl) (hd 11 rfl)) rfl <| Av 1 [2, 8, 9, 10] (Al (Bl Dm rfl rfl rfl) (hd 12 rfl)) rfl <| zal 2 (Al (Be Ir rfl rfl rfl) (hd 13 rfl)) rfl <| Av 3 [4, 5, 6, 8, 9, 10] (Al (Bl Fj rfl rfl rfl) (hd 14 rfl)) rfl <| Av 4 [5, 6, 8, 9, 10] (Al (Bl Cw rfl rfl rfl) (hd 15 rfl)) rfl <| Av 5 [6, 8, 9, 10] (Al (Be D8 rfl rfl rfl) (hd 16 rfl)) rfl <| zal 7 (Al (Ar rfl) (hd 18 rfl)) rfl ?_
  refine B5 6 ?_ rfl (by kernel_rfl)
  refine Bp Tryz.f22 (hOl) rfl Tryz.func22 rfl rfl (Ab rfl Ad) (.cons .n .nil) (hd 17 rfl) ?_ (fun ch hp => by simp at hp)
  rintro y hy; injection hy with hy; subst hy
  refine B5 8 ?_ rfl (by kernel_rfl)
  refine Bp Tryz.f37 (Adv s x y (by omega) (by omega) h0) rfl Tryz.func37 rfl rfl (Ab rfl (Ab rfl (Ab rfl Ad))) (.cons .b (.cons .n (.cons .n .nil))) (hd 19 rfl) ?_ (fun ch hp => by simp at hp)
  rintro y hy; injection hy with hy; subst hy
  refine B5 9 ?_ rfl (by kernel_rfl)
  refine D1 (Ak rfl rfl rfl Fw rfl rfl (zlb rfl)) rfl <| zal 10 (Al (Cm rfl) (hd 3 rfl)) rfl <| Bx (by kernel_rfl) <| Ao ?_
  refine ⟨_, _, (.cons (ResV.cell Dp rfl rfl rfl rfl) (.cons rfl .nil)), (.t1 (.a1 .b (.a1 .n (.a1 .n .a0))) (.t1 .b .t0)), ?_⟩
  exact rfl

theorem Y3 (s : Bool) (l d : List Int) (hy : Rw d 0) : Spec Tryz.prog 7 [(.a [.b s, .n false .u64 l, .n false .u64 d])] (fun o => o = .ret (.t [(.a [.b false, .n false .u64 [], .n false .u64 []]), .b false])) := by
  refine Au [(0, (.a [.b s, .n false .u64 l, .n false .u64 d]))] rfl Tryz.func7 rfl (zlb rfl) fun Γ hN hds hL hR => ?_
  have hd := Bt 20 hN
  have hOd : Spec Tryz.prog 22 [.n false .u64 d] (fun o => o = .ret (.n false .u64 (Aj B32 0))) := by have h := Yp d (by have := hy.l; omega) hy.u; rwa [Yo hy.u, hy.v] at h
  have hZe : Spec Tryz.prog 36 [.n false .u64 (Aj B32 0)] (fun o => o = .ret (.b true)) := by have h := Fp (Aj B32 0); rwa [decide_eq_true (by rw [Ct]; rfl)] at h
  refine zsr <| A4 (By (id := 0) (n := 3) rfl rfl rfl (by decide) rfl) (hd 1 rfl) <| A4 (At (id := 1) Dh (by decide) rfl (by decide) rfl) (hd 2 rfl) <| zas rfl (hd 3 rfl) <| Aa <| zsr <| Ac (Bl Ex rfl rfl rfl) (hd 5 rfl) <| Ac (Be D8 rfl rfl rfl) (hd 6 rfl) ?_
  refine Ah Tryz.f22 (hOd) rfl Tryz.func22 rfl rfl (Ab rfl Ad) (.cons .n .nil) (hd 7 rfl) ?_ (fun ch hp => by simp at hp)
  rintro _ ⟨⟩; refine zas rfl (hd 4 rfl) <| Aa <| Ae <| zsr <| zmv rfl (hd 8 rfl) ?_
  refine Ah Tryz.f36 (hZe) rfl Tryz.func36 rfl rfl (Ab rfl Ad) (.cons .n .nil) (hd 9 rfl) ?_ (fun ch hp => by simp at hp)
  rintro _ ⟨⟩; refine Aa <| B4 rfl <| zsr <| Ac (Bn (is := []) (xs := []) (pls := []) Dh Yt rfl Ad rfl trivial (B7 rfl) rfl) (hd 10 rfl) <| A6 (Ak rfl rfl rfl Fw rfl rfl (zlb rfl)) <| zas rfl (hd 3 rfl) <| Aa <| Ao ?_
  refine ⟨_, _, (.cons (ResV.cell Dp rfl rfl rfl rfl) (.cons rfl .nil)), (.t1 (.a1 .b (.a1 (.nil (fr := false) (k := .u64)) (.a1 (.nil (fr := false) (k := .u64)) .a0))) (.t1 .b .t0)), ?_⟩
  exact rfl

theorem Ahu (b : Bool) (x : Nat) (hdx : (Aj B32 x).length < 4294967296) : Spec Tryz.prog 9 [.a [.b b, .n false .u64 (lm (x : Int))], (.a [.b b, .n false .u64 (Aj B32 x)])] (fun o => o = .ret (.b true)) := by
  refine Au [(0, .a [.b b, .n false .u64 (lm (x : Int))]), (1, (.a [.b b, .n false .u64 (Aj B32 x)]))] rfl Tryz.func9 rfl (zlb rfl) fun Γ hN hds hL hR => ?_
  have hd := Bt 17 hN
  have hIs : Spec Tryz.prog 42 [.n false .u64 (Aj B32 x), .n false .u64 (lm (x : Int))] (fun o => o = .ret (.b true)) := by have h := Is_s (Aj B32 x) (by omega); rwa [Aez] at h
  refine zsr <| A4 (By (id := 0) (n := 2) rfl rfl rfl (by decide) rfl) (hd 2 rfl) <| A4 (By (id := 1) (n := 2) rfl rfl rfl (by decide) rfl) (hd 3 rfl) <| zas rfl (hd 4 rfl) <| Aa <| zsr <| Ac (Bl Dm rfl rfl rfl) (hd 5 rfl) <| Ac (Be Ir rfl rfl rfl) (hd 6 rfl) <| Ac (Bl Wd rfl rfl rfl) (hd 7 rfl) <| Ac (Be Ir rfl rfl rfl) (hd 8 rfl) <| Ac (Ba (Aip und4 rfl rfl) (show V.b (_ == _) = V.b true from congrArg V.b (beq_self_eq_true _))) (hd 9 rfl) ?_; refine zmv rfl (hd 10 rfl) <| Ay 10 rfl rfl (Bl Li rfl rfl rfl) (hd 11 rfl) <| Ay 10 rfl rfl (Be Eo rfl rfl rfl) (hd 12 rfl) <| Ay 10 rfl rfl (Bl Cw rfl rfl rfl) (hd 13 rfl) <| Ay 10 rfl rfl (Be D8 rfl rfl rfl) (hd 14 rfl) ?_
  refine Dv Tryz.f42 10 rfl rfl (hIs) rfl Tryz.func42 rfl rfl (Ab rfl (Ab rfl Ad)) (.cons .n (.cons .n .nil)) (hd 15 rfl) ?_ (fun ch hp => by simp at hp)
  rintro _ ⟨⟩; refine Ac (A9 rfl rfl) (hd 16 rfl) <| zas rfl (hd 4 rfl) <| Aa <| Ao ?_
  refine ⟨_, _, (.cons rfl .nil), .b, ?_⟩
  exact rfl

theorem Oj (b : Bool) (x : Nat) (Y : List Int) : Spec Tryz.prog 38 [(.a [.b b, .n false .u64 (Aj B32 x), .n false .u64 Y])] (fun o => o = .ret (.i .i64 (Aa4 (zs b x)))) := by
  refine Au [(0, (.a [.b b, .n false .u64 (Aj B32 x), .n false .u64 Y]))] rfl Tryz.func38 rfl (zlb rfl) fun Γ hN hds hL hR => ?_
  have hd := Bt 8 hN
  have hl0 := @dl0 x
  refine zsr <| A4 (By (id := 0) (n := 3) rfl rfl rfl (by decide) rfl) (hd 1 rfl) <| zas rfl (hd 2 rfl) <| Aa <| Ae <| zsr <| Ac (Bl Da rfl rfl rfl) (hd 3 rfl) <| Ac (Be Eo rfl rfl rfl) (hd 4 rfl) ?_
  refine Ah Tryz.f36 (Fp (Aj B32 x)) rfl Tryz.func36 rfl rfl (Ab rfl Ad) (.cons .n .nil) (hd 5 rfl) ?_ (fun ch hp => by simp at hp)
  rintro _ ⟨⟩; refine Aa ?_
  refine Bg rfl (fun h1 => ?_) (fun h1 => ?_)
  · have hx0 : x = 0 := hl0.1 (by omega)
    refine zsr <| zas rfl (hd 2 rfl) <| Aa <| Ao ?_
    refine ⟨_, _, (.cons rfl .nil), .i, ?_⟩
    rw [Uf, if_pos hx0]
  · have hx0 : x ≠ 0 := fun e => h1 (by have := hl0.2 e; omega)
    refine Ai <| Ae <| zsr <| Ac (Bl Ew rfl rfl rfl) (hd 6 rfl) <| Ac (Be Ir rfl rfl rfl) (hd 7 rfl) <| Aa ?_
    refine Fm rfl (fun h2 => ?_) (fun h2 => ?_)
    · have hb := h2
      refine zsr <| zas rfl (hd 2 rfl) <| Aa <| Ao ?_
      refine ⟨_, _, (.cons rfl .nil), .i, ?_⟩
      rw [Uf, if_neg hx0, if_pos hb]
    · have hb := h2
      refine Ai <| zsr <| zas rfl (hd 2 rfl) <| Aa <| Ao ?_
      refine ⟨_, _, (.cons rfl .nil), .i, ?_⟩
      rw [Uf, if_neg hx0, if_neg (by rw [hb]; decide)]


def upW (w : Nat) (a : List Int) (s i : Nat) : List Int := List.replicate w 0 ++ upR a s i
theorem Acp {w : Nat} {a : List Int} {s i : Nat} (h : i ≤ a.length) : (upW w a s i).length = w + a.length + 1 := by
  unfold upW
  rw [List.length_append, List.length_replicate, Ps h]
  omega
theorem upW_0 {w : Nat} {a : List Int} {s : Nat} : List.replicate (w + a.length + 1) (0 : Int) = upW w a s 0 := by
  unfold upW
  rw [← Acr, List.replicate_append_replicate]
  rfl
theorem Aaq {w : Nat} {a : List Int} {s i j : Nat} : (upW w a s i).getD (w + j) 0 = (upR a s i).getD j 0 := by
  unfold upW
  rw [List.getD_eq_getElem?_getD, List.getD_eq_getElem?_getD, List.getElem?_append_right (by rw [List.length_replicate]; omega), List.length_replicate, Nat.add_sub_cancel_left]
theorem Acq {w : Nat} {a : List Int} {s i : Nat} : (upW w a s i).getD ((0 + (w + i)) * 1) 0 = (upN a s i).2 := by
  rw [Nat.mul_one, Nat.zero_add, Aaq]
  have h := @Pt a s i
  rwa [Nat.mul_one, Nat.zero_add] at h
theorem Xv {a : List Int} {s i : Nat} (h : i < a.length) : (upR a s i).getD (i + 1) 0 = 0 := by
  unfold upR Ci
  rw [List.getD_eq_getElem?_getD, List.getElem?_append_right (by simp [E5])]
  simp only [List.length_append, E5, List.length_singleton, List.getElem?_replicate]
  split <;> rfl
theorem Xu {w : Nat} {a : List Int} {s i : Nat} {z : Int} (h : i < a.length) : ((upW w a s i).set ((0 + (w + i)) * 1) z).getD ((0 + (w + i + 1)) * 1) 0 = 0 := by
  rw [Nat.mul_one, Nat.zero_add, Nat.mul_one, Nat.zero_add, List.getD_eq_getElem?_getD, List.getElem?_set_ne (by omega), ← List.getD_eq_getElem?_getD, Nat.add_assoc, Aaq, Xv h]
theorem Aco {w : Nat} {a : List Int} {s i : Nat} (h : i < a.length) : ((upW w a s i).set ((0 + (w + i)) * 1) ((upN a s i).2 + loS (a.getD i 0) s)).set ((0 + (w + i + 1)) * 1) (hiS (a.getD i 0) s) = upW w a s (i + 1) := by
  have h1 := Pr (s := s) h
  simp only [Nat.mul_one, Nat.zero_add] at h1 ⊢
  unfold upW
  have hst : ∀ (l : List Int) (j : Nat) (z : Int), (List.replicate w 0 ++ l).set (w + j) z = List.replicate w 0 ++ l.set j z := fun l j z => by
    rw [List.set_append, if_neg (by rw [List.length_replicate]; omega), List.length_replicate, Nat.add_sub_cancel_left]
  rw [hst, Nat.add_assoc, hst, h1]
theorem Aak (l : List Int) : ∀ w, vl (List.replicate w 0 ++ l) = 2 ^ (64 * w) * vl l
  | 0 => by simp
  | w + 1 => by
    rw [List.replicate_succ, List.cons_append]
    show (0 : Int) + Bs * vl (List.replicate w 0 ++ l) = _
    rw [Aak l w, Int.zero_add, ← Int.mul_assoc, show 64 * (w + 1) = 64 + 64 * w by omega, Int.pow_add]
    rfl
theorem upW_u {w : Nat} {a : List Int} {s : Nat} (hs : s < 64) (ha : Az a) : Az (upW w a s a.length) := by
  unfold upW
  rw [Mi]
  intro x hx
  rcases List.mem_append.1 hx with hx | hx
  · rw [List.eq_of_mem_replicate hx]; decide
  · exact Xw hs ha x hx
theorem Acn {w : Nat} {a : List Int} {s : Nat} (hs : s ≤ 64) : vl (upW w a s a.length) = vl a * 2 ^ (64 * w + s) := by
  unfold upW
  rw [Mi, Aak, Mj hs, Int.pow_add, ← Int.mul_assoc, ← Int.mul_assoc, Int.mul_comm (2 ^ (64 * w))]
theorem Ago {a : List Int} {x n : Nat} (ha : Az a) (hv : vl a = (x : Int)) : trm (upW (n / 64) a (n % 64) a.length) = lm ((x * 2 ^ n : Nat) : Int) := by
  have hs : n % 64 < 64 := Nat.mod_lt _ (by decide)
  refine Fv (upW_u hs ha) ?_
  rw [Acn (Nat.le_of_lt hs), hv, show 64 * (n / 64) + n % 64 = n by omega, Int.natCast_mul, Int.natCast_pow]
  rfl

theorem Xf (v : Int) (n : Nat) (hv : Aq v ≤ 67108864) (hn : n ≤ 1099511627776) (ho : (lm v).length ≤ n / 64) : Spec Tryz.prog 33 [.n false .u64 (lm v), .i .i64 (n : Int)] (fun o => o = .ret (.t [.n false .u64 [], .i .i64 0])) := by
  refine Au [(0, .n false .u64 (lm v)), (1, .i .i64 (n : Int))] rfl Tryz.func33 rfl (zlb rfl) fun Γ hN hds hL hR => ?_
  have hd := Bt 77 hN
  have hlv := Bv hv
  have hTr : Spec Tryz.prog 72 [.n false .u64 (lm v)] (fun o => o = .ret (.n false .u64 (lm v))) := by have h := Fn (lm v) (by omega); rwa [Ku (Aev _)] at h
  refine zsr <| zas rfl (hd 4 rfl) <| zas rfl (hd 5 rfl) <| Aa <| Ae <| zsr <| zmv rfl (hd 10 rfl) <| Ac (Bo (Br rfl rfl) (by omega)) (hd 11 rfl) <| zmv rfl (hd 12 rfl) <| Ay 12 rfl rfl (Ar rfl) (hd 13 rfl) <| Ay 12 rfl rfl (Bo (Ca rfl rfl) (by omega)) (hd 14 rfl) ?_; refine Ac (A3 rfl rfl) (hd 15 rfl) <| Aa <| A1 rfl <| Ai <| zsr <| zmv rfl (hd 16 rfl) ?_
  refine Ah Tryz.f72 (hTr) rfl Tryz.func72 rfl rfl (Ab rfl Ad) (.cons .n .nil) (hd 17 rfl) ?_ (fun ch hp => by simp at hp)
  rintro _ ⟨⟩; refine zas rfl (hd 0 rfl) <| Aa <| zsr <| zmv rfl (hd 18 rfl) <| Ac (Dk rfl rfl (by decide) (r := ((n / 64 : Nat) : Int)) (by rw [show ((n : Int).tdiv 64) = ((n / 64 : Nat) : Int) from rfl, Ag (by omega) (by omega)])) (hd 19 rfl) <| zmv rfl (hd 20 rfl) <| Ac (Ba (Fi rfl rfl (by decide) rfl) (show V.i .i64 ((n : Int).tmod 64) = V.i .i64 ((n % 64 : Nat) : Int) from rfl)) (hd 21 rfl) <| Ac (Cv Jx Kq rfl (r := ((n % 64 : Nat) : Int)) (A0 (by omega) (by omega))) (hd 22 rfl) <| zas rfl (hd 6 rfl) <| zas rfl (hd 7 rfl) <| Aa <| Ae ?_; refine zsr <| zmv rfl (hd 23 rfl) <| zmv rfl (hd 24 rfl) <| Ac (As Bc rfl) (hd 25 rfl) <| Ac (Cq (Eh rfl rfl) (by omega)) (hd 26 rfl) <| Aa <| B4 rfl <| zsr <| zas rfl (hd 4 rfl) <| zas rfl (hd 5 rfl) <| Aa ?_; refine Ao ?_
  refine ⟨_, _, (.cons rfl (.cons rfl .nil)), (.t1 (.nil (fr := false) (k := .u64)) (.t1 .i .t0)), ?_⟩
  exact rfl

theorem Pn (v : Int) (n : Nat) (hv : Aq v ≤ 67108864) (hn : n ≤ 1099511627776) : Spec Tryz.prog 33 [.n false .u64 (lm v), .i .i64 (n : Int)] (fun o => o = .ret (.t [.n false .u64 (lm ((v.natAbs / 2 ^ n : Nat) : Int)), .i .i64 0])) := by
  have hal : lm ((v.natAbs : Nat) : Int) = lm v := by unfold lm; rw [Int.natAbs_natCast]
  rcases Nat.lt_or_ge (n / 64) (lm v).length with h | h
  · have h1 := Af0 v.natAbs n (by have : Aq ((v.natAbs : Nat) : Int) = Aq v := (by unfold Aq; rw [Int.natAbs_natCast]); omega) (by rw [hal]; exact h)
    rwa [hal] at h1
  · have h1 := Xf v n hv hn h
    have h2 := lm_lt v.natAbs
    rw [hal] at h2
    have h3 : v.natAbs / 2 ^ n = 0 := Nat.div_eq_of_lt (Nat.lt_of_lt_of_le h2 (Nat.pow_le_pow_right (by decide) (by omega)))
    rw [h3, show ((0 : Nat) : Int) = 0 from rfl, Aey]
    exact h1

theorem R9 (x n : Nat) (hlx : (lm (x : Int)).length ≤ 1048576) (hn : n ≤ 536870912) : Spec Tryz.prog 34 [.n false .u64 (lm (x : Int)), .i .i64 (n : Int)] (fun o => o = .ret (.t [.n false .u64 (lm ((x * 2 ^ n : Nat) : Int)), .i .i64 0])) := by
  refine Au [(0, .n false .u64 (lm (x : Int))), (1, .i .i64 (n : Int))] rfl Tryz.func34 rfl (zlb rfl) fun Γ hN hds hL hR => ?_
  have hd := Bt 57 hN
  have hux := Dc (x : Int)
  have hs : n % 64 < 64 := Nat.mod_lt _ (by decide)
  refine zsr <| zas rfl (hd 4 rfl) <| zas rfl (hd 5 rfl) <| Aa <| zsr <| zmv rfl (hd 9 rfl) <| Ac (Dk rfl rfl (by decide) (r := ((n / 64 : Nat) : Int)) (by rw [show ((n : Int).tdiv 64) = ((n / 64 : Nat) : Int) from rfl, Ag (by omega) (by omega)])) (hd 10 rfl) <| zmv rfl (hd 11 rfl) <| Ac (As Bc rfl) (hd 12 rfl) <| Ac (Aw rfl rfl (r := ((n / 64 + (lm (x : Int)).length : Nat) : Int)) (by rw [Ag (by omega) (by omega)]; omega)) (hd 13 rfl) <| Ac (Aw rfl rfl (r := ((n / 64 + (lm (x : Int)).length + 1 : Nat) : Int)) (by rw [Ag (by omega) (by omega)]; omega)) (hd 14 rfl) ?_; refine A4 (F5 (m := n / 64 + (lm (x : Int)).length + 1) Lr rfl rfl rfl (by show 8 * (n / 64 + (lm (x : Int)).length + 1) ≤ _; omega) (by unfold maxLen; omega) rfl) (hd 15 rfl) <| zas rfl (hd 6 rfl) <| Aa <| Ae <| Ae <| Lo (H' := [⟨71, 1, 0, true, ints .u64 (upW (n / 64) (lm (x : Int)) (n % 64) 0)⟩]) (by rw [← upW_0]; rfl) <| Af <| zmv rfl (hd 16 rfl) <| Ac (As Bc rfl) (hd 17 rfl) <| zmv rfl (hd 18 rfl) <| Aa <| Ap ?_
  refine Bq (G := Nat) (fun i => i ≤ (lm (x : Int)).length) (fun i => [(18, .i .i64 (i : Int)), (7, .u), (8, .u), (19, .u), (20, .u), (21, .u), (22, .u), (23, .u), (24, .u), (25, .u), (26, .u), (27, .u), (28, .u), (29, .u), (30, .u), (31, .u), (32, .u), (33, .u), (34, .u), (35, .u), (36, .u), (37, .u), (38, .u), (39, .u), (40, .u), (41, .u), (42, .u), (43, .u), (44, .u), (45, .u), (46, .u), (47, .u), (48, .u), (49, .u), (50, .u), (51, .u), (52, .u), (53, .u), (54, .u)]) (fun i => [⟨71, 1, 0, true, ints .u64 (upW (n / 64) (lm (x : Int)) (n % 64) i)⟩]) (fun i => (lm (x : Int)).length - i) 0 ?_ ?_ rfl ?_
  · exact Nat.zero_le _
  · exact (.cons rfl (.v9 (.v9 (.v9 (.v5 (.u (.u (.u .nil))))))))
  · rintro i hc1
    have hf := Acp (w := n / 64) (s := n % 64) hc1
    have hc := Tp (Nat.le_of_lt hs) hux i
    have hx9 := A2 hux i
    have hh := Lh (x := ((lm (x : Int)).getD i 0)) (Nat.le_of_lt hs) hx9.1 hx9.2
    have hp2 := p2le hs
    refine zsr <| Ac (Br rfl rfl) (hd 19 rfl) <| Aa <| Ae ?_
    refine Bg rfl (fun h1 => ?_) (fun h1 => ?_)
    · refine Ai <| Ae <| Ap <| zsr <| zmv rfl (hd 20 rfl) <| Ac (B2 (i := i) Bc rfl rfl (by first | rfl | omega) (by omega)) (hd 21 rfl) <| Ac (Bw Bj rfl rfl) (hd 22 rfl) <| zas rfl (hd 7 rfl) <| zas rfl (hd 8 rfl) <| Aa <| Ae <| Af ?_; refine zmv rfl (hd 23 rfl) <| zmv rfl (hd 24 rfl) <| Ac (Dk rfl rfl (by decide) (r := ((n / 64 : Nat) : Int)) (by rw [show ((n : Int).tdiv 64) = ((n / 64 : Nat) : Int) from rfl, Ag (by omega) (by omega)])) (hd 25 rfl) <| zmv rfl (hd 26 rfl) <| Ac (Aw rfl rfl (r := ((n / 64 + i : Nat) : Int)) (by rw [Ag (by omega) (by omega)]; omega)) (hd 27 rfl) <| Ac (Cd (i := n / 64 + i) Bc rfl rfl rfl (by first | rfl | omega) (by omega) rfl) (hd 28 rfl) <| Ac (Ba (D3 Bj rfl rfl (by omega)) (show V.i .u64 _ = V.i .u64 ((upN (lm (x : Int)) (n % 64) i).2) from congrArg (V.i .u64) Acq)) (hd 29 rfl) <| zmv rfl (hd 30 rfl) <| zmv rfl (hd 31 rfl) <| Ac (Ba (Fi rfl rfl (by decide) rfl) (show V.i .i64 ((n : Int).tmod 64) = V.i .i64 ((n % 64 : Nat) : Int) from rfl)) (hd 32 rfl) <| Ac (Cv Jx Kq rfl (r := ((n % 64 : Nat) : Int)) (A0 (by omega) (by omega))) (hd 33 rfl) <| Ac (Ba (Fo rfl rfl (by omega) rfl) (show V.i .u64 _ = V.i .u64 (loS ((lm (x : Int)).getD i 0) (n % 64)) from congrArg (V.i .u64) (Gv (by omega)))) (hd 34 rfl) <| Ac (Ba (F1 (by simp) rfl rfl rfl) (show V.i .u64 _ = V.i .u64 ((upN (lm (x : Int)) (n % 64) i).2 + loS ((lm (x : Int)).getD i 0) (n % 64)) from congrArg (V.i .u64) (Qg (by omega) hc.1 hc.2 hx9.1).1)) (hd 35 rfl) ?_; refine Ac (Cd (i := n / 64 + i) Bc rfl rfl rfl (by first | rfl | omega) (by omega) rfl) (hd 36 rfl) <| A6 (B3 rfl rfl rfl Bj (by omega)) <| Aa <| Af <| zmv rfl (hd 37 rfl) <| zmv rfl (hd 38 rfl) <| Ac (Dk rfl rfl (by decide) (r := ((n / 64 : Nat) : Int)) (by rw [show ((n : Int).tdiv 64) = ((n / 64 : Nat) : Int) from rfl, Ag (by omega) (by omega)])) (hd 39 rfl) <| zmv rfl (hd 40 rfl) <| Ac (Aw rfl rfl (r := ((n / 64 + i : Nat) : Int)) (by rw [Ag (by omega) (by omega)]; omega)) (hd 41 rfl) <| Ac (Aw rfl rfl (r := ((n / 64 + i + 1 : Nat) : Int)) (by rw [Ag (by omega) (by omega)]; omega)) (hd 42 rfl) <| Ac (Cd (i := n / 64 + i + 1) Bc rfl rfl rfl (by first | rfl | omega) (by omega) rfl) (hd 43 rfl) <| Ac (Ba (D3 Bj rfl rfl (by rw [List.length_set]; omega)) (show V.i .u64 _ = V.i .u64 (0) from congrArg (V.i .u64) (Xu (by omega)))) (hd 44 rfl) <| zmv rfl (hd 45 rfl) ?_; refine Ac (Ba (D2 rfl rfl (by omega) rfl) (show V.i .u64 _ = V.i .u64 (((lm (x : Int)).getD i 0) / 2) from congrArg (V.i .u64) (shr1 hx9.1))) (hd 46 rfl) <| zmv rfl (hd 47 rfl) <| Ac (Ba (Fi rfl rfl (by decide) rfl) (show V.i .i64 ((n : Int).tmod 64) = V.i .i64 ((n % 64 : Nat) : Int) from rfl)) (hd 48 rfl) <| Ac (Bd rfl rfl (r := ((63 - n % 64 : Nat) : Int)) (by rw [Ag (by omega) (by omega)]; omega)) (hd 49 rfl) <| Ac (Cv Jx Kq rfl (r := ((63 - n % 64 : Nat) : Int)) (A0 (by omega) (by omega))) (hd 50 rfl) <| Ac (Ba (D2 rfl rfl (by omega) rfl) (show V.i .u64 _ = V.i .u64 (hiS ((lm (x : Int)).getD i 0) (n % 64)) from congrArg (V.i .u64) ((Ih (by omega)).trans (P1 hs)))) (hd 51 rfl) <| Ac (Ba (F1 (by simp) rfl rfl rfl) (show V.i .u64 _ = V.i .u64 (hiS ((lm (x : Int)).getD i 0) (n % 64)) from congrArg (V.i .u64) (or_z hh.1 (by omega)))) (hd 52 rfl) <| Ac (Cd (i := n / 64 + i + 1) Bc rfl rfl rfl (by first | rfl | omega) (by omega) rfl) (hd 53 rfl) ?_
      refine A6 (B3 rfl rfl rfl Bj (by rw [List.length_set]; omega)) <| Aa <| Af <| Ac (Aw rfl rfl (r := ((i + 1 : Nat) : Int)) (by rw [Ag (by omega) (by omega)]; omega)) (hd 54 rfl) <| zmv rfl (hd 18 rfl) <| Aa ?_
      refine ⟨i + 1, ?_, ?_, (by show [(⟨71, 1, 0, true, ints .u64 _⟩ : Ob)] = [⟨71, 1, 0, true, ints .u64 _⟩]; rw [Aco (by omega)]), A5 78 rfl rfl ?_⟩
      · omega
      · omega
      · exact (.cons rfl (.v9 (.v9 (.v9 (.v5 (.u (.u (.u .nil))))))))
    · obtain rfl : i = (lm (x : Int)).length := by omega
      refine Bh <| Ae <| Ia (k := .u64) (l := (upW (n / 64) (lm (x : Int)) (n % 64) (lm (x : Int)).length)) (l' := (upW (n / 64) (lm (x : Int)) (n % 64) (lm (x : Int)).length)) 6 rfl rfl (by omega) (by rw [List.drop_zero, List.take_of_length_le (by omega)]) hL <| Af <| zmv rfl (hd 55 rfl) ?_
      refine Ah Tryz.f66 (E2 (upW (n / 64) (lm (x : Int)) (n % 64) (lm (x : Int)).length) (by omega)) rfl Tryz.func66 rfl rfl (Ab rfl Ad) (.cons .n .nil) (hd 56 rfl) ?_ (fun ch hp => by simp at hp)
      rintro _ ⟨⟩; refine zas rfl (hd 4 rfl) <| zas rfl (hd 5 rfl) <| Aa <| Ao ?_
      refine ⟨_, _, (.cons rfl (.cons rfl .nil)), (.t1 .nn (.t1 .i .t0)), ?_⟩
      rw [Ago (Dc _) (J3 (Int.natCast_nonneg _))]

theorem Aid {H : List Ob} {a b : Value} (ha : a.oneCell' = true) (hb : b.oneCell' = true) : [V.c a, V.c b].all (Ip H) = true := by simp [Ip, Tg, ha, hb]
theorem U8 {a b : Value} (ha : a.oneCell' = true) (hb : b.oneCell' = true) : [V.c a, V.c b].all Tg = true := by simp [Tg, ha, hb]

theorem Wz (a b ue : Value) (ha : a.oneCell' = true) (hb : b.oneCell' = true) (hu : ue.oneCell' = true) : Spec Tryz.prog 24 [.c .nilIface, .a [.c a, .c b], .c ue] (fun o => o = .ret (.t [.a [.c a, .c b], .c ue])) := by
  refine Au [(0, .c .nilIface), (1, .a [.c a, .c b]), (2, .c ue)] rfl Tryz.func24 rfl (zlb rfl) fun Γ hN hds hL hR => ?_
  have hd := Bt 26 hN
  refine zsr <| A4 (By (id := 0) (n := 2) rfl (U8 ha hb) rfl (by decide) rfl) (hd 4 rfl) <| A4 (At (id := 1) A7 (by decide) rfl (by decide) rfl) (hd 6 rfl) <| zas rfl (hd 7 rfl) <| Aa <| Ae <| zsr <| zmv rfl (hd 11 rfl) <| Ac (Qm Lu rfl) (hd 12 rfl) <| Aa <| B4 rfl ?_; refine zsr <| Ac (Bm B0 rfl rfl rfl rfl) (hd 13 rfl) <| zmv rfl (hd 14 rfl) <| A6 (Ak rfl rfl rfl B8 rfl (Aid ha hb) (zlb rfl)) <| zas rfl (hd 7 rfl) <| Aa <| Ao ?_
  refine ⟨_, _, (.cons (ResV.cell B0 rfl rfl rfl rfl) (.cons rfl .nil)), (.t1 (.a1 .c (.a1 .c .a0)) (.t1 .c .t0)), ?_⟩
  exact rfl

theorem Wy (a b ue : Value) (ha : a.oneCell' = true) (hb : b.oneCell' = true) (hu : ue.oneCell' = true) (e : Int) : Spec Tryz.prog 24 [.c (.iface 100 (.agg #[.int .i64 e])), .a [.c a, .c b], .c ue] (fun o => o = .ret (.t [(.a [.b false, .n false .u64 []]), .i .i64 e])) := by
  refine Au [(0, .c (.iface 100 (.agg #[.int .i64 e]))), (1, .a [.c a, .c b]), (2, .c ue)] rfl Tryz.func24 rfl (zlb rfl) fun Γ hN hds hL hR => ?_
  have hd := Bt 26 hN
  refine zsr <| A4 (By (id := 0) (n := 2) rfl (U8 ha hb) rfl (by decide) rfl) (hd 4 rfl) <| A4 (At (id := 1) A7 (by decide) rfl (by decide) rfl) (hd 6 rfl) <| zas rfl (hd 7 rfl) <| Aa <| Ae <| zsr <| zmv rfl (hd 11 rfl) <| Ac (Ql Lu rfl) (hd 12 rfl) <| Aa <| A1 rfl ?_; refine Ai <| zsr <| zmv rfl (hd 16 rfl) <| Ac (Aen M3 rfl) (hd 17 rfl) <| zmv rfl (hd 15 rfl) <| Ac (Am rfl rfl) (hd 18 rfl) <| Ac (Am rfl rfl) (hd 19 rfl) <| A4 (At (id := 2) J6 (by decide) rfl (by decide) rfl) (hd 8 rfl) <| A6 (Ak rfl rfl rfl P0 rfl rfl (zlb rfl)) <| zas rfl (hd 9 rfl) <| Aa <| Ae ?_; refine zsr <| zmv rfl (hd 20 rfl) <| Ac (E1 rfl) (hd 21 rfl) <| Aa <| A1 rfl <| Ai <| zsr <| A4 (At (id := 3) A7 (by decide) rfl (by decide) rfl) (hd 10 rfl) <| Aa <| Ae <| Bu (n := 5) _ rfl Cg ?_; refine zal 0 (Al (Bm B0 rfl rfl rfl rfl) (hd 23 rfl)) rfl ?_
  refine O8 1 3 ?_ ?_ rfl rfl (by kernel_rfl)
  · refine Ae4 (Bl Hm rfl rfl rfl) (hd 24 rfl) ?_
    refine O8 2 3 ?_ ?_ rfl rfl (by kernel_rfl)
    · refine Ae4 (Be E6 rfl rfl rfl) (hd 25 rfl) ?_
      refine B5 3 ?_ rfl (by kernel_rfl)
      refine D1 (Ak rfl rfl rfl B8 rfl rfl (zlb rfl)) rfl <| zal 4 (Al (Cm rfl) (hd 7 rfl)) rfl <| Bx (by kernel_rfl) <| Ao ?_
      refine ⟨_, _, (.cons (ResV.cell B0 rfl rfl rfl rfl) (.cons rfl .nil)), (.t1 (.a1 .b (.a1 (.nil (fr := false) (k := .u64)) .a0)) (.t1 .i .t0)), ?_⟩
      exact rfl
    · refine D1 (Ak rfl rfl rfl B8 rfl rfl (zlb rfl)) rfl <| zal 2 (Al (Be E6 rfl rfl rfl) (hd 25 rfl)) rfl <| zal 4 (Al (Cm rfl) (hd 7 rfl)) rfl <| Bx (by kernel_rfl) <| Ao ?_
      refine ⟨_, _, (.cons (ResV.cell B0 rfl rfl rfl rfl) (.cons rfl .nil)), (.t1 (.a1 .b (.a1 (.nil (fr := false) (k := .u64)) .a0)) (.t1 .i .t0)), ?_⟩
      exact rfl
  · refine D1 (Ak rfl rfl rfl B8 rfl rfl (zlb rfl)) rfl <| zal 1 (Al (Bl Hm rfl rfl rfl) (hd 24 rfl)) rfl <| zal 2 (Al (Be E6 rfl rfl rfl) (hd 25 rfl)) rfl <| zal 4 (Al (Cm rfl) (hd 7 rfl)) rfl <| Bx (by kernel_rfl) <| Ao ?_
    refine ⟨_, _, (.cons (ResV.cell B0 rfl rfl rfl rfl) (.cons rfl .nil)), (.t1 (.a1 .b (.a1 (.nil (fr := false) (k := .u64)) .a0)) (.t1 .i .t0)), ?_⟩
    exact rfl

theorem Fc : Clo Tryz.prog 23 25 28 2 true 100 (.a [.b false, .n false .u64 []]) where
  shape := ⟨Tryz.f23, Tryz.f24, 24, 29, 20, "ratio.go:197", Tryz.func23, rfl, rfl, rfl, Tryz.func24, rfl, rfl, fun us ue hl h1 h2 => by
    obtain ⟨a, b, rfl⟩ : ∃ a b, us = [a, b] := by
      match us, hl with
      | [a, b], _ => exact ⟨a, b, rfl⟩
    exact Wz a b ue (h1 a (by simp)) (h1 b (by simp)) h2, fun us ue e hl h1 h2 => by
    obtain ⟨a, b, rfl⟩ : ∃ a b, us = [a, b] := by
      match us, hl with
      | [a, b], _ => exact ⟨a, b, rfl⟩
    exact Wy a b ue (h1 a (by simp)) (h1 b (by simp)) h2 e⟩
  hm := Cg
  hld := .inl ⟨rfl, B0⟩
  hsz := B8
  hle := E6
  hz1 := rfl
  hz2 := rfl
  hz3 := fun _ => rfl

theorem At_den (s : Bool) (l d : List Int) (n m : Int) (hy : Rw d 0) : Spec Tryz.prog 6 [(.a [.b s, .n false .u64 l, .n false .u64 d]), .i .i64 n, .i .i64 m] (fun o => o = .ret (.t [(.a [.b false, .n false .u64 []]), .i .i64 70])) := by
  refine E8 [(0, (.a [.b s, .n false .u64 l, .n false .u64 d])), (1, .i .i64 n), (2, .i .i64 m)] rfl Tryz.func6 rfl (zlb rfl) fun Γ 𝓡 hN hds hL hR hE => ?_
  have hd := Bt 146 hN
  refine E7 <| Af <| A4 (By (id := 0) (n := 3) rfl rfl rfl (by decide) rfl) (hd 3 rfl) <| A4 (At (id := 1) A7 (by decide) rfl (by decide) rfl) (hd 6 rfl) <| A4 (At (id := 2) Gk (by decide) rfl (by decide) rfl) (hd 7 rfl) <| Aa <| Ei (g := 23) (caps := [.p 1 0 0, .p 2 0 0]) 3 [_] (ops := [_, _]) rfl Tryz.func23 rfl rfl rfl hds hR hL hE <| Ac (I5 (Ab rfl (Ab rfl Ad))) (hd 23 rfl) <| Aa ?_
  refine ⟨rfl, rfl, rfl, ?_⟩
  intro Γ1 hN1 hL hR1
  replace hd : ∀ d, Nat.blt d 146 = true → d < Γ1.N := fun d h => by rw [hN1]; exact hd d h
  refine Aa <| zsr <| Ac (Bm B6 rfl rfl rfl rfl) (hd 24 rfl) <| A4 (Dl (id := 3) (xs := [.tmp 24]) G8 rfl (Ab rfl Ad) rfl (Cx rfl) (by decide) rfl) (hd 25 rfl) <| Fl 25 (sz := 3) [[V.b s, V.n false .u64 l, V.n false .u64 d]] rfl rfl rfl rfl (by simp) (by simp [Fh]) (by decide) hL <| Ah Tryz.f25 (Vm s l d hy) rfl Tryz.func25 rfl rfl (Ab rfl Ad) (.cons .l .nil) (hd 26 rfl) (fun y hy => by simp at hy) ?_; rintro ch hch; injection hch with hch; subst hch; refine Clo.finP Fc (m := 3) (i := 1) (j := 2) (by decide) (zlb rfl) rfl rfl rfl rfl ?_
  refine ⟨_, _, (.cons (ResV.cell B0 rfl rfl rfl rfl) (.cons (ResV.cell1 E6 rfl rfl rfl) .nil)), (.t1 (.a1 .b (.a1 .n .a0)) (.t1 .i .t0)), ?_⟩
  exact rfl

theorem Af7 (s : Bool) (l d : List Int) (n m : Int) (y0 : Nat) (hy0 : Rw d y0) (h00 : y0 ≠ 0) (hn : n < -1099511627776) : Spec Tryz.prog 6 [(.a [.b s, .n false .u64 l, .n false .u64 d]), .i .i64 n, .i .i64 m] (fun o => o = .ret (.t [(.a [.b false, .n false .u64 []]), .i .i64 1])) := by
  refine E8 [(0, (.a [.b s, .n false .u64 l, .n false .u64 d])), (1, .i .i64 n), (2, .i .i64 m)] rfl Tryz.func6 rfl (zlb rfl) fun Γ 𝓡 hN hds hL hR hE => ?_
  have hd := Bt 146 hN
  refine E7 <| Af <| A4 (By (id := 0) (n := 3) rfl rfl rfl (by decide) rfl) (hd 3 rfl) <| A4 (At (id := 1) A7 (by decide) rfl (by decide) rfl) (hd 6 rfl) <| A4 (At (id := 2) Gk (by decide) rfl (by decide) rfl) (hd 7 rfl) <| Aa <| Ei (g := 23) (caps := [.p 1 0 0, .p 2 0 0]) 3 [_] (ops := [_, _]) rfl Tryz.func23 rfl rfl rfl hds hR hL hE <| Ac (I5 (Ab rfl (Ab rfl Ad))) (hd 23 rfl) <| Aa ?_
  refine ⟨rfl, rfl, rfl, ?_⟩
  intro Γ1 hN1 hL hR1
  replace hd : ∀ d, Nat.blt d 146 = true → d < Γ1.N := fun d h => by rw [hN1]; exact hd d h
  refine Aa <| zsr <| Ac (Bm B6 rfl rfl rfl rfl) (hd 24 rfl) <| A4 (Dl (id := 3) (xs := [.tmp 24]) G8 rfl (Ab rfl Ad) rfl (Cx rfl) (by decide) rfl) (hd 25 rfl) <| Fl 25 (sz := 3) [[V.b s, V.n false .u64 l, V.n false .u64 d]] rfl rfl rfl rfl (by simp) (by simp [Fh]) (by decide) hL ?_
  refine Ah Tryz.f25 (Fa s l d y0 hy0 h00) rfl Tryz.func25 rfl rfl (Ab rfl Ad) (.cons .l .nil) (hd 26 rfl) ?_ (fun ch hp => by simp at hp)
  rintro _ ⟨⟩; refine Aa <| Ae <| zsr <| zmv rfl (hd 27 rfl) <| Ac (Cq (Br rfl rfl) hn) (hd 28 rfl) <| zmv rfl (hd 29 rfl) <| Bk 29 rfl rfl rfl (hd 30 rfl) <| Bk 29 rfl rfl rfl (hd 31 rfl) <| Ac (A9 rfl rfl) (hd 32 rfl) <| Aa <| B4 rfl <| Ae ?_; refine Af <| Ac (Bn (is := []) (xs := []) (pls := []) A7 Gl rfl Ad rfl trivial (B7 rfl) rfl) (hd 33 rfl) <| A6 (Ak rfl rfl rfl B8 rfl rfl (zlb rfl)) <| A6 (Ak rfl rfl rfl Ig rfl rfl (zlb rfl)) <| Aa <| Ao <| Clo.fin Fc (m := 3) (i := 1) (j := 2) (zlb rfl) rfl rfl rfl rfl ?_
  refine ⟨_, _, (.cons (ResV.cell B0 rfl rfl rfl rfl) (.cons (ResV.cell1 E6 rfl rfl rfl) .nil)), (.t1 (.a1 .b (.a1 (.nil (fr := false) (k := .u64)) .a0)) (.t1 .i .t0)), ?_⟩
  exact rfl

theorem Af8 (s : Bool) (l d : List Int) (n m : Int) (y0 : Nat) (hy0 : Rw d y0) (h00 : y0 ≠ 0) (hn : n > 1099511627776) : Spec Tryz.prog 6 [(.a [.b s, .n false .u64 l, .n false .u64 d]), .i .i64 n, .i .i64 m] (fun o => o = .ret (.t [(.a [.b false, .n false .u64 []]), .i .i64 1])) := by
  refine E8 [(0, (.a [.b s, .n false .u64 l, .n false .u64 d])), (1, .i .i64 n), (2, .i .i64 m)] rfl Tryz.func6 rfl (zlb rfl) fun Γ 𝓡 hN hds hL hR hE => ?_
  have hd := Bt 146 hN
  refine E7 <| Af <| A4 (By (id := 0) (n := 3) rfl rfl rfl (by decide) rfl) (hd 3 rfl) <| A4 (At (id := 1) A7 (by decide) rfl (by decide) rfl) (hd 6 rfl) <| A4 (At (id := 2) Gk (by decide) rfl (by decide) rfl) (hd 7 rfl) <| Aa <| Ei (g := 23) (caps := [.p 1 0 0, .p 2 0 0]) 3 [_] (ops := [_, _]) rfl Tryz.func23 rfl rfl rfl hds hR hL hE <| Ac (I5 (Ab rfl (Ab rfl Ad))) (hd 23 rfl) <| Aa ?_
  refine ⟨rfl, rfl, rfl, ?_⟩
  intro Γ1 hN1 hL hR1
  replace hd : ∀ d, Nat.blt d 146 = true → d < Γ1.N := fun d h => by rw [hN1]; exact hd d h
  refine Aa <| zsr <| Ac (Bm B6 rfl rfl rfl rfl) (hd 24 rfl) <| A4 (Dl (id := 3) (xs := [.tmp 24]) G8 rfl (Ab rfl Ad) rfl (Cx rfl) (by decide) rfl) (hd 25 rfl) <| Fl 25 (sz := 3) [[V.b s, V.n false .u64 l, V.n false .u64 d]] rfl rfl rfl rfl (by simp) (by simp [Fh]) (by decide) hL ?_
  refine Ah Tryz.f25 (Fa s l d y0 hy0 h00) rfl Tryz.func25 rfl rfl (Ab rfl Ad) (.cons .l .nil) (hd 26 rfl) ?_ (fun ch hp => by simp at hp)
  rintro _ ⟨⟩; refine Aa <| Ae <| zsr <| zmv rfl (hd 27 rfl) <| Ac (Bo (Br rfl rfl) (by omega)) (hd 28 rfl) <| zmv rfl (hd 29 rfl) <| Ay 29 rfl rfl (Ar rfl) (hd 30 rfl) <| Ay 29 rfl rfl (Cq (Ca rfl rfl) hn) (hd 31 rfl) <| Ac (A3 rfl rfl) (hd 32 rfl) <| Aa <| B4 rfl <| Ae ?_; refine Af <| Ac (Bn (is := []) (xs := []) (pls := []) A7 Gl rfl Ad rfl trivial (B7 rfl) rfl) (hd 33 rfl) <| A6 (Ak rfl rfl rfl B8 rfl rfl (zlb rfl)) <| A6 (Ak rfl rfl rfl Ig rfl rfl (zlb rfl)) <| Aa <| Ao <| Clo.fin Fc (m := 3) (i := 1) (j := 2) (zlb rfl) rfl rfl rfl rfl ?_
  refine ⟨_, _, (.cons (ResV.cell B0 rfl rfl rfl rfl) (.cons (ResV.cell1 E6 rfl rfl rfl) .nil)), (.t1 (.a1 .b (.a1 (.nil (fr := false) (k := .u64)) .a0)) (.t1 .i .t0)), ?_⟩
  exact rfl

theorem Aac (s : Bool) (l d : List Int) (n m : Int) (y0 : Nat) (hy0 : Rw d y0) (h00 : y0 ≠ 0) (hn8 : -1099511627776 ≤ n) (hn9 : n ≤ 1099511627776) (hm : m < 0) : Spec Tryz.prog 6 [(.a [.b s, .n false .u64 l, .n false .u64 d]), .i .i64 n, .i .i64 m] (fun o => o = .ret (.t [(.a [.b false, .n false .u64 []]), .i .i64 81])) := by
  refine E8 [(0, (.a [.b s, .n false .u64 l, .n false .u64 d])), (1, .i .i64 n), (2, .i .i64 m)] rfl Tryz.func6 rfl (zlb rfl) fun Γ 𝓡 hN hds hL hR hE => ?_
  have hd := Bt 146 hN
  refine E7 <| Af <| A4 (By (id := 0) (n := 3) rfl rfl rfl (by decide) rfl) (hd 3 rfl) <| A4 (At (id := 1) A7 (by decide) rfl (by decide) rfl) (hd 6 rfl) <| A4 (At (id := 2) Gk (by decide) rfl (by decide) rfl) (hd 7 rfl) <| Aa <| Ei (g := 23) (caps := [.p 1 0 0, .p 2 0 0]) 3 [_] (ops := [_, _]) rfl Tryz.func23 rfl rfl rfl hds hR hL hE <| Ac (I5 (Ab rfl (Ab rfl Ad))) (hd 23 rfl) <| Aa ?_
  refine ⟨rfl, rfl, rfl, ?_⟩
  intro Γ1 hN1 hL hR1
  replace hd : ∀ d, Nat.blt d 146 = true → d < Γ1.N := fun d h => by rw [hN1]; exact hd d h
  refine Aa <| zsr <| Ac (Bm B6 rfl rfl rfl rfl) (hd 24 rfl) <| A4 (Dl (id := 3) (xs := [.tmp 24]) G8 rfl (Ab rfl Ad) rfl (Cx rfl) (by decide) rfl) (hd 25 rfl) <| Fl 25 (sz := 3) [[V.b s, V.n false .u64 l, V.n false .u64 d]] rfl rfl rfl rfl (by simp) (by simp [Fh]) (by decide) hL ?_
  refine Ah Tryz.f25 (Fa s l d y0 hy0 h00) rfl Tryz.func25 rfl rfl (Ab rfl Ad) (.cons .l .nil) (hd 26 rfl) ?_ (fun ch hp => by simp at hp)
  rintro _ ⟨⟩; refine Aa <| Ae <| zsr <| zmv rfl (hd 27 rfl) <| Ac (Bo (Br rfl rfl) (by omega)) (hd 28 rfl) <| zmv rfl (hd 29 rfl) <| Ay 29 rfl rfl (Ar rfl) (hd 30 rfl) <| Ay 29 rfl rfl (Bo (Ca rfl rfl) (by omega)) (hd 31 rfl) <| Ac (A3 rfl rfl) (hd 32 rfl) <| Aa <| A1 rfl <| Ai ?_; refine Ae <| zsr <| zmv rfl (hd 34 rfl) <| Ac (Cq (Br rfl rfl) hm) (hd 35 rfl) <| zmv rfl (hd 36 rfl) <| Bk 36 rfl rfl rfl (hd 37 rfl) <| Bk 36 rfl rfl rfl (hd 38 rfl) <| Ac (A9 rfl rfl) (hd 39 rfl) <| Aa <| B4 rfl <| Ae <| Af ?_; refine Ac (Bn (is := []) (xs := []) (pls := []) A7 Gl rfl Ad rfl trivial (B7 rfl) rfl) (hd 40 rfl) <| A6 (Ak rfl rfl rfl B8 rfl rfl (zlb rfl)) <| A6 (Ak rfl rfl rfl Ig rfl rfl (zlb rfl)) <| Aa <| Ao <| Clo.fin Fc (m := 3) (i := 1) (j := 2) (zlb rfl) rfl rfl rfl rfl ?_
  refine ⟨_, _, (.cons (ResV.cell B0 rfl rfl rfl rfl) (.cons (ResV.cell1 E6 rfl rfl rfl) .nil)), (.t1 (.a1 .b (.a1 (.nil (fr := false) (k := .u64)) .a0)) (.t1 .i .t0)), ?_⟩
  exact rfl

theorem Aad (s : Bool) (l d : List Int) (n m : Int) (y0 : Nat) (hy0 : Rw d y0) (h00 : y0 ≠ 0) (hn8 : -1099511627776 ≤ n) (hn9 : n ≤ 1099511627776) (hm : m > 2) : Spec Tryz.prog 6 [(.a [.b s, .n false .u64 l, .n false .u64 d]), .i .i64 n, .i .i64 m] (fun o => o = .ret (.t [(.a [.b false, .n false .u64 []]), .i .i64 81])) := by
  refine E8 [(0, (.a [.b s, .n false .u64 l, .n false .u64 d])), (1, .i .i64 n), (2, .i .i64 m)] rfl Tryz.func6 rfl (zlb rfl) fun Γ 𝓡 hN hds hL hR hE => ?_
  have hd := Bt 146 hN
  refine E7 <| Af <| A4 (By (id := 0) (n := 3) rfl rfl rfl (by decide) rfl) (hd 3 rfl) <| A4 (At (id := 1) A7 (by decide) rfl (by decide) rfl) (hd 6 rfl) <| A4 (At (id := 2) Gk (by decide) rfl (by decide) rfl) (hd 7 rfl) <| Aa <| Ei (g := 23) (caps := [.p 1 0 0, .p 2 0 0]) 3 [_] (ops := [_, _]) rfl Tryz.func23 rfl rfl rfl hds hR hL hE <| Ac (I5 (Ab rfl (Ab rfl Ad))) (hd 23 rfl) <| Aa ?_
  refine ⟨rfl, rfl, rfl, ?_⟩
  intro Γ1 hN1 hL hR1
  replace hd : ∀ d, Nat.blt d 146 = true → d < Γ1.N := fun d h => by rw [hN1]; exact hd d h
  refine Aa <| zsr <| Ac (Bm B6 rfl rfl rfl rfl) (hd 24 rfl) <| A4 (Dl (id := 3) (xs := [.tmp 24]) G8 rfl (Ab rfl Ad) rfl (Cx rfl) (by decide) rfl) (hd 25 rfl) <| Fl 25 (sz := 3) [[V.b s, V.n false .u64 l, V.n false .u64 d]] rfl rfl rfl rfl (by simp) (by simp [Fh]) (by decide) hL ?_
  refine Ah Tryz.f25 (Fa s l d y0 hy0 h00) rfl Tryz.func25 rfl rfl (Ab rfl Ad) (.cons .l .nil) (hd 26 rfl) ?_ (fun ch hp => by simp at hp)
  rintro _ ⟨⟩; refine Aa <| Ae <| zsr <| zmv rfl (hd 27 rfl) <| Ac (Bo (Br rfl rfl) (by omega)) (hd 28 rfl) <| zmv rfl (hd 29 rfl) <| Ay 29 rfl rfl (Ar rfl) (hd 30 rfl) <| Ay 29 rfl rfl (Bo (Ca rfl rfl) (by omega)) (hd 31 rfl) <| Ac (A3 rfl rfl) (hd 32 rfl) <| Aa <| A1 rfl <| Ai ?_; refine Ae <| zsr <| zmv rfl (hd 34 rfl) <| Ac (Bo (Br rfl rfl) (by omega)) (hd 35 rfl) <| zmv rfl (hd 36 rfl) <| Ay 36 rfl rfl (Ar rfl) (hd 37 rfl) <| Ay 36 rfl rfl (Cq (Ca rfl rfl) hm) (hd 38 rfl) <| Ac (A3 rfl rfl) (hd 39 rfl) <| Aa <| B4 rfl <| Ae <| Af ?_; refine Ac (Bn (is := []) (xs := []) (pls := []) A7 Gl rfl Ad rfl trivial (B7 rfl) rfl) (hd 40 rfl) <| A6 (Ak rfl rfl rfl B8 rfl rfl (zlb rfl)) <| A6 (Ak rfl rfl rfl Ig rfl rfl (zlb rfl)) <| Aa <| Ao <| Clo.fin Fc (m := 3) (i := 1) (j := 2) (zlb rfl) rfl rfl rfl rfl ?_
  refine ⟨_, _, (.cons (ResV.cell B0 rfl rfl rfl rfl) (.cons (ResV.cell1 E6 rfl rfl rfl) .nil)), (.t1 (.a1 .b (.a1 (.nil (fr := false) (k := .u64)) .a0)) (.t1 .i .t0)), ?_⟩
  exact rfl

theorem Af5 (s : Bool) (l d : List Int) (n m : Int) (y0 : Nat) (hy0 : Rw d y0) (h00 : y0 ≠ 0) (hn8 : -1099511627776 ≤ n) (hn9 : n ≤ 1099511627776) (hm0 : 0 ≤ m) (hm2 : m ≤ 2) (sg : Bool) (p q : Nat) (lp : Aq (p : Int) ≤ 67108864) (lq : Aq (q : Int) ≤ 67108864) (hPa : Spec Tryz.prog 29 [(.a [.b s, .n false .u64 l, .n false .u64 d])] (fun o => o = .ret (.t [.b sg, .n false .u64 (lm ((p : Nat) : Int)), .n false .u64 (lm ((q : Nat) : Int))]))) (hp : p = 0) : Spec Tryz.prog 6 [(.a [.b s, .n false .u64 l, .n false .u64 d]), .i .i64 n, .i .i64 m] (fun o => o = .ret (.t [(.a [.b false, .c (.slice none 0 0)]), .i .i64 0])) := by
  refine E8 [(0, (.a [.b s, .n false .u64 l, .n false .u64 d])), (1, .i .i64 n), (2, .i .i64 m)] rfl Tryz.func6 rfl (zlb rfl) fun Γ 𝓡 hN hds hL hR hE => ?_
  have hd := Bt 146 hN
  have hl0 := Hk.2 hp
  refine E7 <| Af <| A4 (By (id := 0) (n := 3) rfl rfl rfl (by decide) rfl) (hd 3 rfl) <| A4 (At (id := 1) A7 (by decide) rfl (by decide) rfl) (hd 6 rfl) <| A4 (At (id := 2) Gk (by decide) rfl (by decide) rfl) (hd 7 rfl) <| Aa <| Ei (g := 23) (caps := [.p 1 0 0, .p 2 0 0]) 3 [_] (ops := [_, _]) rfl Tryz.func23 rfl rfl rfl hds hR hL hE <| Ac (I5 (Ab rfl (Ab rfl Ad))) (hd 23 rfl) <| Aa ?_
  refine ⟨rfl, rfl, rfl, ?_⟩
  intro Γ1 hN1 hL hR1
  replace hd : ∀ d, Nat.blt d 146 = true → d < Γ1.N := fun d h => by rw [hN1]; exact hd d h
  refine Aa <| zsr <| Ac (Bm B6 rfl rfl rfl rfl) (hd 24 rfl) <| A4 (Dl (id := 3) (xs := [.tmp 24]) G8 rfl (Ab rfl Ad) rfl (Cx rfl) (by decide) rfl) (hd 25 rfl) <| Fl 25 (sz := 3) [[V.b s, V.n false .u64 l, V.n false .u64 d]] rfl rfl rfl rfl (by simp) (by simp [Fh]) (by decide) hL ?_
  refine Ah Tryz.f25 (Fa s l d y0 hy0 h00) rfl Tryz.func25 rfl rfl (Ab rfl Ad) (.cons .l .nil) (hd 26 rfl) ?_ (fun ch hp => by simp at hp)
  rintro _ ⟨⟩; refine Aa <| Ae <| zsr <| zmv rfl (hd 27 rfl) <| Ac (Bo (Br rfl rfl) (by omega)) (hd 28 rfl) <| zmv rfl (hd 29 rfl) <| Ay 29 rfl rfl (Ar rfl) (hd 30 rfl) <| Ay 29 rfl rfl (Bo (Ca rfl rfl) (by omega)) (hd 31 rfl) <| Ac (A3 rfl rfl) (hd 32 rfl) <| Aa <| A1 rfl <| Ai ?_; refine Ae <| zsr <| zmv rfl (hd 34 rfl) <| Ac (Bo (Br rfl rfl) (by omega)) (hd 35 rfl) <| zmv rfl (hd 36 rfl) <| Ay 36 rfl rfl (Ar rfl) (hd 37 rfl) <| Ay 36 rfl rfl (Bo (Ca rfl rfl) (by omega)) (hd 38 rfl) <| Ac (A3 rfl rfl) (hd 39 rfl) <| Aa <| A1 rfl <| Ai <| Ae ?_; refine Af <| Ac (Hz (v := .agg #[.func (.func 26) #[] #[], .func (.func 27) #[] #[], .func (.func 28) #[] #[]]) (y := .a [.f 26 [], .f 27 [], .f 28 []]) (fun _ _ _ _ => ⟨[.func (.func 26) #[] #[], .func (.func 27) #[] #[], .func (.func 28) #[] #[]], rfl, _, _, rfl, ⟨[], rfl, rfl⟩, _, _, rfl, ⟨[], rfl, rfl⟩, _, _, rfl, ⟨[], rfl, rfl⟩, rfl⟩) (by intro a dst type pos after g w2; kernel_rfl)) (hd 41 rfl) <| A4 (At (id := 4) Is (by decide) rfl (by decide) rfl) (hd 8 rfl) <| A6 (Ak rfl rfl rfl Kw rfl rfl (zlb rfl)) <| Aa <| zsr <| Ac (Bm B6 rfl rfl rfl rfl) (hd 43 rfl) ?_
  refine Ah Tryz.f29 (hPa) rfl Tryz.func29 rfl rfl (Ab rfl Ad) (.cons (.a1 .b (.a1 .n (.a1 .n .a0))) .nil) (hd 44 rfl) ?_ (fun ch hp => by simp at hp)
  rintro _ ⟨⟩; refine zmv rfl (hd 42 rfl) <| Ac (Am rfl rfl) (hd 45 rfl) <| Ac (Am rfl rfl) (hd 46 rfl) <| Ac (Am rfl rfl) (hd 47 rfl) <| zas rfl (hd 9 rfl) <| zas rfl (hd 10 rfl) <| zas rfl (hd 11 rfl) <| Aa <| zsr <| zmv rfl (hd 48 rfl) <| zmv rfl (hd 49 rfl) <| Ac (Bn (is := [0, 1]) (xs := [.tmp 48, .tmp 49]) A7 C9 rfl (Ab rfl (Ab rfl Ad)) rfl (by first | (simp [B9, cellsV]; done) | (simp [B9, cellsV, old]; done)) (B7 rfl) rfl) (hd 50 rfl) ?_; refine A4 (At (id := 5) A7 (by decide) rfl (by decide) rfl) (hd 12 rfl) <| A6 (Ak rfl rfl rfl B8 rfl rfl (zlb rfl)) <| Aa <| Ae <| zsr <| zmv rfl (hd 51 rfl) <| Ac (As Bc rfl) (hd 52 rfl) <| Ac (Cq (Ch rfl rfl) (by omega)) (hd 53 rfl) <| Aa <| B4 rfl <| Ae <| Af ?_; refine Ac (Bn (is := []) (xs := []) (pls := []) A7 Gl rfl Ad rfl trivial (B7 rfl) rfl) (hd 54 rfl) <| A6 (Ak rfl rfl rfl B8 rfl rfl (zlb rfl)) <| A6 (Ak rfl rfl rfl Ig rfl rfl (zlb rfl)) <| Aa <| Ao <| Clo.fin Fc (m := 3) (i := 1) (j := 2) (zlb rfl) rfl rfl rfl rfl ?_
  refine ⟨_, _, (.cons (ResV.cell B0 rfl rfl rfl rfl) (.cons (ResV.cell1 E6 rfl rfl rfl) .nil)), (.t1 (.a1 .b (.a1 .c .a0)) (.t1 .i .t0)), ?_⟩
  exact rfl

theorem Af6 (s : Bool) (l d : List Int) (n m : Int) (y0 : Nat) (hy0 : Rw d y0) (h00 : y0 ≠ 0) (hn8 : -1099511627776 ≤ n) (hn9 : n ≤ 1099511627776) (hm0 : 0 ≤ m) (hm2 : m ≤ 2) (sg : Bool) (p q : Nat) (lp : Aq (p : Int) ≤ 67108864) (lq : Aq (q : Int) ≤ 67108864) (hPa : Spec Tryz.prog 29 [(.a [.b s, .n false .u64 l, .n false .u64 d])] (fun o => o = .ret (.t [.b sg, .n false .u64 (lm ((p : Nat) : Int)), .n false .u64 (lm ((q : Nat) : Int))]))) (hp : p ≠ 0) (hn : 0 < n) (hov : (Aq (p : Int) : Int) - (Aq (q : Int) : Int) + n > 67108865) : Spec Tryz.prog 6 [(.a [.b s, .n false .u64 l, .n false .u64 d]), .i .i64 n, .i .i64 m] (fun o => o = .ret (.t [(.a [.b false, .n false .u64 []]), .i .i64 3])) := by
  refine E8 [(0, (.a [.b s, .n false .u64 l, .n false .u64 d])), (1, .i .i64 n), (2, .i .i64 m)] rfl Tryz.func6 rfl (zlb rfl) fun Γ 𝓡 hN hds hL hR hE => ?_
  have hd := Bt 146 hN
  have hl0 := mt Hk.1 hp
  have hLP : Spec Tryz.prog 30 [.n false .u64 (lm ((p : Nat) : Int))] (fun o => o = .ret (.i .i64 (Aq (p : Int) : Int))) := Di (p : Int) (by have := Bv lp; omega)
  have hLQ : Spec Tryz.prog 30 [.n false .u64 (lm ((q : Nat) : Int))] (fun o => o = .ret (.i .i64 (Aq (q : Int) : Int))) := Di (q : Int) (by have := Bv lq; omega)
  refine E7 <| Af <| A4 (By (id := 0) (n := 3) rfl rfl rfl (by decide) rfl) (hd 3 rfl) <| A4 (At (id := 1) A7 (by decide) rfl (by decide) rfl) (hd 6 rfl) <| A4 (At (id := 2) Gk (by decide) rfl (by decide) rfl) (hd 7 rfl) <| Aa <| Ei (g := 23) (caps := [.p 1 0 0, .p 2 0 0]) 3 [_] (ops := [_, _]) rfl Tryz.func23 rfl rfl rfl hds hR hL hE <| Ac (I5 (Ab rfl (Ab rfl Ad))) (hd 23 rfl) <| Aa ?_
  refine ⟨rfl, rfl, rfl, ?_⟩
  intro Γ1 hN1 hL hR1
  replace hd : ∀ d, Nat.blt d 146 = true → d < Γ1.N := fun d h => by rw [hN1]; exact hd d h
  refine Aa <| zsr <| Ac (Bm B6 rfl rfl rfl rfl) (hd 24 rfl) <| A4 (Dl (id := 3) (xs := [.tmp 24]) G8 rfl (Ab rfl Ad) rfl (Cx rfl) (by decide) rfl) (hd 25 rfl) <| Fl 25 (sz := 3) [[V.b s, V.n false .u64 l, V.n false .u64 d]] rfl rfl rfl rfl (by simp) (by simp [Fh]) (by decide) hL ?_
  refine Ah Tryz.f25 (Fa s l d y0 hy0 h00) rfl Tryz.func25 rfl rfl (Ab rfl Ad) (.cons .l .nil) (hd 26 rfl) ?_ (fun ch hp => by simp at hp)
  rintro _ ⟨⟩; refine Aa <| Ae <| zsr <| zmv rfl (hd 27 rfl) <| Ac (Bo (Br rfl rfl) (by omega)) (hd 28 rfl) <| zmv rfl (hd 29 rfl) <| Ay 29 rfl rfl (Ar rfl) (hd 30 rfl) <| Ay 29 rfl rfl (Bo (Ca rfl rfl) (by omega)) (hd 31 rfl) <| Ac (A3 rfl rfl) (hd 32 rfl) <| Aa <| A1 rfl <| Ai ?_; refine Ae <| zsr <| zmv rfl (hd 34 rfl) <| Ac (Bo (Br rfl rfl) (by omega)) (hd 35 rfl) <| zmv rfl (hd 36 rfl) <| Ay 36 rfl rfl (Ar rfl) (hd 37 rfl) <| Ay 36 rfl rfl (Bo (Ca rfl rfl) (by omega)) (hd 38 rfl) <| Ac (A3 rfl rfl) (hd 39 rfl) <| Aa <| A1 rfl <| Ai <| Ae ?_; refine Af <| Ac (Hz (v := .agg #[.func (.func 26) #[] #[], .func (.func 27) #[] #[], .func (.func 28) #[] #[]]) (y := .a [.f 26 [], .f 27 [], .f 28 []]) (fun _ _ _ _ => ⟨[.func (.func 26) #[] #[], .func (.func 27) #[] #[], .func (.func 28) #[] #[]], rfl, _, _, rfl, ⟨[], rfl, rfl⟩, _, _, rfl, ⟨[], rfl, rfl⟩, _, _, rfl, ⟨[], rfl, rfl⟩, rfl⟩) (by intro a dst type pos after g w2; kernel_rfl)) (hd 41 rfl) <| A4 (At (id := 4) Is (by decide) rfl (by decide) rfl) (hd 8 rfl) <| A6 (Ak rfl rfl rfl Kw rfl rfl (zlb rfl)) <| Aa <| zsr <| Ac (Bm B6 rfl rfl rfl rfl) (hd 43 rfl) ?_
  refine Ah Tryz.f29 (hPa) rfl Tryz.func29 rfl rfl (Ab rfl Ad) (.cons (.a1 .b (.a1 .n (.a1 .n .a0))) .nil) (hd 44 rfl) ?_ (fun ch hp => by simp at hp)
  rintro _ ⟨⟩; refine zmv rfl (hd 42 rfl) <| Ac (Am rfl rfl) (hd 45 rfl) <| Ac (Am rfl rfl) (hd 46 rfl) <| Ac (Am rfl rfl) (hd 47 rfl) <| zas rfl (hd 9 rfl) <| zas rfl (hd 10 rfl) <| zas rfl (hd 11 rfl) <| Aa <| zsr <| zmv rfl (hd 48 rfl) <| zmv rfl (hd 49 rfl) <| Ac (Bn (is := [0, 1]) (xs := [.tmp 48, .tmp 49]) A7 C9 rfl (Ab rfl (Ab rfl Ad)) rfl (by first | (simp [B9, cellsV]; done) | (simp [B9, cellsV, old]; done)) (B7 rfl) rfl) (hd 50 rfl) ?_; refine A4 (At (id := 5) A7 (by decide) rfl (by decide) rfl) (hd 12 rfl) <| A6 (Ak rfl rfl rfl B8 rfl rfl (zlb rfl)) <| Aa <| Ae <| zsr <| zmv rfl (hd 51 rfl) <| Ac (As Bc rfl) (hd 52 rfl) <| Ac (Bo (Ch rfl rfl) (by omega)) (hd 53 rfl) <| Aa <| A1 rfl <| Ai <| Ae ?_; refine zsr <| zmv rfl (hd 55 rfl) <| Ac (Cq (Ca rfl rfl) (by omega)) (hd 56 rfl) <| Aa <| B4 rfl <| Ae <| zsr <| zmv rfl (hd 57 rfl) ?_
  refine Ah Tryz.f30 (hLP) rfl Tryz.func30 rfl rfl (Ab rfl Ad) (.cons .n .nil) (hd 58 rfl) ?_ (fun ch hp => by simp at hp)
  rintro _ ⟨⟩; refine zmv rfl (hd 59 rfl) ?_
  refine Ah Tryz.f30 (hLQ) rfl Tryz.func30 rfl rfl (Ab rfl Ad) (.cons .n .nil) (hd 60 rfl) ?_ (fun ch hp => by simp at hp)
  rintro _ ⟨⟩; refine Ac (Bd rfl rfl (r := (Aq (p : Int) : Int) - (Aq (q : Int) : Int)) (by rw [Ag (by omega) (by omega)] <;> omega)) (hd 61 rfl) <| zmv rfl (hd 62 rfl) <| Ac (Aw rfl rfl (r := (Aq (p : Int) : Int) - (Aq (q : Int) : Int) + n) (by rw [Ag (by omega) (by omega)] <;> omega)) (hd 63 rfl) <| Ac (Cq (Ca rfl rfl) hov) (hd 64 rfl) <| Aa <| B4 rfl <| zsr <| Ac (Bn (is := []) (xs := []) (pls := []) A7 Gl rfl Ad rfl trivial (B7 rfl) rfl) (hd 65 rfl) <| A6 (Ak rfl rfl rfl B8 rfl rfl (zlb rfl)) <| A6 (Ak rfl rfl rfl Ig rfl rfl (zlb rfl)) <| Aa <| Ao ?_; refine Clo.fin Fc (m := 3) (i := 1) (j := 2) (zlb rfl) rfl rfl rfl rfl ?_
  refine ⟨_, _, (.cons (ResV.cell B0 rfl rfl rfl rfl) (.cons (ResV.cell1 E6 rfl rfl rfl) .nil)), (.t1 (.a1 .b (.a1 (.nil (fr := false) (k := .u64)) .a0)) (.t1 .i .t0)), ?_⟩
  exact rfl

abbrev aWv (i : Nat) (v : Int) : V := .a [.b (decide (v < 0)), .o i 0 0 (lm v).length]
abbrev aWr (i : Nat) (b : Bool) (r : List Int) : V := .a [.b b, .o i 0 0 r.length]
abbrev aT (i j : Nat) (v : Int) (b : Bool) (r : List Int) : V := .t [aWv i v, aWr j b r, .i .i64 0]
abbrev aZ : V := .a [.b false, .n false .u64 []]
abbrev aTz : V := .t [aZ, aZ, .i .i64 3]
abbrev aE : Ob := ⟨25, 2, 1, true, [.b false, .c (.slice none 0 0)]⟩
abbrev aHo : Ob := ⟨0, 1, 0, true, []⟩
abbrev aO1 (i : Nat) (v : Int) : Ob := ⟨25, 2, 1, true, [.b (decide (v < 0)), .o i 0 0 (lm v).length]⟩
abbrev aO2 (i : Nat) (b : Bool) (r : List Int) : Ob := ⟨25, 2, 1, true, [.b b, .o i 0 0 r.length]⟩
abbrev aOZ : Ob := ⟨25, 2, 1, true, [.b false, .n false .u64 []]⟩
abbrev aRw (r : List Int) : Ob := ⟨71, 1, 0, true, ints .u64 r⟩
abbrev aH (s : Bool) (l d : List Int) (x y : Ob) (r : List Ob) : List Ob := ⟨27, 3, 0, true, [.b s, .n false .u64 l, .n false .u64 d]⟩ :: ⟨25, 2, 0, true, [.b false, .c (.slice none 0 0)]⟩ :: ⟨28, 1, 0, true, [.i .i64 0]⟩ :: ⟨27, 3, 0, false, []⟩ :: ⟨63, 3, 0, true, [.f 26 [], .f 27 [], .f 28 []]⟩ :: x :: y :: r
abbrev aA (sg : Bool) (f : Bool) (N : List Int) : Ob := ⟨25, 2, 0, true, [.b sg, .n f .u64 N]⟩

theorem At_ud (m : Nat) (F : FuncId) (fnF : Func) (hm : m < 3) (hcell : [V.f 26 [], V.f 27 [], V.f 28 []][m]? = some (V.f F [])) (hfn : Tryz.prog.funcs[F]? = some fnF) (hfb : fnF.body.isSome = true) (hfx : (fnF.name == "runtime.NumGoroutine") = false) (s : Bool) (l d : List Int) (n : Int) (y0 : Nat) (hy0 : Rw d y0) (h00 : y0 ≠ 0) (hn8 : -1099511627776 ≤ n) (hn9 : n ≤ 1099511627776) (sg : Bool) (p q : Nat) (lp : Aq (p : Int) ≤ 67108864) (lq : Aq (q : Int) ≤ 67108864) (hPa : Spec Tryz.prog 29 [(.a [.b s, .n false .u64 l, .n false .u64 d])] (fun o => o = .ret (.t [.b sg, .n false .u64 (lm ((p : Nat) : Int)), .n false .u64 (lm ((q : Nat) : Int))]))) (hp : p ≠ 0) (N D : List Int) (hup : 0 < n → ¬ (Aq (p : Int) : Int) - (Aq (q : Int) : Int) + n > 67108865 ∧ Spec Tryz.prog 33 [.n false .u64 (lm ((q : Nat) : Int)), .i .i64 (((min n.toNat (tz q)) : Nat) : Int)] (fun o => o = .ret (.t [.n false .u64 D, .i .i64 0])) ∧ Spec Tryz.prog 34 [.n false .u64 (lm ((p : Nat) : Int)), .i .i64 ((n.toNat - (min n.toNat (tz q)) : Nat) : Int)] (fun o => o = .ret (.t [.n false .u64 N, .i .i64 0]))) (hdn : n ≤ 0 → ¬ (Aq (p : Int) : Int) + n < (Aq (q : Int) : Int) - 2 ∧ Spec Tryz.prog 33 [.n false .u64 (lm ((p : Nat) : Int)), .i .i64 (((min (-n).toNat (tz p)) : Nat) : Int)] (fun o => o = .ret (.t [.n false .u64 N, .i .i64 0])) ∧ Spec Tryz.prog 34 [.n false .u64 (lm ((q : Nat) : Int)), .i .i64 (((-n).toNat - (min (-n).toNat (tz p)) : Nat) : Int)] (fun o => o = .ret (.t [.n false .u64 D, .i .i64 0]))) (wv : Int) (rb : Bool) (rr : List Int) (hWay : SpecM Tryz.prog F [.a [.b sg, .n false .u64 N], .a [.b false, .n false .u64 D]] [] (fun o G => o = .ret (.t [.a [.b (decide (wv < 0)), .o 0 0 0 (lm wv).length], .a [.b rb, .o 1 0 0 rr.length], .i .i64 0]) ∧ G = [⟨71, 1, 0, true, ints .u64 (lm wv)⟩, ⟨71, 1, 0, true, ints .u64 rr⟩])) : Ll Tryz.prog 6 0 tzCells [(.a [.b s, .n false .u64 l, .n false .u64 d]), .i .i64 n, .i .i64 (m : Int)] (fun o G => o = .ret (.t [.a [.b (decide (wv < 0)), .o 0 0 0 (lm wv).length], .i .i64 0]) ∧ G = [⟨71, 1, 0, true, ints .u64 (lm wv)⟩]) := by
  refine Lw [(0, (.a [.b s, .n false .u64 l, .n false .u64 d])), (1, .i .i64 n), (2, .i .i64 (m : Int))] rfl Tryz.func6 rfl (zlb rfl) fun Γ 𝓡 hTb hN hds hL hR hE => ?_
  have hd := Bt 146 hN
  have hl0 := mt Hk.1 hp
  have hLP : Spec Tryz.prog 30 [.n false .u64 (lm ((p : Nat) : Int))] (fun o => o = .ret (.i .i64 (Aq (p : Int) : Int))) := Di (p : Int) (by have := Bv lp; omega)
  have hLQ : Spec Tryz.prog 30 [.n false .u64 (lm ((q : Nat) : Int))] (fun o => o = .ret (.i .i64 (Aq (q : Int) : Int))) := Di (q : Int) (by have := Bv lq; omega)
  have hTq : SpecT Tryz.prog 31 0 tzCells [.n false .u64 (lm ((q : Nat) : Int))] (fun o => o = .ret (.i .i64 ((tz q : Nat) : Int))) := by have h := Qj (lm ((q : Nat) : Int)) (by have := Bv lq; omega) (Dc _); rwa [J3 (Int.natCast_nonneg _), Int.toNat_natCast] at h
  have hTp : SpecT Tryz.prog 31 0 tzCells [.n false .u64 (lm ((p : Nat) : Int))] (fun o => o = .ret (.i .i64 ((tz p : Nat) : Int))) := by have h := Qj (lm ((p : Nat) : Int)) (by have := Bv lp; omega) (Dc _); rwa [J3 (Int.natCast_nonneg _), Int.toNat_natCast] at h
  refine E7 <| Af <| A4 (By (id := 0) (n := 3) rfl rfl rfl (by decide) rfl) (hd 3 rfl) <| A4 (At (id := 1) A7 (by decide) rfl (by decide) rfl) (hd 6 rfl) <| A4 (At (id := 2) Gk (by decide) rfl (by decide) rfl) (hd 7 rfl) <| Aa <| Jr (g := 23) (caps := [.p 1 0 0, .p 2 0 0]) 3 [_] (ops := [_, _]) rfl Tryz.func23 rfl rfl rfl hds hR hL hE <| Ac (I5 (Ab rfl (Ab rfl Ad))) (hd 23 rfl) <| Aa ?_
  refine ⟨rfl, rfl, rfl, ?_⟩
  intro Γ1 hN1 hw1 hM1 hL hR1
  replace hTb : TabR 0 tzCells Γ1.w0 Γ1.M := by rw [hw1, hM1]; exact hTb
  replace hd : ∀ d, Nat.blt d 146 = true → d < Γ1.N := fun d h => by rw [hN1]; exact hd d h
  refine Aa <| zsr <| Ac (Bm B6 rfl rfl rfl rfl) (hd 24 rfl) <| A4 (Dl (id := 3) (xs := [.tmp 24]) G8 rfl (Ab rfl Ad) rfl (Cx rfl) (by decide) rfl) (hd 25 rfl) <| Fl 25 (sz := 3) [[V.b s, V.n false .u64 l, V.n false .u64 d]] rfl rfl rfl rfl (by simp) (by simp [Fh]) (by decide) hL ?_
  refine Ah Tryz.f25 (Fa s l d y0 hy0 h00) rfl Tryz.func25 rfl rfl (Ab rfl Ad) (.cons .l .nil) (hd 26 rfl) ?_ (fun ch hp => by simp at hp)
  rintro _ ⟨⟩; refine Aa <| Ae <| zsr <| zmv rfl (hd 27 rfl) <| Ac (Bo (Br rfl rfl) (by omega)) (hd 28 rfl) <| zmv rfl (hd 29 rfl) <| Ay 29 rfl rfl (Ar rfl) (hd 30 rfl) <| Ay 29 rfl rfl (Bo (Ca rfl rfl) (by omega)) (hd 31 rfl) <| Ac (A3 rfl rfl) (hd 32 rfl) <| Aa <| A1 rfl <| Ai ?_; refine Ae <| zsr <| zmv rfl (hd 34 rfl) <| Ac (Bo (Br rfl rfl) (by omega)) (hd 35 rfl) <| zmv rfl (hd 36 rfl) <| Ay 36 rfl rfl (Ar rfl) (hd 37 rfl) <| Ay 36 rfl rfl (Bo (Ca rfl rfl) (by omega)) (hd 38 rfl) <| Ac (A3 rfl rfl) (hd 39 rfl) <| Aa <| A1 rfl <| Ai <| Ae ?_; refine Af <| Ac (Hz (v := .agg #[.func (.func 26) #[] #[], .func (.func 27) #[] #[], .func (.func 28) #[] #[]]) (y := .a [.f 26 [], .f 27 [], .f 28 []]) (fun _ _ _ _ => ⟨[.func (.func 26) #[] #[], .func (.func 27) #[] #[], .func (.func 28) #[] #[]], rfl, _, _, rfl, ⟨[], rfl, rfl⟩, _, _, rfl, ⟨[], rfl, rfl⟩, _, _, rfl, ⟨[], rfl, rfl⟩, rfl⟩) (by intro a dst type pos after g w2; kernel_rfl)) (hd 41 rfl) <| A4 (At (id := 4) Is (by decide) rfl (by decide) rfl) (hd 8 rfl) <| A6 (Ak rfl rfl rfl Kw rfl rfl (zlb rfl)) <| Aa <| zsr <| Ac (Bm B6 rfl rfl rfl rfl) (hd 43 rfl) ?_
  refine Ah Tryz.f29 (hPa) rfl Tryz.func29 rfl rfl (Ab rfl Ad) (.cons (.a1 .b (.a1 .n (.a1 .n .a0))) .nil) (hd 44 rfl) ?_ (fun ch hp => by simp at hp)
  rintro _ ⟨⟩; refine zmv rfl (hd 42 rfl) <| Ac (Am rfl rfl) (hd 45 rfl) <| Ac (Am rfl rfl) (hd 46 rfl) <| Ac (Am rfl rfl) (hd 47 rfl) <| zas rfl (hd 9 rfl) <| zas rfl (hd 10 rfl) <| zas rfl (hd 11 rfl) <| Aa <| zsr <| zmv rfl (hd 48 rfl) <| zmv rfl (hd 49 rfl) <| Ac (Bn (is := [0, 1]) (xs := [.tmp 48, .tmp 49]) A7 C9 rfl (Ab rfl (Ab rfl Ad)) rfl (by first | (simp [B9, cellsV]; done) | (simp [B9, cellsV, old]; done)) (B7 rfl) rfl) (hd 50 rfl) ?_; refine A4 (At (id := 5) A7 (by decide) rfl (by decide) rfl) (hd 12 rfl) <| A6 (Ak rfl rfl rfl B8 rfl rfl (zlb rfl)) <| Aa <| Ae <| zsr <| zmv rfl (hd 51 rfl) <| Ac (As Bc rfl) (hd 52 rfl) <| Ac (Bo (Ch rfl rfl) (by omega)) (hd 53 rfl) <| Aa <| A1 rfl <| Ai ?_
  refine Lf (G := Unit) (fun _ => True) (fun _ => [(11, .n false .u64 D), (13, .u), (14, .u), (15, .u), (16, .u), (17, .u), (18, .u), (19, .u), (55, .u), (56, .u), (57, .u), (58, .u), (59, .u), (60, .u), (61, .u), (62, .u), (63, .u), (64, .u), (65, .u), (66, .u), (67, .u), (68, .u), (69, .u), (70, .u), (71, .u), (72, .u), (73, .u), (74, .u), (75, .u), (76, .u), (77, .u), (78, .u), (79, .u), (80, .u), (81, .u), (82, .u), (83, .u), (84, .u), (85, .u), (86, .u), (87, .u), (88, .u), (89, .u), (90, .u), (91, .u), (92, .u), (93, .u), (94, .u), (95, .u), (96, .u), (97, .u), (98, .u), (99, .u), (100, .u), (101, .u), (102, .u), (103, .u), (104, .u), (105, .u), (106, .u), (107, .u), (108, .u), (109, .u), (110, .u), (111, .u), (112, .u), (113, .u), (114, .u), (115, .u), (116, .u), (117, .u), (118, .u), (119, .u), (120, .u), (121, .u), (122, .u), (123, .u), (124, .u), (125, .u), (126, .u), (127, .u), (128, .u), (129, .u)]) (fun _ => [⟨27, 3, 0, true, [.b s, .n false .u64 l, .n false .u64 d]⟩, ⟨25, 2, 0, true, [.b false, .c (.slice none 0 0)]⟩, ⟨28, 1, 0, true, [.i .i64 0]⟩, ⟨27, 3, 0, false, []⟩, ⟨63, 3, 0, true, [.f 26 [], .f 27 [], .f 28 []]⟩, (aA sg false N)]) ?_ ?_
  · refine zsr <| zmv rfl (hd 55 rfl) <| Ac (Ca rfl rfl) (hd 56 rfl) <| Aa ?_
    refine Bg rfl (fun h4 => ?_) (fun h4 => ?_)
    · obtain ⟨hov, hRi, hLf⟩ := hup h4
      refine Ae <| zsr <| zmv rfl (hd 57 rfl) ?_
      refine Ah Tryz.f30 (hLP) rfl Tryz.func30 rfl rfl (Ab rfl Ad) (.cons .n .nil) (hd 58 rfl) ?_ (fun ch hp => by simp at hp)
      rintro _ ⟨⟩; refine zmv rfl (hd 59 rfl) ?_
      refine Ah Tryz.f30 (hLQ) rfl Tryz.func30 rfl rfl (Ab rfl Ad) (.cons .n .nil) (hd 60 rfl) ?_ (fun ch hp => by simp at hp)
      rintro _ ⟨⟩; refine Ac (Bd rfl rfl (r := (Aq (p : Int) : Int) - (Aq (q : Int) : Int)) (by rw [Ag (by omega) (by omega)] <;> omega)) (hd 61 rfl) <| zmv rfl (hd 62 rfl) <| Ac (Aw rfl rfl (r := (Aq (p : Int) : Int) - (Aq (q : Int) : Int) + n) (by rw [Ag (by omega) (by omega)] <;> omega)) (hd 63 rfl) <| Ac (Bo (Ca rfl rfl) (fun h => hov h)) (hd 64 rfl) <| Aa <| A1 rfl <| Ai <| zsr <| zmv rfl (hd 66 rfl) <| zmv rfl (hd 67 rfl) ?_
      refine G0 Tryz.f31 (hTq) hL hTb rfl Tryz.func31 rfl rfl (Ab rfl Ad) (.cons .n .nil) (hd 68 rfl) ?_ (fun ch hp => by simp at hp)
      rintro _ ⟨⟩; refine Ac (Ba (Oy rfl rfl) (show V.i .i64 _ = V.i .i64 (((min n.toNat (tz q)) : Nat) : Int) by clear hcell hfn hfb hfx; congr 1; omega)) (hd 69 rfl) <| zas rfl (hd 13 rfl) <| Aa <| zsr <| zmv rfl (hd 70 rfl) <| zmv rfl (hd 71 rfl) ?_
      refine Ah Tryz.f33 (hRi) rfl Tryz.func33 rfl rfl (Ab rfl (Ab rfl Ad)) (.cons .n (.cons .i .nil)) (hd 72 rfl) ?_ (fun ch hp => by simp at hp)
      rintro _ ⟨⟩; refine Ac (Am rfl rfl) (hd 73 rfl) <| Ac (Am rfl rfl) (hd 74 rfl) ?_
      refine Ah Tryz.f32 (Ov _) rfl Tryz.func32 rfl rfl (Ab rfl (Ab rfl Ad)) (.cons .n (.cons .i .nil)) (hd 75 rfl) ?_ (fun ch hp => by simp at hp)
      rintro _ ⟨⟩; refine zas rfl (hd 11 rfl) <| Aa <| Af <| zmv rfl (hd 76 rfl) <| zmv rfl (hd 77 rfl) <| zmv rfl (hd 78 rfl) <| Ac (Bd rfl rfl (r := ((n.toNat - (min n.toNat (tz q)) : Nat) : Int)) (by rw [Ag (by omega) (by omega)] <;> omega)) (hd 79 rfl) ?_
      refine Ah Tryz.f34 (hLf) rfl Tryz.func34 rfl rfl (Ab rfl (Ab rfl Ad)) (.cons .n (.cons .i .nil)) (hd 80 rfl) ?_ (fun ch hp => by simp at hp)
      rintro _ ⟨⟩; refine Ac (Am rfl rfl) (hd 81 rfl) <| Ac (Am rfl rfl) (hd 82 rfl) ?_
      refine Ah Tryz.f32 (Ov _) rfl Tryz.func32 rfl rfl (Ab rfl (Ab rfl Ad)) (.cons .n (.cons .i .nil)) (hd 83 rfl) ?_ (fun ch hp => by simp at hp)
      rintro _ ⟨⟩; refine Ac (Bl Cw rfl rfl rfl) (hd 84 rfl) <| A6 (Ak rfl rfl rfl Ac6 rfl rfl (zlb rfl)) <| Aa ?_
      refine ⟨(), ?_, rfl, A5 31 rfl rfl ?_⟩
      · trivial
      · exact (.cons rfl (.v9 (.v9 (.v9 (.v9 (.v9 (.v9 (.v9 (.v9 (.u (.u .nil)))))))))))
    · obtain ⟨hsm, hRi, hLf⟩ := hdn (by omega)
      refine Ae <| zsr <| zmv rfl (hd 85 rfl) ?_
      refine Ah Tryz.f30 (hLP) rfl Tryz.func30 rfl rfl (Ab rfl Ad) (.cons .n .nil) (hd 86 rfl) ?_ (fun ch hp => by simp at hp)
      rintro _ ⟨⟩; refine zmv rfl (hd 87 rfl) <| Ac (Aw rfl rfl (r := (Aq (p : Int) : Int) + n) (by rw [Ag (by omega) (by omega)] <;> omega)) (hd 88 rfl) <| zmv rfl (hd 89 rfl) ?_
      refine Ah Tryz.f30 (hLQ) rfl Tryz.func30 rfl rfl (Ab rfl Ad) (.cons .n .nil) (hd 90 rfl) ?_ (fun ch hp => by simp at hp)
      rintro _ ⟨⟩; refine Ac (Bd rfl rfl (r := (Aq (q : Int) : Int) - 2) (by rw [Ag (by omega) (by omega)] <;> omega)) (hd 91 rfl) <| Ac (Bo (Br rfl rfl) (fun h => hsm h)) (hd 92 rfl) <| Aa <| A1 rfl <| Ai <| zsr <| zmv rfl (hd 109 rfl) <| Ac (I4 rfl (r := -n) (by rw [Ag (by omega) (by omega)] <;> omega)) (hd 110 rfl) <| zmv rfl (hd 111 rfl) ?_
      refine G0 Tryz.f31 (hTp) hL hTb rfl Tryz.func31 rfl rfl (Ab rfl Ad) (.cons .n .nil) (hd 112 rfl) ?_ (fun ch hp => by simp at hp)
      rintro _ ⟨⟩; refine Ac (Ba (Oy rfl rfl) (show V.i .i64 _ = V.i .i64 (((min (-n).toNat (tz p)) : Nat) : Int) by clear hcell hfn hfb hfx; congr 1; omega)) (hd 113 rfl) <| zas rfl (hd 19 rfl) <| Aa <| zsr <| zmv rfl (hd 114 rfl) <| zmv rfl (hd 115 rfl) ?_
      refine Ah Tryz.f33 (hRi) rfl Tryz.func33 rfl rfl (Ab rfl (Ab rfl Ad)) (.cons .n (.cons .i .nil)) (hd 116 rfl) ?_ (fun ch hp => by simp at hp)
      rintro _ ⟨⟩; refine Ac (Am rfl rfl) (hd 117 rfl) <| Ac (Am rfl rfl) (hd 118 rfl) ?_
      refine Ah Tryz.f32 (Ov _) rfl Tryz.func32 rfl rfl (Ab rfl (Ab rfl Ad)) (.cons .n (.cons .i .nil)) (hd 119 rfl) ?_ (fun ch hp => by simp at hp)
      rintro _ ⟨⟩; refine Ac (Bl Cw rfl rfl rfl) (hd 120 rfl) <| A6 (Ak rfl rfl rfl Ac6 rfl rfl (zlb rfl)) <| Aa <| Af <| zmv rfl (hd 121 rfl) <| zmv rfl (hd 122 rfl) <| Ac (I4 rfl (r := -n) (by rw [Ag (by omega) (by omega)] <;> omega)) (hd 123 rfl) <| zmv rfl (hd 124 rfl) <| Ac (Bd rfl rfl (r := (((-n).toNat - (min (-n).toNat (tz p)) : Nat) : Int)) (by rw [Ag (by omega) (by omega)] <;> omega)) (hd 125 rfl) ?_
      refine Ah Tryz.f34 (hLf) rfl Tryz.func34 rfl rfl (Ab rfl (Ab rfl Ad)) (.cons .n (.cons .i .nil)) (hd 126 rfl) ?_ (fun ch hp => by simp at hp)
      rintro _ ⟨⟩; refine Ac (Am rfl rfl) (hd 127 rfl) <| Ac (Am rfl rfl) (hd 128 rfl) ?_
      refine Ah Tryz.f32 (Ov _) rfl Tryz.func32 rfl rfl (Ab rfl (Ab rfl Ad)) (.cons .n (.cons .i .nil)) (hd 129 rfl) ?_ (fun ch hp => by simp at hp)
      rintro _ ⟨⟩; refine zas rfl (hd 11 rfl) <| Aa ?_
      refine ⟨(), ?_, rfl, A5 33 rfl rfl ?_⟩
      · trivial
      · exact (.cons rfl (.v9 (.v9 (.v9 (.v9 (.v9 (.v9 (.v9 (.v9 (.u (.u .nil)))))))))))
  · rintro _ _; refine Ae <| G2 <| Nc 2 _ <| Bu (n := 16) _ rfl Cg ?_; refine V4 (fun _ _ _ _ h => h) fun ops1 Q1 F0 hpan ho hq hF => ?_
    have S25_0 : JA Tryz.prog ops1 0 (za 16 0xffff) Γ1 ([(20, .p 6 1 0), (21, .p 7 1 0), (22, .i .i64 0), (130, .u), (131, .u), (132, .u), (133, .u), (134, .u), (135, .u), (136, .u), (137, .u), (138, .u), (139, .u), (140, .u)] ++ F0) (aH s l d (aA sg false N) (aO1 8 wv) [(aO2 9 rb rr), (aRw (lm wv)), (aRw rr)]) Q1 := by
      subst ho; subst hq; subst hF; refine Bx (by kernel_rfl) <| Ae <| zsr <| zmv rfl (hd 141 rfl) <| Ac (Bo (Ec rfl rfl) (fun h => h rfl)) (hd 142 rfl) <| Aa <| A1 rfl <| Ai <| zsr <| Ac (Bm B0 rfl rfl rfl rfl) (hd 145 rfl) <| A6 (Ak rfl rfl rfl B8 rfl rfl (zlb rfl)) ?_; refine A6 (Ak rfl rfl rfl Ig rfl rfl (zlb rfl)) <| Aa <| Ao <| Clo.fin Fc (m := 3) (i := 1) (j := 2) (zlb rfl) rfl rfl rfl rfl ?_
      refine ⟨[8], _, (.t [.a [.b (decide (wv < 0)), .o 0 0 0 (lm wv).length], .i .i64 0]), (.cons (ResV.cell B0 rfl rfl rfl rfl) (.cons (ResV.cell1 E6 rfl rfl rfl) .nil)), rfl, rfl, (by decide), (by first | exact An A8 Ax | exact An rfl Ax), ?_⟩
      exact ⟨rfl, rfl⟩
    have S25_1 : JA Tryz.prog ops1 1 (za 16 0x7fff) Γ1 ([(20, .p 6 1 0), (21, .p 7 1 0), (130, .u), (131, .u), (132, .u), (133, .u), (134, .u), (135, .u), (136, .u), (137, .u), (138, .u), (139, .u), (140, .i .i64 0)] ++ F0) (aH s l d (aA sg false N) (aO1 8 wv) [(aO2 9 rb rr), (aRw (lm wv)), (aRw rr)]) Q1 := by
      subst ho; subst hF; refine Cb 15 [] (Aeu rfl (hd 22 rfl)) hpan rfl ?_
      refine Bi S25_0 14 (.cons rfl (.cons rfl (.cons rfl (.v9 (.u .nil)))))
    have S25_2 : JA Tryz.prog ops1 2 (za 16 0x3fff) Γ1 ([(20, .p 6 1 0), (21, .p 7 1 0), (130, .u), (131, .u), (132, .u), (133, .u), (134, .u), (135, .u), (136, .u), (137, .u), (138, .u), (139, (aWr 9 rb rr)), (140, .i .i64 0)] ++ F0) (aH s l d (aA sg false N) (aO1 8 wv) [aE, (aRw (lm wv)), (aRw rr)]) Q1 := by
      subst ho; subst hF
      refine B5 14 ?_ rfl (by kernel_rfl)
      refine D1 (Ak rfl rfl rfl B8 rfl rfl (zlb rfl)) rfl ?_
      refine Bi S25_1 13 (.cons rfl (.cons rfl (.v9 (.cons rfl .nil))))
    have S25_3 : JA Tryz.prog ops1 3 (za 16 0x1fff) Γ1 ([(20, .p 6 1 0), (21, .p 7 1 0), (130, .u), (131, .u), (132, .u), (133, .u), (134, .u), (135, .u), (136, .u), (137, .u), (138, (aWv 8 wv)), (139, (aWr 9 rb rr)), (140, .i .i64 0)] ++ F0) (aH s l d (aA sg false N) aE [aE, (aRw (lm wv)), (aRw rr)]) Q1 := by
      subst ho; subst hF
      refine B5 13 ?_ rfl (by kernel_rfl)
      refine D1 (Ak rfl rfl rfl B8 rfl rfl (zlb rfl)) rfl ?_
      refine Bi S25_2 13 (.cons rfl (.cons rfl (.v5 (.u (.u (.u (.u (.cons rfl (.cons rfl .nil)))))))))
    have S25_4 : JA Tryz.prog ops1 4 (za 16 0xfff) Γ1 ([(20, .p 6 1 0), (130, .u), (131, .u), (132, .u), (133, .u), (134, .u), (135, .u), (136, .u), (137, .u), (138, (aWv 8 wv)), (139, (aWr 9 rb rr)), (140, .i .i64 0)] ++ F0) (aH s l d (aA sg false N) aE [aHo, (aRw (lm wv)), (aRw rr)]) Q1 := by
      subst ho; subst hF
      refine B5 12 ?_ rfl (by kernel_rfl)
      refine Jq (Cf (id := 7) A7 (by decide) rfl (by decide) rfl) (hd 21 rfl) ?_
      refine Bi S25_3 13 (.cons rfl (.cons rfl (.v5 (.u (.u (.u (.cons rfl (.cons rfl (.cons rfl .nil)))))))))
    have S25_5 : JA Tryz.prog ops1 4 (za 16 0x17ff) Γ1 ([(21, .p 7 1 0), (130, .u), (131, .u), (132, .u), (133, .u), (134, .u), (135, .u), (136, .u), (137, .u), (138, (aWv 8 wv)), (139, (aWr 9 rb rr)), (140, .i .i64 0)] ++ F0) (aH s l d (aA sg false N) aHo [aE, (aRw (lm wv)), (aRw rr)]) Q1 := by
      subst ho; subst hF
      refine B5 11 ?_ rfl (by kernel_rfl)
      refine Jq (Cf (id := 6) A7 (by decide) rfl (by decide) rfl) (hd 20 rfl) ?_
      refine Bi S25_3 13 (.cons rfl (.cons rfl (.v5 (.u (.u (.u (.cons rfl (.cons rfl (.cons rfl .nil)))))))))
    have S25_6 : JA Tryz.prog ops1 5 (za 16 0x7ff) Γ1 ([(130, .u), (131, .u), (132, .u), (133, .u), (134, .u), (135, .u), (136, .u), (137, .u), (138, (aWv 8 wv)), (139, (aWr 9 rb rr)), (140, .i .i64 0)] ++ F0) (aH s l d (aA sg false N) aHo [aHo, (aRw (lm wv)), (aRw rr)]) Q1 := by
      subst ho; subst hF
      refine O8 11 12 ?_ ?_ rfl rfl (by kernel_rfl)
      · refine Jq (Cf (id := 6) A7 (by decide) rfl (by decide) rfl) (hd 20 rfl) ?_
        refine Bi S25_4 12 (.cons rfl (.v5 (.u (.u (.u (.cons rfl (.cons rfl (.cons rfl .nil))))))))
      · refine Jq (Cf (id := 7) A7 (by decide) rfl (by decide) rfl) (hd 21 rfl) ?_
        refine Bi S25_5 12 (.cons rfl (.v5 (.u (.u (.u (.cons rfl (.cons rfl (.cons rfl .nil))))))))
    have S25_7 : JA Tryz.prog ops1 6 (za 16 0x3ff) Γ1 ([(130, (aT 8 9 wv rb rr)), (131, .u), (132, .u), (133, .u), (134, .u), (135, .u), (136, .u), (137, .u), (138, (aWv 8 wv)), (139, (aWr 9 rb rr))] ++ F0) (aH s l d (aA sg false N) aHo [aHo, (aRw (lm wv)), (aRw rr)]) Q1 := by
      subst ho; subst hF; refine Cb 10 [15] (Cr rfl rfl (hd 140 rfl)) hpan rfl ?_
      refine Bi S25_6 11 (.v5 (.u (.u (.u (.cons rfl (.cons rfl (.cons rfl .nil)))))))
    have S25_8 : JA Tryz.prog ops1 7 (za 16 0x1ff) Γ1 ([(130, (aT 8 9 wv rb rr)), (131, .u), (132, .u), (133, .u), (134, .u), (135, .u), (136, .u), (137, .u), (138, (aWv 8 wv))] ++ F0) (aH s l d (aA sg false N) aHo [aHo, (aRw (lm wv)), (aRw rr)]) Q1 := by
      subst ho; subst hF; refine Cb 9 [14, 15] (Cr rfl rfl (hd 139 rfl)) hpan rfl ?_
      refine Bi S25_7 10 (.cons rfl (.v5 (.u (.u (.cons rfl (.cons rfl .nil))))))
    have S25_9 : JA Tryz.prog ops1 8 (za 16 0xff) Γ1 ([(130, (aT 8 9 wv rb rr)), (131, .u), (132, .u), (133, .u), (134, .u), (135, .u), (136, .u), (137, .u)] ++ F0) (aH s l d (aA sg false N) aHo [aHo, (aRw (lm wv)), (aRw rr)]) Q1 := by
      subst ho; subst hF; refine Cb 8 [13, 14, 15] (Cr rfl rfl (hd 138 rfl)) hpan rfl ?_
      refine Bi S25_8 9 (.cons rfl (.v5 (.u (.u (.cons rfl .nil)))))
    have S25_10 : JA Tryz.prog ops1 9 (za 16 0x7f) Γ1 ([(131, .u), (132, .u), (133, .u), (134, .u), (135, .u), (136, .u), (137, (aT 8 9 wv rb rr))] ++ F0) (aH s l d (aA sg false N) aHo [aHo, (aRw (lm wv)), (aRw rr)]) Q1 := by
      subst ho; subst hF; refine Cb 7 [8, 9, 10, 13, 14, 15] (Gy rfl (hd 130 rfl)) hpan rfl ?_
      refine Bi S25_9 8 (.cons rfl (.v5 (.u (.u .nil))))
    have S25_11 : JA Tryz.prog ops1 5 (za 16 0xbff) Γ1 ([(20, .p 6 1 0), (130, (aT 8 9 wv rb rr)), (131, .u), (132, .u), (133, .u), (134, .u), (135, .u), (136, .u), (137, .u), (138, (aWv 8 wv)), (139, (aWr 9 rb rr))] ++ F0) (aH s l d (aA sg false N) aE [aHo, (aRw (lm wv)), (aRw rr)]) Q1 := by
      subst ho; subst hF; refine Cb 10 [15] (Cr rfl rfl (hd 140 rfl)) hpan rfl ?_
      refine Bi S25_4 12 (.cons rfl (.v5 (.u (.u (.u (.cons rfl (.cons rfl (.cons rfl .nil))))))))
    have S25_12 : JA Tryz.prog ops1 6 (za 16 0x9ff) Γ1 ([(20, .p 6 1 0), (130, (aT 8 9 wv rb rr)), (131, .u), (132, .u), (133, .u), (134, .u), (135, .u), (136, .u), (137, .u), (138, (aWv 8 wv))] ++ F0) (aH s l d (aA sg false N) aE [aHo, (aRw (lm wv)), (aRw rr)]) Q1 := by
      subst ho; subst hF; refine Cb 9 [14, 15] (Cr rfl rfl (hd 139 rfl)) hpan rfl ?_
      refine Bi S25_11 11 (.cons rfl (.cons rfl (.v5 (.u (.u (.cons rfl (.cons rfl .nil)))))))
    have S25_13 : JA Tryz.prog ops1 7 (za 16 0x8ff) Γ1 ([(20, .p 6 1 0), (130, (aT 8 9 wv rb rr)), (131, .u), (132, .u), (133, .u), (134, .u), (135, .u), (136, .u), (137, .u)] ++ F0) (aH s l d (aA sg false N) aE [aHo, (aRw (lm wv)), (aRw rr)]) Q1 := by
      subst ho; subst hF; refine Cb 8 [13, 14, 15] (Cr rfl rfl (hd 138 rfl)) hpan rfl ?_
      refine Bi S25_12 10 (.cons rfl (.cons rfl (.v5 (.u (.u (.cons rfl .nil))))))
    have S25_14 : JA Tryz.prog ops1 8 (za 16 0x87f) Γ1 ([(20, .p 6 1 0), (131, .u), (132, .u), (133, .u), (134, .u), (135, .u), (136, .u), (137, (aT 8 9 wv rb rr))] ++ F0) (aH s l d (aA sg false N) aE [aHo, (aRw (lm wv)), (aRw rr)]) Q1 := by
      subst ho; subst hF; refine Cb 7 [8, 9, 10, 13, 14, 15] (Gy rfl (hd 130 rfl)) hpan rfl ?_
      refine Bi S25_13 9 (.cons rfl (.cons rfl (.v5 (.u (.u .nil)))))
    have S25_15 : JA Tryz.prog ops1 4 (za 16 0x1bff) Γ1 ([(20, .p 6 1 0), (21, .p 7 1 0), (130, (aT 8 9 wv rb rr)), (131, .u), (132, .u), (133, .u), (134, .u), (135, .u), (136, .u), (137, .u), (138, (aWv 8 wv)), (139, (aWr 9 rb rr))] ++ F0) (aH s l d (aA sg false N) aE [aE, (aRw (lm wv)), (aRw rr)]) Q1 := by
      subst ho; subst hF; refine Cb 10 [15] (Cr rfl rfl (hd 140 rfl)) hpan rfl ?_
      refine Bi S25_3 13 (.cons rfl (.cons rfl (.v5 (.u (.u (.u (.cons rfl (.cons rfl (.cons rfl .nil)))))))))
    have S25_16 : JA Tryz.prog ops1 5 (za 16 0x19ff) Γ1 ([(20, .p 6 1 0), (21, .p 7 1 0), (130, (aT 8 9 wv rb rr)), (131, .u), (132, .u), (133, .u), (134, .u), (135, .u), (136, .u), (137, .u), (138, (aWv 8 wv))] ++ F0) (aH s l d (aA sg false N) aE [aE, (aRw (lm wv)), (aRw rr)]) Q1 := by
      subst ho; subst hF; refine Cb 9 [14, 15] (Cr rfl rfl (hd 139 rfl)) hpan rfl ?_
      refine Bi S25_15 12 (.cons rfl (.cons rfl (.cons rfl (.v5 (.u (.u (.cons rfl (.cons rfl .nil))))))))
    have S25_17 : JA Tryz.prog ops1 6 (za 16 0x18ff) Γ1 ([(20, .p 6 1 0), (21, .p 7 1 0), (130, (aT 8 9 wv rb rr)), (131, .u), (132, .u), (133, .u), (134, .u), (135, .u), (136, .u), (137, .u)] ++ F0) (aH s l d (aA sg false N) aE [aE, (aRw (lm wv)), (aRw rr)]) Q1 := by
      subst ho; subst hF; refine Cb 8 [13, 14, 15] (Cr rfl rfl (hd 138 rfl)) hpan rfl ?_
      refine Bi S25_16 11 (.cons rfl (.cons rfl (.cons rfl (.v5 (.u (.u (.cons rfl .nil)))))))
    have S25_18 : JA Tryz.prog ops1 7 (za 16 0x187f) Γ1 ([(20, .p 6 1 0), (21, .p 7 1 0), (131, .u), (132, .u), (133, .u), (134, .u), (135, .u), (136, .u), (137, (aT 8 9 wv rb rr))] ++ F0) (aH s l d (aA sg false N) aE [aE, (aRw (lm wv)), (aRw rr)]) Q1 := by
      subst ho; subst hF; refine Cb 7 [8, 9, 10, 13, 14, 15] (Gy rfl (hd 130 rfl)) hpan rfl ?_
      refine Bi S25_17 10 (.cons rfl (.cons rfl (.cons rfl (.v5 (.u (.u .nil))))))
    have S25_19 : JA Tryz.prog ops1 8 (za 16 0x183f) Γ1 ([(20, .p 6 1 0), (21, .p 7 1 0), (131, .u), (132, .u), (133, .f F []), (134, .a [.b sg, .n false .u64 N]), (135, .u), (136, .a [.b false, .n false .u64 D])] ++ F0) (aH s l d (aA sg false N) aE [aE]) Q1 := by
      subst ho; subst hF
      refine B5 6 ?_ rfl (by kernel_rfl)
      refine Es fnF hWay (fun o G ⟨_, h⟩ => h ▸ An A8 (An A8 Ax)) rfl hfn hfb hfx (Ab rfl (Ab rfl Ad)) (.cons (.a1 .b (.a1 .n .a0)) (.cons (.a1 .b (.a1 .n .a0)) .nil)) (hd 137 rfl) ?_ (fun ch G hp => by simp at hp)
      rintro y G ⟨hy, rfl⟩; injection hy with hy; subst hy
      show JA _ _ _ _ _ ((137, (aT 8 9 wv rb rr)) :: _) _ _
      refine Bi S25_18 9 (.cons rfl (.cons rfl (.v5 (.u (.cons rfl .nil)))))
    have S25_20 : JA Tryz.prog ops1 9 (za 16 0x83f) Γ1 ([(20, .p 6 1 0), (131, .u), (132, .u), (133, .f F []), (134, .a [.b sg, .n false .u64 N]), (135, .u), (136, .a [.b false, .n false .u64 D])] ++ F0) (aH s l d (aA sg false N) aE [aHo]) Q1 := by
      subst ho; subst hF
      refine O8 6 12 ?_ ?_ rfl rfl (by kernel_rfl)
      · refine Es fnF hWay (fun o G ⟨_, h⟩ => h ▸ An A8 (An A8 Ax)) rfl hfn hfb hfx (Ab rfl (Ab rfl Ad)) (.cons (.a1 .b (.a1 .n .a0)) (.cons (.a1 .b (.a1 .n .a0)) .nil)) (hd 137 rfl) ?_ (fun ch G hp => by simp at hp)
        rintro y G ⟨hy, rfl⟩; injection hy with hy; subst hy
        show JA _ _ _ _ _ ((137, (aT 8 9 wv rb rr)) :: _) _ _
        refine Bi S25_14 8 (.cons rfl (.v5 (.u (.cons rfl .nil))))
      · refine Jq (Cf (id := 7) A7 (by decide) rfl (by decide) rfl) (hd 21 rfl) ?_
        refine Bi S25_19 8 (.cons rfl (.cons rfl (.u (.u (.cons rfl (.cons rfl (.u (.cons rfl .nil))))))))
    have S25_21 : JA Tryz.prog ops1 5 (za 16 0x13ff) Γ1 ([(21, .p 7 1 0), (130, (aT 8 9 wv rb rr)), (131, .u), (132, .u), (133, .u), (134, .u), (135, .u), (136, .u), (137, .u), (138, (aWv 8 wv)), (139, (aWr 9 rb rr))] ++ F0) (aH s l d (aA sg false N) aHo [aE, (aRw (lm wv)), (aRw rr)]) Q1 := by
      subst ho; subst hF; refine Cb 10 [15] (Cr rfl rfl (hd 140 rfl)) hpan rfl ?_
      refine Bi S25_5 12 (.cons rfl (.v5 (.u (.u (.u (.cons rfl (.cons rfl (.cons rfl .nil))))))))
    have S25_22 : JA Tryz.prog ops1 6 (za 16 0x11ff) Γ1 ([(21, .p 7 1 0), (130, (aT 8 9 wv rb rr)), (131, .u), (132, .u), (133, .u), (134, .u), (135, .u), (136, .u), (137, .u), (138, (aWv 8 wv))] ++ F0) (aH s l d (aA sg false N) aHo [aE, (aRw (lm wv)), (aRw rr)]) Q1 := by
      subst ho; subst hF; refine Cb 9 [14, 15] (Cr rfl rfl (hd 139 rfl)) hpan rfl ?_
      refine Bi S25_21 11 (.cons rfl (.cons rfl (.v5 (.u (.u (.cons rfl (.cons rfl .nil)))))))
    have S25_23 : JA Tryz.prog ops1 7 (za 16 0x10ff) Γ1 ([(21, .p 7 1 0), (130, (aT 8 9 wv rb rr)), (131, .u), (132, .u), (133, .u), (134, .u), (135, .u), (136, .u), (137, .u)] ++ F0) (aH s l d (aA sg false N) aHo [aE, (aRw (lm wv)), (aRw rr)]) Q1 := by
      subst ho; subst hF; refine Cb 8 [13, 14, 15] (Cr rfl rfl (hd 138 rfl)) hpan rfl ?_
      refine Bi S25_22 10 (.cons rfl (.cons rfl (.v5 (.u (.u (.cons rfl .nil))))))
    have S25_24 : JA Tryz.prog ops1 8 (za 16 0x107f) Γ1 ([(21, .p 7 1 0), (131, .u), (132, .u), (133, .u), (134, .u), (135, .u), (136, .u), (137, (aT 8 9 wv rb rr))] ++ F0) (aH s l d (aA sg false N) aHo [aE, (aRw (lm wv)), (aRw rr)]) Q1 := by
      subst ho; subst hF; refine Cb 7 [8, 9, 10, 13, 14, 15] (Gy rfl (hd 130 rfl)) hpan rfl ?_
      refine Bi S25_23 9 (.cons rfl (.cons rfl (.v5 (.u (.u .nil)))))
    have S25_25 : JA Tryz.prog ops1 9 (za 16 0x103f) Γ1 ([(21, .p 7 1 0), (131, .u), (132, .u), (133, .f F []), (134, .a [.b sg, .n false .u64 N]), (135, .u), (136, .a [.b false, .n false .u64 D])] ++ F0) (aH s l d (aA sg false N) aHo [aE]) Q1 := by
      subst ho; subst hF
      refine O8 6 11 ?_ ?_ rfl rfl (by kernel_rfl)
      · refine Es fnF hWay (fun o G ⟨_, h⟩ => h ▸ An A8 (An A8 Ax)) rfl hfn hfb hfx (Ab rfl (Ab rfl Ad)) (.cons (.a1 .b (.a1 .n .a0)) (.cons (.a1 .b (.a1 .n .a0)) .nil)) (hd 137 rfl) ?_ (fun ch G hp => by simp at hp)
        rintro y G ⟨hy, rfl⟩; injection hy with hy; subst hy
        show JA _ _ _ _ _ ((137, (aT 8 9 wv rb rr)) :: _) _ _
        refine Bi S25_24 8 (.cons rfl (.v5 (.u (.cons rfl .nil))))
      · refine Jq (Cf (id := 6) A7 (by decide) rfl (by decide) rfl) (hd 20 rfl) ?_
        refine Bi S25_19 8 (.cons rfl (.cons rfl (.u (.u (.cons rfl (.cons rfl (.u (.cons rfl .nil))))))))
    have S25_26 : JA Tryz.prog ops1 10 (za 16 0x3f) Γ1 ([(131, .u), (132, .u), (133, .f F []), (134, .a [.b sg, .n false .u64 N]), (135, .u), (136, .a [.b false, .n false .u64 D])] ++ F0) (aH s l d (aA sg false N) aHo [aHo]) Q1 := by
      subst ho; subst hF
      refine ja_3 6 11 12 ?_ ?_ ?_ rfl rfl rfl (by kernel_rfl)
      · refine Es fnF hWay (fun o G ⟨_, h⟩ => h ▸ An A8 (An A8 Ax)) rfl hfn hfb hfx (Ab rfl (Ab rfl Ad)) (.cons (.a1 .b (.a1 .n .a0)) (.cons (.a1 .b (.a1 .n .a0)) .nil)) (hd 137 rfl) ?_ (fun ch G hp => by simp at hp)
        rintro y G ⟨hy, rfl⟩; injection hy with hy; subst hy
        show JA _ _ _ _ _ ((137, (aT 8 9 wv rb rr)) :: _) _ _
        refine Bi S25_10 7 (.v5 (.u (.cons rfl .nil)))
      · refine Jq (Cf (id := 6) A7 (by decide) rfl (by decide) rfl) (hd 20 rfl) ?_
        refine Bi S25_20 7 (.cons rfl (.u (.u (.cons rfl (.cons rfl (.u (.cons rfl .nil)))))))
      · refine Jq (Cf (id := 7) A7 (by decide) rfl (by decide) rfl) (hd 21 rfl) ?_
        refine Bi S25_25 7 (.cons rfl (.u (.u (.cons rfl (.cons rfl (.u (.cons rfl .nil)))))))
    have S25_27 : JA Tryz.prog ops1 11 (za 16 0x1f) Γ1 ([(131, .u), (132, .u), (133, .f F []), (134, .a [.b sg, .n false .u64 N]), (135, .n false .u64 D)] ++ F0) (aH s l d (aA sg false N) aHo [aHo]) Q1 := by
      subst ho; subst hF; refine Cb 5 [6, 7, 8, 9, 10, 13, 14, 15] (Al (Bn (is := [1]) (xs := [.tmp 135]) A7 Jl rfl (Ab rfl Ad) rfl (by first | (simp [B9, cellsV]; done) | (simp [B9, cellsV, old]; done)) (B7 rfl) rfl) (hd 136 rfl)) hpan rfl ?_
      refine Bi S25_26 6 (.u (.u (.cons rfl (.cons rfl (.u (.cons rfl .nil))))))
    have S25_28 : JA Tryz.prog ops1 12 (za 16 0xf) Γ1 ([(131, .u), (132, .u), (133, .f F []), (134, .a [.b sg, .n false .u64 N])] ++ F0) (aH s l d (aA sg false N) aHo [aHo]) Q1 := by
      subst ho; subst hF; refine Cb 4 [5, 6, 7, 8, 9, 10, 13, 14, 15] (Gy rfl (hd 135 rfl)) hpan rfl ?_
      refine Bi S25_27 5 (.u (.u (.cons rfl (.cons rfl (.cons rfl .nil)))))
    have S25_29 : JA Tryz.prog ops1 13 (za 16 0x7) Γ1 ([(131, .u), (132, .u), (133, .f F [])] ++ F0) (aH s l d (aA sg false N) aHo [aHo]) Q1 := by
      subst ho; subst hF; refine Cb 3 [6, 7, 8, 9, 10, 13, 14, 15] (Al (Bm B0 rfl rfl rfl rfl) (hd 134 rfl)) hpan rfl ?_
      refine Bi S25_28 4 (.u (.u (.cons rfl (.cons rfl .nil))))
    have S25_30 : JA Tryz.prog ops1 14 (za 16 0x3) Γ1 ([(131, .u), (132, .p 4 0 m)] ++ F0) (aH s l d (aA sg false N) aHo [aHo]) Q1 := by
      subst ho; subst hF; refine Cb 2 [6, 7, 8, 9, 10, 13, 14, 15] (Al (Be Aee rfl rfl hcell) (hd 133 rfl)) hpan rfl ?_
      refine Bi S25_29 3 (.u (.u (.cons rfl .nil)))
    have S25_31 : JA Tryz.prog ops1 15 (za 16 0x1) Γ1 ([(131, .i .i64 (m : Int))] ++ F0) (aH s l d (aA sg false N) aHo [aHo]) Q1 := by
      subst ho; subst hF; refine Cb 1 [2, 6, 7, 8, 9, 10, 13, 14, 15] (Al (Vk (i := m) (r := m) W7 rfl rfl rfl rfl hm (by omega)) (hd 132 rfl)) hpan rfl ?_
      refine Bi S25_30 2 (.u (.cons rfl .nil))
    have S25_32 : JA Tryz.prog ops1 16 (za 16 0x0) Γ1 ([] ++ F0) (aH s l d (aA sg false N) aHo [aHo]) Q1 := by
      subst ho; subst hF; refine Cb 0 [1, 2, 6, 7, 8, 9, 10, 13, 14, 15] (Gy rfl (hd 131 rfl)) hpan rfl ?_
      refine Bi S25_31 1 (.cons rfl .nil)
    subst ho; subst hF
    exact Bi (m := []) S25_32 0 .nil

theorem At_uo (m : Nat) (F : FuncId) (fnF : Func) (hm : m < 3) (hcell : [V.f 26 [], V.f 27 [], V.f 28 []][m]? = some (V.f F [])) (hfn : Tryz.prog.funcs[F]? = some fnF) (hfb : fnF.body.isSome = true) (hfx : (fnF.name == "runtime.NumGoroutine") = false) (s : Bool) (l d : List Int) (n : Int) (y0 : Nat) (hy0 : Rw d y0) (h00 : y0 ≠ 0) (hn8 : -1099511627776 ≤ n) (hn9 : n ≤ 1099511627776) (sg : Bool) (p q : Nat) (lp : Aq (p : Int) ≤ 67108864) (lq : Aq (q : Int) ≤ 67108864) (hPa : Spec Tryz.prog 29 [(.a [.b s, .n false .u64 l, .n false .u64 d])] (fun o => o = .ret (.t [.b sg, .n false .u64 (lm ((p : Nat) : Int)), .n false .u64 (lm ((q : Nat) : Int))]))) (hp : p ≠ 0) (hn : 0 < n) (hov : ¬ (Aq (p : Int) : Int) - (Aq (q : Int) : Int) + n > 67108865) (N D : List Int) (hRi : Spec Tryz.prog 33 [.n false .u64 (lm ((q : Nat) : Int)), .i .i64 (((min n.toNat (tz q)) : Nat) : Int)] (fun o => o = .ret (.t [.n false .u64 D, .i .i64 0]))) (hLf : Spec Tryz.prog 34 [.n false .u64 (lm ((p : Nat) : Int)), .i .i64 ((n.toNat - (min n.toNat (tz q)) : Nat) : Int)] (fun o => o = .ret (.t [.n false .u64 N, .i .i64 0]))) (hWay : Spec Tryz.prog F [.a [.b sg, .n false .u64 N], .a [.b false, .n false .u64 D]] (fun o => o = .ret (.t [(.a [.b false, .n false .u64 []]), (.a [.b false, .n false .u64 []]), .i .i64 3]))) : SpecT Tryz.prog 6 0 tzCells [(.a [.b s, .n false .u64 l, .n false .u64 d]), .i .i64 n, .i .i64 (m : Int)] (fun o => o = .ret (.t [(.a [.b false, .n false .u64 []]), .i .i64 3])) := by
  refine T7 [(0, (.a [.b s, .n false .u64 l, .n false .u64 d])), (1, .i .i64 n), (2, .i .i64 (m : Int))] rfl Tryz.func6 rfl (zlb rfl) fun Γ 𝓡 hTb hN hds hL hR hE => ?_
  have hd := Bt 146 hN
  have hl0 := mt Hk.1 hp
  have hLP : Spec Tryz.prog 30 [.n false .u64 (lm ((p : Nat) : Int))] (fun o => o = .ret (.i .i64 (Aq (p : Int) : Int))) := Di (p : Int) (by have := Bv lp; omega)
  have hLQ : Spec Tryz.prog 30 [.n false .u64 (lm ((q : Nat) : Int))] (fun o => o = .ret (.i .i64 (Aq (q : Int) : Int))) := Di (q : Int) (by have := Bv lq; omega)
  have hTq : SpecT Tryz.prog 31 0 tzCells [.n false .u64 (lm ((q : Nat) : Int))] (fun o => o = .ret (.i .i64 ((tz q : Nat) : Int))) := by have h := Qj (lm ((q : Nat) : Int)) (by have := Bv lq; omega) (Dc _); rwa [J3 (Int.natCast_nonneg _), Int.toNat_natCast] at h
  refine E7 <| Af <| A4 (By (id := 0) (n := 3) rfl rfl rfl (by decide) rfl) (hd 3 rfl) <| A4 (At (id := 1) A7 (by decide) rfl (by decide) rfl) (hd 6 rfl) <| A4 (At (id := 2) Gk (by decide) rfl (by decide) rfl) (hd 7 rfl) <| Aa <| Jr (g := 23) (caps := [.p 1 0 0, .p 2 0 0]) 3 [_] (ops := [_, _]) rfl Tryz.func23 rfl rfl rfl hds hR hL hE <| Ac (I5 (Ab rfl (Ab rfl Ad))) (hd 23 rfl) <| Aa ?_
  refine ⟨rfl, rfl, rfl, ?_⟩
  intro Γ1 hN1 hw1 hM1 hL hR1
  replace hTb : TabR 0 tzCells Γ1.w0 Γ1.M := by rw [hw1, hM1]; exact hTb
  replace hd : ∀ d, Nat.blt d 146 = true → d < Γ1.N := fun d h => by rw [hN1]; exact hd d h
  refine Aa <| zsr <| Ac (Bm B6 rfl rfl rfl rfl) (hd 24 rfl) <| A4 (Dl (id := 3) (xs := [.tmp 24]) G8 rfl (Ab rfl Ad) rfl (Cx rfl) (by decide) rfl) (hd 25 rfl) <| Fl 25 (sz := 3) [[V.b s, V.n false .u64 l, V.n false .u64 d]] rfl rfl rfl rfl (by simp) (by simp [Fh]) (by decide) hL ?_
  refine Ah Tryz.f25 (Fa s l d y0 hy0 h00) rfl Tryz.func25 rfl rfl (Ab rfl Ad) (.cons .l .nil) (hd 26 rfl) ?_ (fun ch hp => by simp at hp)
  rintro _ ⟨⟩; refine Aa <| Ae <| zsr <| zmv rfl (hd 27 rfl) <| Ac (Bo (Br rfl rfl) (by omega)) (hd 28 rfl) <| zmv rfl (hd 29 rfl) <| Ay 29 rfl rfl (Ar rfl) (hd 30 rfl) <| Ay 29 rfl rfl (Bo (Ca rfl rfl) (by omega)) (hd 31 rfl) <| Ac (A3 rfl rfl) (hd 32 rfl) <| Aa <| A1 rfl <| Ai ?_; refine Ae <| zsr <| zmv rfl (hd 34 rfl) <| Ac (Bo (Br rfl rfl) (by omega)) (hd 35 rfl) <| zmv rfl (hd 36 rfl) <| Ay 36 rfl rfl (Ar rfl) (hd 37 rfl) <| Ay 36 rfl rfl (Bo (Ca rfl rfl) (by omega)) (hd 38 rfl) <| Ac (A3 rfl rfl) (hd 39 rfl) <| Aa <| A1 rfl <| Ai <| Ae ?_; refine Af <| Ac (Hz (v := .agg #[.func (.func 26) #[] #[], .func (.func 27) #[] #[], .func (.func 28) #[] #[]]) (y := .a [.f 26 [], .f 27 [], .f 28 []]) (fun _ _ _ _ => ⟨[.func (.func 26) #[] #[], .func (.func 27) #[] #[], .func (.func 28) #[] #[]], rfl, _, _, rfl, ⟨[], rfl, rfl⟩, _, _, rfl, ⟨[], rfl, rfl⟩, _, _, rfl, ⟨[], rfl, rfl⟩, rfl⟩) (by intro a dst type pos after g w2; kernel_rfl)) (hd 41 rfl) <| A4 (At (id := 4) Is (by decide) rfl (by decide) rfl) (hd 8 rfl) <| A6 (Ak rfl rfl rfl Kw rfl rfl (zlb rfl)) <| Aa <| zsr <| Ac (Bm B6 rfl rfl rfl rfl) (hd 43 rfl) ?_
  refine Ah Tryz.f29 (hPa) rfl Tryz.func29 rfl rfl (Ab rfl Ad) (.cons (.a1 .b (.a1 .n (.a1 .n .a0))) .nil) (hd 44 rfl) ?_ (fun ch hp => by simp at hp)
  rintro _ ⟨⟩; refine zmv rfl (hd 42 rfl) <| Ac (Am rfl rfl) (hd 45 rfl) <| Ac (Am rfl rfl) (hd 46 rfl) <| Ac (Am rfl rfl) (hd 47 rfl) <| zas rfl (hd 9 rfl) <| zas rfl (hd 10 rfl) <| zas rfl (hd 11 rfl) <| Aa <| zsr <| zmv rfl (hd 48 rfl) <| zmv rfl (hd 49 rfl) <| Ac (Bn (is := [0, 1]) (xs := [.tmp 48, .tmp 49]) A7 C9 rfl (Ab rfl (Ab rfl Ad)) rfl (by first | (simp [B9, cellsV]; done) | (simp [B9, cellsV, old]; done)) (B7 rfl) rfl) (hd 50 rfl) ?_; refine A4 (At (id := 5) A7 (by decide) rfl (by decide) rfl) (hd 12 rfl) <| A6 (Ak rfl rfl rfl B8 rfl rfl (zlb rfl)) <| Aa <| Ae <| zsr <| zmv rfl (hd 51 rfl) <| Ac (As Bc rfl) (hd 52 rfl) <| Ac (Bo (Ch rfl rfl) (by omega)) (hd 53 rfl) <| Aa <| A1 rfl <| Ai <| Ae ?_; refine zsr <| zmv rfl (hd 55 rfl) <| Ac (Cq (Ca rfl rfl) (by omega)) (hd 56 rfl) <| Aa <| B4 rfl <| Ae <| zsr <| zmv rfl (hd 57 rfl) ?_
  refine Ah Tryz.f30 (hLP) rfl Tryz.func30 rfl rfl (Ab rfl Ad) (.cons .n .nil) (hd 58 rfl) ?_ (fun ch hp => by simp at hp)
  rintro _ ⟨⟩; refine zmv rfl (hd 59 rfl) ?_
  refine Ah Tryz.f30 (hLQ) rfl Tryz.func30 rfl rfl (Ab rfl Ad) (.cons .n .nil) (hd 60 rfl) ?_ (fun ch hp => by simp at hp)
  rintro _ ⟨⟩; refine Ac (Bd rfl rfl (r := (Aq (p : Int) : Int) - (Aq (q : Int) : Int)) (by rw [Ag (by omega) (by omega)] <;> omega)) (hd 61 rfl) <| zmv rfl (hd 62 rfl) <| Ac (Aw rfl rfl (r := (Aq (p : Int) : Int) - (Aq (q : Int) : Int) + n) (by rw [Ag (by omega) (by omega)] <;> omega)) (hd 63 rfl) <| Ac (Bo (Ca rfl rfl) (fun h => hov h)) (hd 64 rfl) <| Aa <| A1 rfl <| Ai <| zsr <| zmv rfl (hd 66 rfl) <| zmv rfl (hd 67 rfl) ?_
  refine G0 Tryz.f31 (hTq) hL hTb rfl Tryz.func31 rfl rfl (Ab rfl Ad) (.cons .n .nil) (hd 68 rfl) ?_ (fun ch hp => by simp at hp)
  rintro _ ⟨⟩; refine Ac (Ba (Oy rfl rfl) (show V.i .i64 _ = V.i .i64 (((min n.toNat (tz q)) : Nat) : Int) by clear hcell hfn hfb hfx; congr 1; omega)) (hd 69 rfl) <| zas rfl (hd 13 rfl) <| Aa <| zsr <| zmv rfl (hd 70 rfl) <| zmv rfl (hd 71 rfl) ?_
  refine Ah Tryz.f33 (hRi) rfl Tryz.func33 rfl rfl (Ab rfl (Ab rfl Ad)) (.cons .n (.cons .i .nil)) (hd 72 rfl) ?_ (fun ch hp => by simp at hp)
  rintro _ ⟨⟩; refine Ac (Am rfl rfl) (hd 73 rfl) <| Ac (Am rfl rfl) (hd 74 rfl) ?_
  refine Ah Tryz.f32 (Ov _) rfl Tryz.func32 rfl rfl (Ab rfl (Ab rfl Ad)) (.cons .n (.cons .i .nil)) (hd 75 rfl) ?_ (fun ch hp => by simp at hp)
  rintro _ ⟨⟩; refine zas rfl (hd 11 rfl) <| Aa <| Af <| zmv rfl (hd 76 rfl) <| zmv rfl (hd 77 rfl) <| zmv rfl (hd 78 rfl) <| Ac (Bd rfl rfl (r := ((n.toNat - (min n.toNat (tz q)) : Nat) : Int)) (by rw [Ag (by omega) (by omega)] <;> omega)) (hd 79 rfl) ?_
  refine Ah Tryz.f34 (hLf) rfl Tryz.func34 rfl rfl (Ab rfl (Ab rfl Ad)) (.cons .n (.cons .i .nil)) (hd 80 rfl) ?_ (fun ch hp => by simp at hp)
  rintro _ ⟨⟩; refine Ac (Am rfl rfl) (hd 81 rfl) <| Ac (Am rfl rfl) (hd 82 rfl) ?_
  refine Ah Tryz.f32 (Ov _) rfl Tryz.func32 rfl rfl (Ab rfl (Ab rfl Ad)) (.cons .n (.cons .i .nil)) (hd 83 rfl) ?_ (fun ch hp => by simp at hp)
  rintro _ ⟨⟩; refine Ac (Bl Cw rfl rfl rfl) (hd 84 rfl) <| A6 (Ak rfl rfl rfl Ac6 rfl rfl (zlb rfl)) <| Aa <| Ae <| G2 <| Nc 2 _ <| Bu (n := 16) _ rfl Cg ?_; refine V4 (fun _ _ _ _ h => h) fun ops1 Q1 F0 hpan ho hq hF => ?_
  have S25_0 : JA Tryz.prog ops1 0 (za 16 0xffff) Γ1 ([(20, .p 6 1 0), (21, .p 7 1 0), (22, .i .i64 3), (130, .u), (131, .u), (132, .u), (133, .u), (134, .u), (135, .u), (136, .u), (137, .u), (138, .u), (139, .u), (140, .u)] ++ F0) (aH s l d (aA sg false N) aOZ [aOZ]) Q1 := by
    subst ho; subst hq; subst hF; refine Bx (by kernel_rfl) <| Ae <| zsr <| zmv rfl (hd 141 rfl) <| Ac (Cq (Ec rfl rfl) (by decide)) (hd 142 rfl) <| Aa <| B4 rfl <| zsr <| Ac (Bn (is := []) (xs := []) (pls := []) A7 Gl rfl Ad rfl trivial (B7 rfl) rfl) (hd 143 rfl) <| zmv rfl (hd 144 rfl) <| A6 (Ak rfl rfl rfl B8 rfl rfl (zlb rfl)) ?_; refine A6 (Ak rfl rfl rfl Ig rfl rfl (zlb rfl)) <| Aa <| Ao <| Clo.fin Fc (m := 3) (i := 1) (j := 2) (zlb rfl) rfl rfl rfl rfl ?_
    refine ⟨_, _, (.cons (ResV.cell B0 rfl rfl rfl rfl) (.cons (ResV.cell1 E6 rfl rfl rfl) .nil)), (.t1 (.a1 .b (.a1 (.nil (fr := false) (k := .u64)) .a0)) (.t1 .i .t0)), ?_⟩
    exact rfl
  have S25_1 : JA Tryz.prog ops1 1 (za 16 0x7fff) Γ1 ([(20, .p 6 1 0), (21, .p 7 1 0), (130, .u), (131, .u), (132, .u), (133, .u), (134, .u), (135, .u), (136, .u), (137, .u), (138, .u), (139, .u), (140, .i .i64 3)] ++ F0) (aH s l d (aA sg false N) aOZ [aOZ]) Q1 := by
    subst ho; subst hF; refine Cb 15 [] (Aeu rfl (hd 22 rfl)) hpan rfl ?_
    refine Bi S25_0 14 (.cons rfl (.cons rfl (.cons rfl (.v9 (.u .nil)))))
  have S25_2 : JA Tryz.prog ops1 2 (za 16 0x3fff) Γ1 ([(20, .p 6 1 0), (21, .p 7 1 0), (130, .u), (131, .u), (132, .u), (133, .u), (134, .u), (135, .u), (136, .u), (137, .u), (138, .u), (139, aZ), (140, .i .i64 3)] ++ F0) (aH s l d (aA sg false N) aOZ [aE]) Q1 := by
    subst ho; subst hF
    refine B5 14 ?_ rfl (by kernel_rfl)
    refine D1 (Ak rfl rfl rfl B8 rfl rfl (zlb rfl)) rfl ?_
    refine Bi S25_1 13 (.cons rfl (.cons rfl (.v9 (.cons rfl .nil))))
  have S25_3 : JA Tryz.prog ops1 3 (za 16 0x1fff) Γ1 ([(20, .p 6 1 0), (21, .p 7 1 0), (130, .u), (131, .u), (132, .u), (133, .u), (134, .u), (135, .u), (136, .u), (137, .u), (138, aZ), (139, aZ), (140, .i .i64 3)] ++ F0) (aH s l d (aA sg false N) aE [aE]) Q1 := by
    subst ho; subst hF
    refine B5 13 ?_ rfl (by kernel_rfl)
    refine D1 (Ak rfl rfl rfl B8 rfl rfl (zlb rfl)) rfl ?_
    refine Bi S25_2 13 (.cons rfl (.cons rfl (.v5 (.u (.u (.u (.u (.cons rfl (.cons rfl .nil)))))))))
  have S25_4 : JA Tryz.prog ops1 4 (za 16 0xfff) Γ1 ([(20, .p 6 1 0), (130, .u), (131, .u), (132, .u), (133, .u), (134, .u), (135, .u), (136, .u), (137, .u), (138, aZ), (139, aZ), (140, .i .i64 3)] ++ F0) (aH s l d (aA sg false N) aE [aHo]) Q1 := by
    subst ho; subst hF
    refine B5 12 ?_ rfl (by kernel_rfl)
    refine Jq (Cf (id := 7) A7 (by decide) rfl (by decide) rfl) (hd 21 rfl) ?_
    refine Bi S25_3 13 (.cons rfl (.cons rfl (.v5 (.u (.u (.u (.cons rfl (.cons rfl (.cons rfl .nil)))))))))
  have S25_5 : JA Tryz.prog ops1 4 (za 16 0x17ff) Γ1 ([(21, .p 7 1 0), (130, .u), (131, .u), (132, .u), (133, .u), (134, .u), (135, .u), (136, .u), (137, .u), (138, aZ), (139, aZ), (140, .i .i64 3)] ++ F0) (aH s l d (aA sg false N) aHo [aE]) Q1 := by
    subst ho; subst hF
    refine B5 11 ?_ rfl (by kernel_rfl)
    refine Jq (Cf (id := 6) A7 (by decide) rfl (by decide) rfl) (hd 20 rfl) ?_
    refine Bi S25_3 13 (.cons rfl (.cons rfl (.v5 (.u (.u (.u (.cons rfl (.cons rfl (.cons rfl .nil)))))))))
  have S25_6 : JA Tryz.prog ops1 5 (za 16 0x7ff) Γ1 ([(130, .u), (131, .u), (132, .u), (133, .u), (134, .u), (135, .u), (136, .u), (137, .u), (138, aZ), (139, aZ), (140, .i .i64 3)] ++ F0) (aH s l d (aA sg false N) aHo [aHo]) Q1 := by
    subst ho; subst hF
    refine O8 11 12 ?_ ?_ rfl rfl (by kernel_rfl)
    · refine Jq (Cf (id := 6) A7 (by decide) rfl (by decide) rfl) (hd 20 rfl) ?_
      refine Bi S25_4 12 (.cons rfl (.v5 (.u (.u (.u (.cons rfl (.cons rfl (.cons rfl .nil))))))))
    · refine Jq (Cf (id := 7) A7 (by decide) rfl (by decide) rfl) (hd 21 rfl) ?_
      refine Bi S25_5 12 (.cons rfl (.v5 (.u (.u (.u (.cons rfl (.cons rfl (.cons rfl .nil))))))))
  have S25_7 : JA Tryz.prog ops1 6 (za 16 0x3ff) Γ1 ([(130, aTz), (131, .u), (132, .u), (133, .u), (134, .u), (135, .u), (136, .u), (137, .u), (138, aZ), (139, aZ)] ++ F0) (aH s l d (aA sg false N) aHo [aHo]) Q1 := by
    subst ho; subst hF; refine Cb 10 [15] (Cr rfl rfl (hd 140 rfl)) hpan rfl ?_
    refine Bi S25_6 11 (.v5 (.u (.u (.u (.cons rfl (.cons rfl (.cons rfl .nil)))))))
  have S25_8 : JA Tryz.prog ops1 7 (za 16 0x1ff) Γ1 ([(130, aTz), (131, .u), (132, .u), (133, .u), (134, .u), (135, .u), (136, .u), (137, .u), (138, aZ)] ++ F0) (aH s l d (aA sg false N) aHo [aHo]) Q1 := by
    subst ho; subst hF; refine Cb 9 [14, 15] (Cr rfl rfl (hd 139 rfl)) hpan rfl ?_
    refine Bi S25_7 10 (.cons rfl (.v5 (.u (.u (.cons rfl (.cons rfl .nil))))))
  have S25_9 : JA Tryz.prog ops1 8 (za 16 0xff) Γ1 ([(130, aTz), (131, .u), (132, .u), (133, .u), (134, .u), (135, .u), (136, .u), (137, .u)] ++ F0) (aH s l d (aA sg false N) aHo [aHo]) Q1 := by
    subst ho; subst hF; refine Cb 8 [13, 14, 15] (Cr rfl rfl (hd 138 rfl)) hpan rfl ?_
    refine Bi S25_8 9 (.cons rfl (.v5 (.u (.u (.cons rfl .nil)))))
  have S25_10 : JA Tryz.prog ops1 9 (za 16 0x7f) Γ1 ([(131, .u), (132, .u), (133, .u), (134, .u), (135, .u), (136, .u), (137, aTz)] ++ F0) (aH s l d (aA sg false N) aHo [aHo]) Q1 := by
    subst ho; subst hF; refine Cb 7 [8, 9, 10, 13, 14, 15] (Gy rfl (hd 130 rfl)) hpan rfl ?_
    refine Bi S25_9 8 (.cons rfl (.v5 (.u (.u .nil))))
  have S25_11 : JA Tryz.prog ops1 5 (za 16 0xbff) Γ1 ([(20, .p 6 1 0), (130, aTz), (131, .u), (132, .u), (133, .u), (134, .u), (135, .u), (136, .u), (137, .u), (138, aZ), (139, aZ)] ++ F0) (aH s l d (aA sg false N) aE [aHo]) Q1 := by
    subst ho; subst hF; refine Cb 10 [15] (Cr rfl rfl (hd 140 rfl)) hpan rfl ?_
    refine Bi S25_4 12 (.cons rfl (.v5 (.u (.u (.u (.cons rfl (.cons rfl (.cons rfl .nil))))))))
  have S25_12 : JA Tryz.prog ops1 6 (za 16 0x9ff) Γ1 ([(20, .p 6 1 0), (130, aTz), (131, .u), (132, .u), (133, .u), (134, .u), (135, .u), (136, .u), (137, .u), (138, aZ)] ++ F0) (aH s l d (aA sg false N) aE [aHo]) Q1 := by
    subst ho; subst hF; refine Cb 9 [14, 15] (Cr rfl rfl (hd 139 rfl)) hpan rfl ?_
    refine Bi S25_11 11 (.cons rfl (.cons rfl (.v5 (.u (.u (.cons rfl (.cons rfl .nil)))))))
  have S25_13 : JA Tryz.prog ops1 7 (za 16 0x8ff) Γ1 ([(20, .p 6 1 0), (130, aTz), (131, .u), (132, .u), (133, .u), (134, .u), (135, .u), (136, .u), (137, .u)] ++ F0) (aH s l d (aA sg false N) aE [aHo]) Q1 := by
    subst ho; subst hF; refine Cb 8 [13, 14, 15] (Cr rfl rfl (hd 138 rfl)) hpan rfl ?_
    refine Bi S25_12 10 (.cons rfl (.cons rfl (.v5 (.u (.u (.cons rfl .nil))))))
  have S25_14 : JA Tryz.prog ops1 8 (za 16 0x87f) Γ1 ([(20, .p 6 1 0), (131, .u), (132, .u), (133, .u), (134, .u), (135, .u), (136, .u), (137, aTz)] ++ F0) (aH s l d (aA sg false N) aE [aHo]) Q1 := by
    subst ho; subst hF; refine Cb 7 [8, 9, 10, 13, 14, 15] (Gy rfl (hd 130 rfl)) hpan rfl ?_
    refine Bi S25_13 9 (.cons rfl (.cons rfl (.v5 (.u (.u .nil)))))
  have S25_15 : JA Tryz.prog ops1 4 (za 16 0x1bff) Γ1 ([(20, .p 6 1 0), (21, .p 7 1 0), (130, aTz), (131, .u), (132, .u), (133, .u), (134, .u), (135, .u), (136, .u), (137, .u), (138, aZ), (139, aZ)] ++ F0) (aH s l d (aA sg false N) aE [aE]) Q1 := by
    subst ho; subst hF; refine Cb 10 [15] (Cr rfl rfl (hd 140 rfl)) hpan rfl ?_
    refine Bi S25_3 13 (.cons rfl (.cons rfl (.v5 (.u (.u (.u (.cons rfl (.cons rfl (.cons rfl .nil)))))))))
  have S25_16 : JA Tryz.prog ops1 5 (za 16 0x19ff) Γ1 ([(20, .p 6 1 0), (21, .p 7 1 0), (130, aTz), (131, .u), (132, .u), (133, .u), (134, .u), (135, .u), (136, .u), (137, .u), (138, aZ)] ++ F0) (aH s l d (aA sg false N) aE [aE]) Q1 := by
    subst ho; subst hF; refine Cb 9 [14, 15] (Cr rfl rfl (hd 139 rfl)) hpan rfl ?_
    refine Bi S25_15 12 (.cons rfl (.cons rfl (.cons rfl (.v5 (.u (.u (.cons rfl (.cons rfl .nil))))))))
  have S25_17 : JA Tryz.prog ops1 6 (za 16 0x18ff) Γ1 ([(20, .p 6 1 0), (21, .p 7 1 0), (130, aTz), (131, .u), (132, .u), (133, .u), (134, .u), (135, .u), (136, .u), (137, .u)] ++ F0) (aH s l d (aA sg false N) aE [aE]) Q1 := by
    subst ho; subst hF; refine Cb 8 [13, 14, 15] (Cr rfl rfl (hd 138 rfl)) hpan rfl ?_
    refine Bi S25_16 11 (.cons rfl (.cons rfl (.cons rfl (.v5 (.u (.u (.cons rfl .nil)))))))
  have S25_18 : JA Tryz.prog ops1 7 (za 16 0x187f) Γ1 ([(20, .p 6 1 0), (21, .p 7 1 0), (131, .u), (132, .u), (133, .u), (134, .u), (135, .u), (136, .u), (137, aTz)] ++ F0) (aH s l d (aA sg false N) aE [aE]) Q1 := by
    subst ho; subst hF; refine Cb 7 [8, 9, 10, 13, 14, 15] (Gy rfl (hd 130 rfl)) hpan rfl ?_
    refine Bi S25_17 10 (.cons rfl (.cons rfl (.cons rfl (.v5 (.u (.u .nil))))))
  have S25_19 : JA Tryz.prog ops1 8 (za 16 0x183f) Γ1 ([(20, .p 6 1 0), (21, .p 7 1 0), (131, .u), (132, .u), (133, .f F []), (134, .a [.b sg, .n false .u64 N]), (135, .u), (136, .a [.b false, .n false .u64 D])] ++ F0) (aH s l d (aA sg false N) aE [aE]) Q1 := by
    subst ho; subst hF
    refine B5 6 ?_ rfl (by kernel_rfl)
    refine Bp fnF hWay rfl hfn hfb hfx (Ab rfl (Ab rfl Ad)) (.cons (.a1 .b (.a1 .n .a0)) (.cons (.a1 .b (.a1 .n .a0)) .nil)) (hd 137 rfl) ?_ (fun ch hp => by simp at hp)
    rintro y hy; injection hy with hy; subst hy
    refine Bi S25_18 9 (.cons rfl (.cons rfl (.v5 (.u (.cons rfl .nil)))))
  have S25_20 : JA Tryz.prog ops1 9 (za 16 0x83f) Γ1 ([(20, .p 6 1 0), (131, .u), (132, .u), (133, .f F []), (134, .a [.b sg, .n false .u64 N]), (135, .u), (136, .a [.b false, .n false .u64 D])] ++ F0) (aH s l d (aA sg false N) aE [aHo]) Q1 := by
    subst ho; subst hF
    refine O8 6 12 ?_ ?_ rfl rfl (by kernel_rfl)
    · refine Bp fnF hWay rfl hfn hfb hfx (Ab rfl (Ab rfl Ad)) (.cons (.a1 .b (.a1 .n .a0)) (.cons (.a1 .b (.a1 .n .a0)) .nil)) (hd 137 rfl) ?_ (fun ch hp => by simp at hp)
      rintro y hy; injection hy with hy; subst hy
      refine Bi S25_14 8 (.cons rfl (.v5 (.u (.cons rfl .nil))))
    · refine Jq (Cf (id := 7) A7 (by decide) rfl (by decide) rfl) (hd 21 rfl) ?_
      refine Bi S25_19 8 (.cons rfl (.cons rfl (.u (.u (.cons rfl (.cons rfl (.u (.cons rfl .nil))))))))
  have S25_21 : JA Tryz.prog ops1 5 (za 16 0x13ff) Γ1 ([(21, .p 7 1 0), (130, aTz), (131, .u), (132, .u), (133, .u), (134, .u), (135, .u), (136, .u), (137, .u), (138, aZ), (139, aZ)] ++ F0) (aH s l d (aA sg false N) aHo [aE]) Q1 := by
    subst ho; subst hF; refine Cb 10 [15] (Cr rfl rfl (hd 140 rfl)) hpan rfl ?_
    refine Bi S25_5 12 (.cons rfl (.v5 (.u (.u (.u (.cons rfl (.cons rfl (.cons rfl .nil))))))))
  have S25_22 : JA Tryz.prog ops1 6 (za 16 0x11ff) Γ1 ([(21, .p 7 1 0), (130, aTz), (131, .u), (132, .u), (133, .u), (134, .u), (135, .u), (136, .u), (137, .u), (138, aZ)] ++ F0) (aH s l d (aA sg false N) aHo [aE]) Q1 := by
    subst ho; subst hF; refine Cb 9 [14, 15] (Cr rfl rfl (hd 139 rfl)) hpan rfl ?_
    refine Bi S25_21 11 (.cons rfl (.cons rfl (.v5 (.u (.u (.cons rfl (.cons rfl .nil)))))))
  have S25_23 : JA Tryz.prog ops1 7 (za 16 0x10ff) Γ1 ([(21, .p 7 1 0), (130, aTz), (131, .u), (132, .u), (133, .u), (134, .u), (135, .u), (136, .u), (137, .u)] ++ F0) (aH s l d (aA sg false N) aHo [aE]) Q1 := by
    subst ho; subst hF; refine Cb 8 [13, 14, 15] (Cr rfl rfl (hd 138 rfl)) hpan rfl ?_
    refine Bi S25_22 10 (.cons rfl (.cons rfl (.v5 (.u (.u (.cons rfl .nil))))))
  have S25_24 : JA Tryz.prog ops1 8 (za 16 0x107f) Γ1 ([(21, .p 7 1 0), (131, .u), (132, .u), (133, .u), (134, .u), (135, .u), (136, .u), (137, aTz)] ++ F0) (aH s l d (aA sg false N) aHo [aE]) Q1 := by
    subst ho; subst hF; refine Cb 7 [8, 9, 10, 13, 14, 15] (Gy rfl (hd 130 rfl)) hpan rfl ?_
    refine Bi S25_23 9 (.cons rfl (.cons rfl (.v5 (.u (.u .nil)))))
  have S25_25 : JA Tryz.prog ops1 9 (za 16 0x103f) Γ1 ([(21, .p 7 1 0), (131, .u), (132, .u), (133, .f F []), (134, .a [.b sg, .n false .u64 N]), (135, .u), (136, .a [.b false, .n false .u64 D])] ++ F0) (aH s l d (aA sg false N) aHo [aE]) Q1 := by
    subst ho; subst hF
    refine O8 6 11 ?_ ?_ rfl rfl (by kernel_rfl)
    · refine Bp fnF hWay rfl hfn hfb hfx (Ab rfl (Ab rfl Ad)) (.cons (.a1 .b (.a1 .n .a0)) (.cons (.a1 .b (.a1 .n .a0)) .nil)) (hd 137 rfl) ?_ (fun ch hp => by simp at hp)
      rintro y hy; injection hy with hy; subst hy
      refine Bi S25_24 8 (.cons rfl (.v5 (.u (.cons rfl .nil))))
    · refine Jq (Cf (id := 6) A7 (by decide) rfl (by decide) rfl) (hd 20 rfl) ?_
      refine Bi S25_19 8 (.cons rfl (.cons rfl (.u (.u (.cons rfl (.cons rfl (.u (.cons rfl .nil))))))))
  have S25_26 : JA Tryz.prog ops1 10 (za 16 0x3f) Γ1 ([(131, .u), (132, .u), (133, .f F []), (134, .a [.b sg, .n false .u64 N]), (135, .u), (136, .a [.b false, .n false .u64 D])] ++ F0) (aH s l d (aA sg false N) aHo [aHo]) Q1 := by
    subst ho; subst hF
    refine ja_3 6 11 12 ?_ ?_ ?_ rfl rfl rfl (by kernel_rfl)
    · refine Bp fnF hWay rfl hfn hfb hfx (Ab rfl (Ab rfl Ad)) (.cons (.a1 .b (.a1 .n .a0)) (.cons (.a1 .b (.a1 .n .a0)) .nil)) (hd 137 rfl) ?_ (fun ch hp => by simp at hp)
      rintro y hy; injection hy with hy; subst hy
      refine Bi S25_10 7 (.v5 (.u (.cons rfl .nil)))
    · refine Jq (Cf (id := 6) A7 (by decide) rfl (by decide) rfl) (hd 20 rfl) ?_
      refine Bi S25_20 7 (.cons rfl (.u (.u (.cons rfl (.cons rfl (.u (.cons rfl .nil)))))))
    · refine Jq (Cf (id := 7) A7 (by decide) rfl (by decide) rfl) (hd 21 rfl) ?_
      refine Bi S25_25 7 (.cons rfl (.u (.u (.cons rfl (.cons rfl (.u (.cons rfl .nil)))))))
  have S25_27 : JA Tryz.prog ops1 11 (za 16 0x1f) Γ1 ([(131, .u), (132, .u), (133, .f F []), (134, .a [.b sg, .n false .u64 N]), (135, .n false .u64 D)] ++ F0) (aH s l d (aA sg false N) aHo [aHo]) Q1 := by
    subst ho; subst hF; refine Cb 5 [6, 7, 8, 9, 10, 13, 14, 15] (Al (Bn (is := [1]) (xs := [.tmp 135]) A7 Jl rfl (Ab rfl Ad) rfl (by first | (simp [B9, cellsV]; done) | (simp [B9, cellsV, old]; done)) (B7 rfl) rfl) (hd 136 rfl)) hpan rfl ?_
    refine Bi S25_26 6 (.u (.u (.cons rfl (.cons rfl (.u (.cons rfl .nil))))))
  have S25_28 : JA Tryz.prog ops1 12 (za 16 0xf) Γ1 ([(131, .u), (132, .u), (133, .f F []), (134, .a [.b sg, .n false .u64 N])] ++ F0) (aH s l d (aA sg false N) aHo [aHo]) Q1 := by
    subst ho; subst hF; refine Cb 4 [5, 6, 7, 8, 9, 10, 13, 14, 15] (Gy rfl (hd 135 rfl)) hpan rfl ?_
    refine Bi S25_27 5 (.u (.u (.cons rfl (.cons rfl (.cons rfl .nil)))))
  have S25_29 : JA Tryz.prog ops1 13 (za 16 0x7) Γ1 ([(131, .u), (132, .u), (133, .f F [])] ++ F0) (aH s l d (aA sg false N) aHo [aHo]) Q1 := by
    subst ho; subst hF; refine Cb 3 [6, 7, 8, 9, 10, 13, 14, 15] (Al (Bm B0 rfl rfl rfl rfl) (hd 134 rfl)) hpan rfl ?_
    refine Bi S25_28 4 (.u (.u (.cons rfl (.cons rfl .nil))))
  have S25_30 : JA Tryz.prog ops1 14 (za 16 0x3) Γ1 ([(131, .u), (132, .p 4 0 m)] ++ F0) (aH s l d (aA sg false N) aHo [aHo]) Q1 := by
    subst ho; subst hF; refine Cb 2 [6, 7, 8, 9, 10, 13, 14, 15] (Al (Be Aee rfl rfl hcell) (hd 133 rfl)) hpan rfl ?_
    refine Bi S25_29 3 (.u (.u (.cons rfl .nil)))
  have S25_31 : JA Tryz.prog ops1 15 (za 16 0x1) Γ1 ([(131, .i .i64 (m : Int))] ++ F0) (aH s l d (aA sg false N) aHo [aHo]) Q1 := by
    subst ho; subst hF; refine Cb 1 [2, 6, 7, 8, 9, 10, 13, 14, 15] (Al (Vk (i := m) (r := m) W7 rfl rfl rfl rfl hm (by omega)) (hd 132 rfl)) hpan rfl ?_
    refine Bi S25_30 2 (.u (.cons rfl .nil))
  have S25_32 : JA Tryz.prog ops1 16 (za 16 0x0) Γ1 ([] ++ F0) (aH s l d (aA sg false N) aHo [aHo]) Q1 := by
    subst ho; subst hF; refine Cb 0 [1, 2, 6, 7, 8, 9, 10, 13, 14, 15] (Gy rfl (hd 131 rfl)) hpan rfl ?_
    refine Bi S25_31 1 (.cons rfl .nil)
  subst ho; subst hF
  exact Bi (m := []) S25_32 0 .nil

theorem At_ti (m : Nat) (F : FuncId) (fnF : Func) (hm : m < 3) (hcell : [V.f 26 [], V.f 27 [], V.f 28 []][m]? = some (V.f F [])) (hfn : Tryz.prog.funcs[F]? = some fnF) (hfb : fnF.body.isSome = true) (hfx : (fnF.name == "runtime.NumGoroutine") = false) (s : Bool) (l d : List Int) (n : Int) (y0 : Nat) (hy0 : Rw d y0) (h00 : y0 ≠ 0) (hn8 : -1099511627776 ≤ n) (hn9 : n ≤ 1099511627776) (sg : Bool) (p q : Nat) (lp : Aq (p : Int) ≤ 67108864) (lq : Aq (q : Int) ≤ 67108864) (hPa : Spec Tryz.prog 29 [(.a [.b s, .n false .u64 l, .n false .u64 d])] (fun o => o = .ret (.t [.b sg, .n false .u64 (lm ((p : Nat) : Int)), .n false .u64 (lm ((q : Nat) : Int))]))) (hp : p ≠ 0) (hn : n ≤ 0) (hsm : (Aq (p : Int) : Int) + n < (Aq (q : Int) : Int) - 2) (wv : Int) (rb : Bool) (rr : List Int) (hWay : SpecM Tryz.prog F [.a [.b sg, .n false .u64 [1]], .a [.b false, .n false .u64 [4]]] [] (fun o G => o = .ret (.t [.a [.b (decide (wv < 0)), .o 0 0 0 (lm wv).length], .a [.b rb, .o 1 0 0 rr.length], .i .i64 0]) ∧ G = [⟨71, 1, 0, true, ints .u64 (lm wv)⟩, ⟨71, 1, 0, true, ints .u64 rr⟩])) : Ll Tryz.prog 6 0 tzCells [(.a [.b s, .n false .u64 l, .n false .u64 d]), .i .i64 n, .i .i64 (m : Int)] (fun o G => o = .ret (.t [.a [.b (decide (wv < 0)), .o 0 0 0 (lm wv).length], .i .i64 0]) ∧ G = [⟨71, 1, 0, true, ints .u64 (lm wv)⟩]) := by
  refine Lw [(0, (.a [.b s, .n false .u64 l, .n false .u64 d])), (1, .i .i64 n), (2, .i .i64 (m : Int))] rfl Tryz.func6 rfl (zlb rfl) fun Γ 𝓡 hTb hN hds hL hR hE => ?_
  have hd := Bt 146 hN
  have hl0 := mt Hk.1 hp
  have hLP : Spec Tryz.prog 30 [.n false .u64 (lm ((p : Nat) : Int))] (fun o => o = .ret (.i .i64 (Aq (p : Int) : Int))) := Di (p : Int) (by have := Bv lp; omega)
  have hLQ : Spec Tryz.prog 30 [.n false .u64 (lm ((q : Nat) : Int))] (fun o => o = .ret (.i .i64 (Aq (q : Int) : Int))) := Di (q : Int) (by have := Bv lq; omega)
  have hF4 : Spec Tryz.prog 35 [.i .u64 4] (fun o => o = .ret (.n true .u64 [4])) := by have h := Hu 4; rwa [if_neg (by decide)] at h
  have hF1 : Spec Tryz.prog 35 [.i .u64 1] (fun o => o = .ret (.n true .u64 [1])) := by have h := Hu 1; rwa [if_neg (by decide)] at h
  refine E7 <| Af <| A4 (By (id := 0) (n := 3) rfl rfl rfl (by decide) rfl) (hd 3 rfl) <| A4 (At (id := 1) A7 (by decide) rfl (by decide) rfl) (hd 6 rfl) <| A4 (At (id := 2) Gk (by decide) rfl (by decide) rfl) (hd 7 rfl) <| Aa <| Jr (g := 23) (caps := [.p 1 0 0, .p 2 0 0]) 3 [_] (ops := [_, _]) rfl Tryz.func23 rfl rfl rfl hds hR hL hE <| Ac (I5 (Ab rfl (Ab rfl Ad))) (hd 23 rfl) <| Aa ?_
  refine ⟨rfl, rfl, rfl, ?_⟩
  intro Γ1 hN1 hw1 hM1 hL hR1
  replace hTb : TabR 0 tzCells Γ1.w0 Γ1.M := by rw [hw1, hM1]; exact hTb
  replace hd : ∀ d, Nat.blt d 146 = true → d < Γ1.N := fun d h => by rw [hN1]; exact hd d h
  refine Aa <| zsr <| Ac (Bm B6 rfl rfl rfl rfl) (hd 24 rfl) <| A4 (Dl (id := 3) (xs := [.tmp 24]) G8 rfl (Ab rfl Ad) rfl (Cx rfl) (by decide) rfl) (hd 25 rfl) <| Fl 25 (sz := 3) [[V.b s, V.n false .u64 l, V.n false .u64 d]] rfl rfl rfl rfl (by simp) (by simp [Fh]) (by decide) hL ?_
  refine Ah Tryz.f25 (Fa s l d y0 hy0 h00) rfl Tryz.func25 rfl rfl (Ab rfl Ad) (.cons .l .nil) (hd 26 rfl) ?_ (fun ch hp => by simp at hp)
  rintro _ ⟨⟩; refine Aa <| Ae <| zsr <| zmv rfl (hd 27 rfl) <| Ac (Bo (Br rfl rfl) (by omega)) (hd 28 rfl) <| zmv rfl (hd 29 rfl) <| Ay 29 rfl rfl (Ar rfl) (hd 30 rfl) <| Ay 29 rfl rfl (Bo (Ca rfl rfl) (by omega)) (hd 31 rfl) <| Ac (A3 rfl rfl) (hd 32 rfl) <| Aa <| A1 rfl <| Ai ?_; refine Ae <| zsr <| zmv rfl (hd 34 rfl) <| Ac (Bo (Br rfl rfl) (by omega)) (hd 35 rfl) <| zmv rfl (hd 36 rfl) <| Ay 36 rfl rfl (Ar rfl) (hd 37 rfl) <| Ay 36 rfl rfl (Bo (Ca rfl rfl) (by omega)) (hd 38 rfl) <| Ac (A3 rfl rfl) (hd 39 rfl) <| Aa <| A1 rfl <| Ai <| Ae ?_; refine Af <| Ac (Hz (v := .agg #[.func (.func 26) #[] #[], .func (.func 27) #[] #[], .func (.func 28) #[] #[]]) (y := .a [.f 26 [], .f 27 [], .f 28 []]) (fun _ _ _ _ => ⟨[.func (.func 26) #[] #[], .func (.func 27) #[] #[], .func (.func 28) #[] #[]], rfl, _, _, rfl, ⟨[], rfl, rfl⟩, _, _, rfl, ⟨[], rfl, rfl⟩, _, _, rfl, ⟨[], rfl, rfl⟩, rfl⟩) (by intro a dst type pos after g w2; kernel_rfl)) (hd 41 rfl) <| A4 (At (id := 4) Is (by decide) rfl (by decide) rfl) (hd 8 rfl) <| A6 (Ak rfl rfl rfl Kw rfl rfl (zlb rfl)) <| Aa <| zsr <| Ac (Bm B6 rfl rfl rfl rfl) (hd 43 rfl) ?_
  refine Ah Tryz.f29 (hPa) rfl Tryz.func29 rfl rfl (Ab rfl Ad) (.cons (.a1 .b (.a1 .n (.a1 .n .a0))) .nil) (hd 44 rfl) ?_ (fun ch hp => by simp at hp)
  rintro _ ⟨⟩; refine zmv rfl (hd 42 rfl) <| Ac (Am rfl rfl) (hd 45 rfl) <| Ac (Am rfl rfl) (hd 46 rfl) <| Ac (Am rfl rfl) (hd 47 rfl) <| zas rfl (hd 9 rfl) <| zas rfl (hd 10 rfl) <| zas rfl (hd 11 rfl) <| Aa <| zsr <| zmv rfl (hd 48 rfl) <| zmv rfl (hd 49 rfl) <| Ac (Bn (is := [0, 1]) (xs := [.tmp 48, .tmp 49]) A7 C9 rfl (Ab rfl (Ab rfl Ad)) rfl (by first | (simp [B9, cellsV]; done) | (simp [B9, cellsV, old]; done)) (B7 rfl) rfl) (hd 50 rfl) ?_; refine A4 (At (id := 5) A7 (by decide) rfl (by decide) rfl) (hd 12 rfl) <| A6 (Ak rfl rfl rfl B8 rfl rfl (zlb rfl)) <| Aa <| Ae <| zsr <| zmv rfl (hd 51 rfl) <| Ac (As Bc rfl) (hd 52 rfl) <| Ac (Bo (Ch rfl rfl) (by omega)) (hd 53 rfl) <| Aa <| A1 rfl <| Ai <| Ae ?_; refine zsr <| zmv rfl (hd 55 rfl) <| Ac (Bo (Ca rfl rfl) (by omega)) (hd 56 rfl) <| Aa <| A1 rfl <| Ae <| zsr <| zmv rfl (hd 85 rfl) ?_
  refine Ah Tryz.f30 (hLP) rfl Tryz.func30 rfl rfl (Ab rfl Ad) (.cons .n .nil) (hd 86 rfl) ?_ (fun ch hp => by simp at hp)
  rintro _ ⟨⟩; refine zmv rfl (hd 87 rfl) <| Ac (Aw rfl rfl (r := (Aq (p : Int) : Int) + n) (by rw [Ag (by omega) (by omega)] <;> omega)) (hd 88 rfl) <| zmv rfl (hd 89 rfl) ?_
  refine Ah Tryz.f30 (hLQ) rfl Tryz.func30 rfl rfl (Ab rfl Ad) (.cons .n .nil) (hd 90 rfl) ?_ (fun ch hp => by simp at hp)
  rintro _ ⟨⟩; refine Ac (Bd rfl rfl (r := (Aq (q : Int) : Int) - 2) (by rw [Ag (by omega) (by omega)] <;> omega)) (hd 91 rfl) <| Ac (Cq (Br rfl rfl) hsm) (hd 92 rfl) <| Aa <| B4 rfl <| Ae <| Af ?_
  refine Ah Tryz.f35 (hF4) rfl Tryz.func35 rfl rfl (Ab rfl Ad) (.cons .i .nil) (hd 93 rfl) ?_ (fun ch hp => by simp at hp)
  rintro _ ⟨⟩; refine zmv rfl (hd 94 rfl) ?_
  refine Ah Tryz.f35 (hF1) rfl Tryz.func35 rfl rfl (Ab rfl Ad) (.cons .i .nil) (hd 95 rfl) ?_ (fun ch hp => by simp at hp)
  rintro _ ⟨⟩; refine Ac (Bn (is := [0, 1]) (xs := [.tmp 94, .tmp 95]) A7 C9 rfl (Ab rfl (Ab rfl Ad)) rfl (by first | (simp [B9, cellsV]; done) | (simp [B9, cellsV, old]; done)) (B7 rfl) rfl) (hd 96 rfl) <| A4 (At (id := 6) A7 (by decide) rfl (by decide) rfl) (hd 15 rfl) <| zas rfl (hd 14 rfl) <| A6 (Ak rfl rfl rfl B8 rfl rfl (zlb rfl)) <| Aa <| Ae <| G2 <| Nc 2 _ <| Bu (n := 16) _ rfl Cg ?_; refine V4 (fun _ _ _ _ h => h) fun ops1 Q1 F0 hpan ho hq hF => ?_
  have S20_0 : JA Tryz.prog ops1 0 (za 16 0xffff) Γ1 ([(16, .p 7 1 0), (17, .p 8 1 0), (18, .i .i64 0), (97, .u), (98, .u), (99, .u), (100, .u), (101, .u), (102, .u), (103, .u), (104, .u), (105, .u), (106, .u), (107, .u)] ++ F0) (aH s l d (aA sg false (lm ((p : Nat) : Int))) (aA sg true [1]) [(aO1 9 wv), (aO2 10 rb rr), (aRw (lm wv)), (aRw rr)]) Q1 := by
    subst ho; subst hq; subst hF; refine Bx (by kernel_rfl) <| zsr <| Ac (Bm B0 rfl rfl rfl rfl) (hd 108 rfl) <| A6 (Ak rfl rfl rfl B8 rfl rfl (zlb rfl)) <| A6 (Ak rfl rfl rfl Ig rfl rfl (zlb rfl)) <| Aa <| Ao <| Clo.fin Fc (m := 3) (i := 1) (j := 2) (zlb rfl) rfl rfl rfl rfl ?_
    refine ⟨[9], _, (.t [.a [.b (decide (wv < 0)), .o 0 0 0 (lm wv).length], .i .i64 0]), (.cons (ResV.cell B0 rfl rfl rfl rfl) (.cons (ResV.cell1 E6 rfl rfl rfl) .nil)), rfl, rfl, (by decide), (by first | exact An A8 Ax | exact An rfl Ax), ?_⟩
    exact ⟨rfl, rfl⟩
  have S20_1 : JA Tryz.prog ops1 1 (za 16 0x7fff) Γ1 ([(16, .p 7 1 0), (17, .p 8 1 0), (97, .u), (98, .u), (99, .u), (100, .u), (101, .u), (102, .u), (103, .u), (104, .u), (105, .u), (106, .u), (107, .i .i64 0)] ++ F0) (aH s l d (aA sg false (lm ((p : Nat) : Int))) (aA sg true [1]) [(aO1 9 wv), (aO2 10 rb rr), (aRw (lm wv)), (aRw rr)]) Q1 := by
    subst ho; subst hF; refine Cb 15 [] (Aeu rfl (hd 18 rfl)) hpan rfl ?_
    refine Bi S20_0 14 (.cons rfl (.cons rfl (.cons rfl (.v9 (.u .nil)))))
  have S20_2 : JA Tryz.prog ops1 2 (za 16 0x3fff) Γ1 ([(16, .p 7 1 0), (17, .p 8 1 0), (97, .u), (98, .u), (99, .u), (100, .u), (101, .u), (102, .u), (103, .u), (104, .u), (105, .u), (106, (aWr 10 rb rr)), (107, .i .i64 0)] ++ F0) (aH s l d (aA sg false (lm ((p : Nat) : Int))) (aA sg true [1]) [(aO1 9 wv), aE, (aRw (lm wv)), (aRw rr)]) Q1 := by
    subst ho; subst hF
    refine B5 14 ?_ rfl (by kernel_rfl)
    refine D1 (Ak rfl rfl rfl B8 rfl rfl (zlb rfl)) rfl ?_
    refine Bi S20_1 13 (.cons rfl (.cons rfl (.v9 (.cons rfl .nil))))
  have S20_3 : JA Tryz.prog ops1 3 (za 16 0x1fff) Γ1 ([(16, .p 7 1 0), (17, .p 8 1 0), (97, .u), (98, .u), (99, .u), (100, .u), (101, .u), (102, .u), (103, .u), (104, .u), (105, (aWv 9 wv)), (106, (aWr 10 rb rr)), (107, .i .i64 0)] ++ F0) (aH s l d (aA sg false (lm ((p : Nat) : Int))) (aA sg true [1]) [aE, aE, (aRw (lm wv)), (aRw rr)]) Q1 := by
    subst ho; subst hF
    refine B5 13 ?_ rfl (by kernel_rfl)
    refine D1 (Ak rfl rfl rfl B8 rfl rfl (zlb rfl)) rfl ?_
    refine Bi S20_2 13 (.cons rfl (.cons rfl (.v5 (.u (.u (.u (.u (.cons rfl (.cons rfl .nil)))))))))
  have S20_4 : JA Tryz.prog ops1 4 (za 16 0xfff) Γ1 ([(16, .p 7 1 0), (97, .u), (98, .u), (99, .u), (100, .u), (101, .u), (102, .u), (103, .u), (104, .u), (105, (aWv 9 wv)), (106, (aWr 10 rb rr)), (107, .i .i64 0)] ++ F0) (aH s l d (aA sg false (lm ((p : Nat) : Int))) (aA sg true [1]) [aE, aHo, (aRw (lm wv)), (aRw rr)]) Q1 := by
    subst ho; subst hF
    refine B5 12 ?_ rfl (by kernel_rfl)
    refine Jq (Cf (id := 8) A7 (by decide) rfl (by decide) rfl) (hd 17 rfl) ?_
    refine Bi S20_3 13 (.cons rfl (.cons rfl (.v5 (.u (.u (.u (.cons rfl (.cons rfl (.cons rfl .nil)))))))))
  have S20_5 : JA Tryz.prog ops1 4 (za 16 0x17ff) Γ1 ([(17, .p 8 1 0), (97, .u), (98, .u), (99, .u), (100, .u), (101, .u), (102, .u), (103, .u), (104, .u), (105, (aWv 9 wv)), (106, (aWr 10 rb rr)), (107, .i .i64 0)] ++ F0) (aH s l d (aA sg false (lm ((p : Nat) : Int))) (aA sg true [1]) [aHo, aE, (aRw (lm wv)), (aRw rr)]) Q1 := by
    subst ho; subst hF
    refine B5 11 ?_ rfl (by kernel_rfl)
    refine Jq (Cf (id := 7) A7 (by decide) rfl (by decide) rfl) (hd 16 rfl) ?_
    refine Bi S20_3 13 (.cons rfl (.cons rfl (.v5 (.u (.u (.u (.cons rfl (.cons rfl (.cons rfl .nil)))))))))
  have S20_6 : JA Tryz.prog ops1 5 (za 16 0x7ff) Γ1 ([(97, .u), (98, .u), (99, .u), (100, .u), (101, .u), (102, .u), (103, .u), (104, .u), (105, (aWv 9 wv)), (106, (aWr 10 rb rr)), (107, .i .i64 0)] ++ F0) (aH s l d (aA sg false (lm ((p : Nat) : Int))) (aA sg true [1]) [aHo, aHo, (aRw (lm wv)), (aRw rr)]) Q1 := by
    subst ho; subst hF
    refine O8 11 12 ?_ ?_ rfl rfl (by kernel_rfl)
    · refine Jq (Cf (id := 7) A7 (by decide) rfl (by decide) rfl) (hd 16 rfl) ?_
      refine Bi S20_4 12 (.cons rfl (.v5 (.u (.u (.u (.cons rfl (.cons rfl (.cons rfl .nil))))))))
    · refine Jq (Cf (id := 8) A7 (by decide) rfl (by decide) rfl) (hd 17 rfl) ?_
      refine Bi S20_5 12 (.cons rfl (.v5 (.u (.u (.u (.cons rfl (.cons rfl (.cons rfl .nil))))))))
  have S20_7 : JA Tryz.prog ops1 6 (za 16 0x3ff) Γ1 ([(97, (aT 9 10 wv rb rr)), (98, .u), (99, .u), (100, .u), (101, .u), (102, .u), (103, .u), (104, .u), (105, (aWv 9 wv)), (106, (aWr 10 rb rr))] ++ F0) (aH s l d (aA sg false (lm ((p : Nat) : Int))) (aA sg true [1]) [aHo, aHo, (aRw (lm wv)), (aRw rr)]) Q1 := by
    subst ho; subst hF; refine Cb 10 [15] (Cr rfl rfl (hd 107 rfl)) hpan rfl ?_
    refine Bi S20_6 11 (.v5 (.u (.u (.u (.cons rfl (.cons rfl (.cons rfl .nil)))))))
  have S20_8 : JA Tryz.prog ops1 7 (za 16 0x1ff) Γ1 ([(97, (aT 9 10 wv rb rr)), (98, .u), (99, .u), (100, .u), (101, .u), (102, .u), (103, .u), (104, .u), (105, (aWv 9 wv))] ++ F0) (aH s l d (aA sg false (lm ((p : Nat) : Int))) (aA sg true [1]) [aHo, aHo, (aRw (lm wv)), (aRw rr)]) Q1 := by
    subst ho; subst hF; refine Cb 9 [14, 15] (Cr rfl rfl (hd 106 rfl)) hpan rfl ?_
    refine Bi S20_7 10 (.cons rfl (.v5 (.u (.u (.cons rfl (.cons rfl .nil))))))
  have S20_9 : JA Tryz.prog ops1 8 (za 16 0xff) Γ1 ([(97, (aT 9 10 wv rb rr)), (98, .u), (99, .u), (100, .u), (101, .u), (102, .u), (103, .u), (104, .u)] ++ F0) (aH s l d (aA sg false (lm ((p : Nat) : Int))) (aA sg true [1]) [aHo, aHo, (aRw (lm wv)), (aRw rr)]) Q1 := by
    subst ho; subst hF; refine Cb 8 [13, 14, 15] (Cr rfl rfl (hd 105 rfl)) hpan rfl ?_
    refine Bi S20_8 9 (.cons rfl (.v5 (.u (.u (.cons rfl .nil)))))
  have S20_10 : JA Tryz.prog ops1 9 (za 16 0x7f) Γ1 ([(98, .u), (99, .u), (100, .u), (101, .u), (102, .u), (103, .u), (104, (aT 9 10 wv rb rr))] ++ F0) (aH s l d (aA sg false (lm ((p : Nat) : Int))) (aA sg true [1]) [aHo, aHo, (aRw (lm wv)), (aRw rr)]) Q1 := by
    subst ho; subst hF; refine Cb 7 [8, 9, 10, 13, 14, 15] (Gy rfl (hd 97 rfl)) hpan rfl ?_
    refine Bi S20_9 8 (.cons rfl (.v5 (.u (.u .nil))))
  have S20_11 : JA Tryz.prog ops1 5 (za 16 0xbff) Γ1 ([(16, .p 7 1 0), (97, (aT 9 10 wv rb rr)), (98, .u), (99, .u), (100, .u), (101, .u), (102, .u), (103, .u), (104, .u), (105, (aWv 9 wv)), (106, (aWr 10 rb rr))] ++ F0) (aH s l d (aA sg false (lm ((p : Nat) : Int))) (aA sg true [1]) [aE, aHo, (aRw (lm wv)), (aRw rr)]) Q1 := by
    subst ho; subst hF; refine Cb 10 [15] (Cr rfl rfl (hd 107 rfl)) hpan rfl ?_
    refine Bi S20_4 12 (.cons rfl (.v5 (.u (.u (.u (.cons rfl (.cons rfl (.cons rfl .nil))))))))
  have S20_12 : JA Tryz.prog ops1 6 (za 16 0x9ff) Γ1 ([(16, .p 7 1 0), (97, (aT 9 10 wv rb rr)), (98, .u), (99, .u), (100, .u), (101, .u), (102, .u), (103, .u), (104, .u), (105, (aWv 9 wv))] ++ F0) (aH s l d (aA sg false (lm ((p : Nat) : Int))) (aA sg true [1]) [aE, aHo, (aRw (lm wv)), (aRw rr)]) Q1 := by
    subst ho; subst hF; refine Cb 9 [14, 15] (Cr rfl rfl (hd 106 rfl)) hpan rfl ?_
    refine Bi S20_11 11 (.cons rfl (.cons rfl (.v5 (.u (.u (.cons rfl (.cons rfl .nil)))))))
  have S20_13 : JA Tryz.prog ops1 7 (za 16 0x8ff) Γ1 ([(16, .p 7 1 0), (97, (aT 9 10 wv rb rr)), (98, .u), (99, .u), (100, .u), (101, .u), (102, .u), (103, .u), (104, .u)] ++ F0) (aH s l d (aA sg false (lm ((p : Nat) : Int))) (aA sg true [1]) [aE, aHo, (aRw (lm wv)), (aRw rr)]) Q1 := by
    subst ho; subst hF; refine Cb 8 [13, 14, 15] (Cr rfl rfl (hd 105 rfl)) hpan rfl ?_
    refine Bi S20_12 10 (.cons rfl (.cons rfl (.v5 (.u (.u (.cons rfl .nil))))))
  have S20_14 : JA Tryz.prog ops1 8 (za 16 0x87f) Γ1 ([(16, .p 7 1 0), (98, .u), (99, .u), (100, .u), (101, .u), (102, .u), (103, .u), (104, (aT 9 10 wv rb rr))] ++ F0) (aH s l d (aA sg false (lm ((p : Nat) : Int))) (aA sg true [1]) [aE, aHo, (aRw (lm wv)), (aRw rr)]) Q1 := by
    subst ho; subst hF; refine Cb 7 [8, 9, 10, 13, 14, 15] (Gy rfl (hd 97 rfl)) hpan rfl ?_
    refine Bi S20_13 9 (.cons rfl (.cons rfl (.v5 (.u (.u .nil)))))
  have S20_15 : JA Tryz.prog ops1 4 (za 16 0x1bff) Γ1 ([(16, .p 7 1 0), (17, .p 8 1 0), (97, (aT 9 10 wv rb rr)), (98, .u), (99, .u), (100, .u), (101, .u), (102, .u), (103, .u), (104, .u), (105, (aWv 9 wv)), (106, (aWr 10 rb rr))] ++ F0) (aH s l d (aA sg false (lm ((p : Nat) : Int))) (aA sg true [1]) [aE, aE, (aRw (lm wv)), (aRw rr)]) Q1 := by
    subst ho; subst hF; refine Cb 10 [15] (Cr rfl rfl (hd 107 rfl)) hpan rfl ?_
    refine Bi S20_3 13 (.cons rfl (.cons rfl (.v5 (.u (.u (.u (.cons rfl (.cons rfl (.cons rfl .nil)))))))))
  have S20_16 : JA Tryz.prog ops1 5 (za 16 0x19ff) Γ1 ([(16, .p 7 1 0), (17, .p 8 1 0), (97, (aT 9 10 wv rb rr)), (98, .u), (99, .u), (100, .u), (101, .u), (102, .u), (103, .u), (104, .u), (105, (aWv 9 wv))] ++ F0) (aH s l d (aA sg false (lm ((p : Nat) : Int))) (aA sg true [1]) [aE, aE, (aRw (lm wv)), (aRw rr)]) Q1 := by
    subst ho; subst hF; refine Cb 9 [14, 15] (Cr rfl rfl (hd 106 rfl)) hpan rfl ?_
    refine Bi S20_15 12 (.cons rfl (.cons rfl (.cons rfl (.v5 (.u (.u (.cons rfl (.cons rfl .nil))))))))
  have S20_17 : JA Tryz.prog ops1 6 (za 16 0x18ff) Γ1 ([(16, .p 7 1 0), (17, .p 8 1 0), (97, (aT 9 10 wv rb rr)), (98, .u), (99, .u), (100, .u), (101, .u), (102, .u), (103, .u), (104, .u)] ++ F0) (aH s l d (aA sg false (lm ((p : Nat) : Int))) (aA sg true [1]) [aE, aE, (aRw (lm wv)), (aRw rr)]) Q1 := by
    subst ho; subst hF; refine Cb 8 [13, 14, 15] (Cr rfl rfl (hd 105 rfl)) hpan rfl ?_
    refine Bi S20_16 11 (.cons rfl (.cons rfl (.cons rfl (.v5 (.u (.u (.cons rfl .nil)))))))
  have S20_18 : JA Tryz.prog ops1 7 (za 16 0x187f) Γ1 ([(16, .p 7 1 0), (17, .p 8 1 0), (98, .u), (99, .u), (100, .u), (101, .u), (102, .u), (103, .u), (104, (aT 9 10 wv rb rr))] ++ F0) (aH s l d (aA sg false (lm ((p : Nat) : Int))) (aA sg true [1]) [aE, aE, (aRw (lm wv)), (aRw rr)]) Q1 := by
    subst ho; subst hF; refine Cb 7 [8, 9, 10, 13, 14, 15] (Gy rfl (hd 97 rfl)) hpan rfl ?_
    refine Bi S20_17 10 (.cons rfl (.cons rfl (.cons rfl (.v5 (.u (.u .nil))))))
  have S20_19 : JA Tryz.prog ops1 8 (za 16 0x183f) Γ1 ([(16, .p 7 1 0), (17, .p 8 1 0), (98, .u), (99, .u), (100, .f F []), (101, .a [.b sg, .n true .u64 [1]]), (102, .u), (103, .a [.b false, .n true .u64 [4]])] ++ F0) (aH s l d (aA sg false (lm ((p : Nat) : Int))) (aA sg true [1]) [aE, aE]) Q1 := by
    subst ho; subst hF
    refine B5 6 ?_ rfl (by kernel_rfl)
    refine Es fnF hWay (fun o G ⟨_, h⟩ => h ▸ An A8 (An A8 Ax)) rfl hfn hfb hfx (Ab rfl (Ab rfl Ad)) (.cons (.a1 .b (.a1 .n .a0)) (.cons (.a1 .b (.a1 .n .a0)) .nil)) (hd 104 rfl) ?_ (fun ch G hp => by simp at hp)
    rintro y G ⟨hy, rfl⟩; injection hy with hy; subst hy
    show JA _ _ _ _ _ ((104, (aT 9 10 wv rb rr)) :: _) _ _
    refine Bi S20_18 9 (.cons rfl (.cons rfl (.v5 (.u (.cons rfl .nil)))))
  have S20_20 : JA Tryz.prog ops1 9 (za 16 0x83f) Γ1 ([(16, .p 7 1 0), (98, .u), (99, .u), (100, .f F []), (101, .a [.b sg, .n true .u64 [1]]), (102, .u), (103, .a [.b false, .n true .u64 [4]])] ++ F0) (aH s l d (aA sg false (lm ((p : Nat) : Int))) (aA sg true [1]) [aE, aHo]) Q1 := by
    subst ho; subst hF
    refine O8 6 12 ?_ ?_ rfl rfl (by kernel_rfl)
    · refine Es fnF hWay (fun o G ⟨_, h⟩ => h ▸ An A8 (An A8 Ax)) rfl hfn hfb hfx (Ab rfl (Ab rfl Ad)) (.cons (.a1 .b (.a1 .n .a0)) (.cons (.a1 .b (.a1 .n .a0)) .nil)) (hd 104 rfl) ?_ (fun ch G hp => by simp at hp)
      rintro y G ⟨hy, rfl⟩; injection hy with hy; subst hy
      show JA _ _ _ _ _ ((104, (aT 9 10 wv rb rr)) :: _) _ _
      refine Bi S20_14 8 (.cons rfl (.v5 (.u (.cons rfl .nil))))
    · refine Jq (Cf (id := 8) A7 (by decide) rfl (by decide) rfl) (hd 17 rfl) ?_
      refine Bi S20_19 8 (.cons rfl (.cons rfl (.u (.u (.cons rfl (.cons rfl (.u (.cons rfl .nil))))))))
  have S20_21 : JA Tryz.prog ops1 5 (za 16 0x13ff) Γ1 ([(17, .p 8 1 0), (97, (aT 9 10 wv rb rr)), (98, .u), (99, .u), (100, .u), (101, .u), (102, .u), (103, .u), (104, .u), (105, (aWv 9 wv)), (106, (aWr 10 rb rr))] ++ F0) (aH s l d (aA sg false (lm ((p : Nat) : Int))) (aA sg true [1]) [aHo, aE, (aRw (lm wv)), (aRw rr)]) Q1 := by
    subst ho; subst hF; refine Cb 10 [15] (Cr rfl rfl (hd 107 rfl)) hpan rfl ?_
    refine Bi S20_5 12 (.cons rfl (.v5 (.u (.u (.u (.cons rfl (.cons rfl (.cons rfl .nil))))))))
  have S20_22 : JA Tryz.prog ops1 6 (za 16 0x11ff) Γ1 ([(17, .p 8 1 0), (97, (aT 9 10 wv rb rr)), (98, .u), (99, .u), (100, .u), (101, .u), (102, .u), (103, .u), (104, .u), (105, (aWv 9 wv))] ++ F0) (aH s l d (aA sg false (lm ((p : Nat) : Int))) (aA sg true [1]) [aHo, aE, (aRw (lm wv)), (aRw rr)]) Q1 := by
    subst ho; subst hF; refine Cb 9 [14, 15] (Cr rfl rfl (hd 106 rfl)) hpan rfl ?_
    refine Bi S20_21 11 (.cons rfl (.cons rfl (.v5 (.u (.u (.cons rfl (.cons rfl .nil)))))))
  have S20_23 : JA Tryz.prog ops1 7 (za 16 0x10ff) Γ1 ([(17, .p 8 1 0), (97, (aT 9 10 wv rb rr)), (98, .u), (99, .u), (100, .u), (101, .u), (102, .u), (103, .u), (104, .u)] ++ F0) (aH s l d (aA sg false (lm ((p : Nat) : Int))) (aA sg true [1]) [aHo, aE, (aRw (lm wv)), (aRw rr)]) Q1 := by
    subst ho; subst hF; refine Cb 8 [13, 14, 15] (Cr rfl rfl (hd 105 rfl)) hpan rfl ?_
    refine Bi S20_22 10 (.cons rfl (.cons rfl (.v5 (.u (.u (.cons rfl .nil))))))
  have S20_24 : JA Tryz.prog ops1 8 (za 16 0x107f) Γ1 ([(17, .p 8 1 0), (98, .u), (99, .u), (100, .u), (101, .u), (102, .u), (103, .u), (104, (aT 9 10 wv rb rr))] ++ F0) (aH s l d (aA sg false (lm ((p : Nat) : Int))) (aA sg true [1]) [aHo, aE, (aRw (lm wv)), (aRw rr)]) Q1 := by
    subst ho; subst hF; refine Cb 7 [8, 9, 10, 13, 14, 15] (Gy rfl (hd 97 rfl)) hpan rfl ?_
    refine Bi S20_23 9 (.cons rfl (.cons rfl (.v5 (.u (.u .nil)))))
  have S20_25 : JA Tryz.prog ops1 9 (za 16 0x103f) Γ1 ([(17, .p 8 1 0), (98, .u), (99, .u), (100, .f F []), (101, .a [.b sg, .n true .u64 [1]]), (102, .u), (103, .a [.b false, .n true .u64 [4]])] ++ F0) (aH s l d (aA sg false (lm ((p : Nat) : Int))) (aA sg true [1]) [aHo, aE]) Q1 := by
    subst ho; subst hF
    refine O8 6 11 ?_ ?_ rfl rfl (by kernel_rfl)
    · refine Es fnF hWay (fun o G ⟨_, h⟩ => h ▸ An A8 (An A8 Ax)) rfl hfn hfb hfx (Ab rfl (Ab rfl Ad)) (.cons (.a1 .b (.a1 .n .a0)) (.cons (.a1 .b (.a1 .n .a0)) .nil)) (hd 104 rfl) ?_ (fun ch G hp => by simp at hp)
      rintro y G ⟨hy, rfl⟩; injection hy with hy; subst hy
      show JA _ _ _ _ _ ((104, (aT 9 10 wv rb rr)) :: _) _ _
      refine Bi S20_24 8 (.cons rfl (.v5 (.u (.cons rfl .nil))))
    · refine Jq (Cf (id := 7) A7 (by decide) rfl (by decide) rfl) (hd 16 rfl) ?_
      refine Bi S20_19 8 (.cons rfl (.cons rfl (.u (.u (.cons rfl (.cons rfl (.u (.cons rfl .nil))))))))
  have S20_26 : JA Tryz.prog ops1 10 (za 16 0x3f) Γ1 ([(98, .u), (99, .u), (100, .f F []), (101, .a [.b sg, .n true .u64 [1]]), (102, .u), (103, .a [.b false, .n true .u64 [4]])] ++ F0) (aH s l d (aA sg false (lm ((p : Nat) : Int))) (aA sg true [1]) [aHo, aHo]) Q1 := by
    subst ho; subst hF
    refine ja_3 6 11 12 ?_ ?_ ?_ rfl rfl rfl (by kernel_rfl)
    · refine Es fnF hWay (fun o G ⟨_, h⟩ => h ▸ An A8 (An A8 Ax)) rfl hfn hfb hfx (Ab rfl (Ab rfl Ad)) (.cons (.a1 .b (.a1 .n .a0)) (.cons (.a1 .b (.a1 .n .a0)) .nil)) (hd 104 rfl) ?_ (fun ch G hp => by simp at hp)
      rintro y G ⟨hy, rfl⟩; injection hy with hy; subst hy
      show JA _ _ _ _ _ ((104, (aT 9 10 wv rb rr)) :: _) _ _
      refine Bi S20_10 7 (.v5 (.u (.cons rfl .nil)))
    · refine Jq (Cf (id := 7) A7 (by decide) rfl (by decide) rfl) (hd 16 rfl) ?_
      refine Bi S20_20 7 (.cons rfl (.u (.u (.cons rfl (.cons rfl (.u (.cons rfl .nil)))))))
    · refine Jq (Cf (id := 8) A7 (by decide) rfl (by decide) rfl) (hd 17 rfl) ?_
      refine Bi S20_25 7 (.cons rfl (.u (.u (.cons rfl (.cons rfl (.u (.cons rfl .nil)))))))
  have S20_27 : JA Tryz.prog ops1 11 (za 16 0x1f) Γ1 ([(98, .u), (99, .u), (100, .f F []), (101, .a [.b sg, .n true .u64 [1]]), (102, .n true .u64 [4])] ++ F0) (aH s l d (aA sg false (lm ((p : Nat) : Int))) (aA sg true [1]) [aHo, aHo]) Q1 := by
    subst ho; subst hF; refine Cb 5 [6, 7, 8, 9, 10, 13, 14, 15] (Al (Bn (is := [1]) (xs := [.tmp 102]) A7 Jl rfl (Ab rfl Ad) rfl (by first | (simp [B9, cellsV]; done) | (simp [B9, cellsV, old]; done)) (B7 rfl) rfl) (hd 103 rfl)) hpan rfl ?_
    refine Bi S20_26 6 (.u (.u (.cons rfl (.cons rfl (.u (.cons rfl .nil))))))
  have S20_28 : JA Tryz.prog ops1 12 (za 16 0xf) Γ1 ([(98, .u), (99, .u), (100, .f F []), (101, .a [.b sg, .n true .u64 [1]])] ++ F0) (aH s l d (aA sg false (lm ((p : Nat) : Int))) (aA sg true [1]) [aHo, aHo]) Q1 := by
    subst ho; subst hF; refine Cb 4 [5, 6, 7, 8, 9, 10, 13, 14, 15] (Gy rfl (hd 102 rfl)) hpan rfl ?_
    refine Bi S20_27 5 (.u (.u (.cons rfl (.cons rfl (.cons rfl .nil)))))
  have S20_29 : JA Tryz.prog ops1 13 (za 16 0x7) Γ1 ([(98, .u), (99, .u), (100, .f F [])] ++ F0) (aH s l d (aA sg false (lm ((p : Nat) : Int))) (aA sg true [1]) [aHo, aHo]) Q1 := by
    subst ho; subst hF; refine Cb 3 [6, 7, 8, 9, 10, 13, 14, 15] (Al (Bm B0 rfl rfl rfl rfl) (hd 101 rfl)) hpan rfl ?_
    refine Bi S20_28 4 (.u (.u (.cons rfl (.cons rfl .nil))))
  have S20_30 : JA Tryz.prog ops1 14 (za 16 0x3) Γ1 ([(98, .u), (99, .p 4 0 m)] ++ F0) (aH s l d (aA sg false (lm ((p : Nat) : Int))) (aA sg true [1]) [aHo, aHo]) Q1 := by
    subst ho; subst hF; refine Cb 2 [6, 7, 8, 9, 10, 13, 14, 15] (Al (Be Aee rfl rfl hcell) (hd 100 rfl)) hpan rfl ?_
    refine Bi S20_29 3 (.u (.u (.cons rfl .nil)))
  have S20_31 : JA Tryz.prog ops1 15 (za 16 0x1) Γ1 ([(98, .i .i64 (m : Int))] ++ F0) (aH s l d (aA sg false (lm ((p : Nat) : Int))) (aA sg true [1]) [aHo, aHo]) Q1 := by
    subst ho; subst hF; refine Cb 1 [2, 6, 7, 8, 9, 10, 13, 14, 15] (Al (Vk (i := m) (r := m) W7 rfl rfl rfl rfl hm (by omega)) (hd 99 rfl)) hpan rfl ?_
    refine Bi S20_30 2 (.u (.cons rfl .nil))
  have S20_32 : JA Tryz.prog ops1 16 (za 16 0x0) Γ1 ([] ++ F0) (aH s l d (aA sg false (lm ((p : Nat) : Int))) (aA sg true [1]) [aHo, aHo]) Q1 := by
    subst ho; subst hF; refine Cb 0 [1, 2, 6, 7, 8, 9, 10, 13, 14, 15] (Gy rfl (hd 98 rfl)) hpan rfl ?_
    refine Bi S20_31 1 (.cons rfl .nil)
  subst ho; subst hF
  exact Bi (m := []) S20_32 0 .nil

theorem Afq {v : Int} {L : Nat} (h : Aq v ≤ L) : (dg v).length ≤ L / 32 + 1 := by
  by_cases h0 : dg v = []
  · rw [h0]; exact Nat.zero_le _
  · have h1 := Na v h0
    have := dg_t v h0
    have h2 := Si v ((dg v).length - 1)
    have := Dy (n := ((dg v).getD ((dg v).length - 1) 0).toNat) (by omega)
    have := List.length_pos_iff.2 h0
    omega
end Go.Proofs.YtnadmljoefecfaaGreatDoor.Vc
