/- Powers and shifts of whole numbers are what the document defines. Texts joined: Za, Ub, Ug, Zb, Zc, Zd, Zf, Uh, Zg, Ui, Uj, Uk, Zz, Ra, Re, Rg, Rh, Ea, Ri, Eb, Ec, Ed, Ee, Ef. -/
import Derived.Test.YteopohdkceelkaaDoorK5
set_option linter.unusedVariables false
set_option linter.unusedSimpArgs false
set_option maxHeartbeats 4000000
namespace Go.Proofs.YteopohdkceelkaaDoor.Vc
open Go Go.RowKit
theorem Wk (l : List Int) (hl : l.length < 1099511627776) (hu : Az l) : Spec Tryd.prog 67 [.n false .u64 l] (fun o => ∃ (r : List Int) (e : Int), o = .ret (.t [.n true .u64 r, .i .i64 e]) ∧ Xq (vl l) r e) := by
  refine An [(0, .n false .u64 l)] rfl Tryd.func67 rfl (zlb rfl) fun Γ hN hds hL hR => ?_
  have hd := Bu 10 hN
  have hm := C2 l
  refine zsr <| zas rfl (hd 2 rfl) <| zas rfl (hd 3 rfl) <| Ab <| zsr <| zmv rfl (hd 4 rfl) ?_
  refine Aj Tryd.f39 (Ej l hl) rfl Tryd.func39 rfl rfl (Aa rfl Ad) (.cons .n .nil) (hd 5 rfl) ?_ (fun ch hp => by simp at hp)
  rintro _ ⟨⟩; refine zas rfl (hd 0 rfl) <| Ab <| Ae <| zsr <| zmv rfl (hd 6 rfl) ?_
  refine Aj Tryd.f40 (Du (trm l) (by omega) (Cb hu)) rfl Tryd.func40 rfl rfl (Aa rfl Ad) (.cons .n .nil) (hd 7 rfl) ?_ (fun ch hp => by simp at hp)
  rintro _ ⟨⟩; refine Ac (B6 rfl rfl) (hd 8 rfl) <| Ab ?_
  refine Bc rfl (fun h1 => ?_) (fun h1 => ?_)
  · refine zsr <| zas rfl (hd 2 rfl) <| zas rfl (hd 3 rfl) <| Ab <| Ak ?_
    refine ⟨_, _, (.cons rfl (.cons rfl .nil)), (.t1 (.nil (fr := true) (k := .u64)) (.t1 .i .t0)), ?_⟩
    exact ⟨[], 3, rfl, Sy hu rfl (by rw [Ju] at *; omega)⟩
  · refine Ai <| zsr <| zmv rfl (hd 9 rfl) <| zas rfl (hd 2 rfl) <| zas rfl (hd 3 rfl) <| Ab <| Ak ?_
    refine ⟨_, _, (.cons rfl (.cons rfl .nil)), (.t1 .n (.t1 .i .t0)), ?_⟩
    exact ⟨_, 0, rfl, W3 hu rfl (by rw [Ju] at *; omega)⟩

theorem O9 (a b : List Int) (hla : a.length < 4294967296) (hlb : b.length < 4294967296) (ua : Az a) (ub : Az b) : Spec Tryd.prog 55 [.n false .u64 a, .n false .u64 b, .f 56 []] (fun o => ∃ (r : List Int) (e : Int), o = .ret (.t [.n true .u64 r, .i .i64 e]) ∧ Xq (vl a * vl b) r e) := by
  refine An [(0, .n false .u64 a), (1, .n false .u64 b), (2, .f 56 [])] rfl Tryd.func55 rfl (zlb rfl) fun Γ hN hds hL hR => ?_
  have hd := Bu 22 hN
  have hma := C2 a
  have hmb := C2 b
  refine zsr <| zas rfl (hd 6 rfl) <| zas rfl (hd 7 rfl) <| Ab <| zsr <| zmv rfl (hd 8 rfl) ?_
  refine Aj Tryd.f39 (Ej a (by omega)) rfl Tryd.func39 rfl rfl (Aa rfl Ad) (.cons .n .nil) (hd 9 rfl) ?_ (fun ch hp => by simp at hp)
  rintro _ ⟨⟩; refine zmv rfl (hd 10 rfl) ?_
  refine Aj Tryd.f39 (Ej b (by omega)) rfl Tryd.func39 rfl rfl (Aa rfl Ad) (.cons .n .nil) (hd 11 rfl) ?_ (fun ch hp => by simp at hp)
  rintro _ ⟨⟩; refine zas rfl (hd 0 rfl) <| zas rfl (hd 1 rfl) <| Ab <| Ae <| zsr <| zmv rfl (hd 12 rfl) <| zmv rfl (hd 13 rfl) ?_
  refine Aj Tryd.f66 (Wy (trm a) (trm b) (by omega) (by omega) (Cb ua) (Cb ub)) rfl Tryd.func66 rfl rfl (Aa rfl (Aa rfl Ad)) (.cons .n (.cons .n .nil)) (hd 14 rfl) ?_ (fun ch hp => by simp at hp)
  rintro y ⟨x, hy, hx⟩; injection hy with hy; subst hy; refine Ab ?_
  refine G0 rfl (fun h1 => ?_) (fun h1 => ?_)
  · refine zsr <| zas rfl (hd 6 rfl) <| zas rfl (hd 7 rfl) <| Ab <| Ak ?_
    refine ⟨_, _, (.cons rfl (.cons rfl .nil)), (.t1 (.nil (fr := true) (k := .u64)) (.t1 .i .t0)), ?_⟩
    refine ⟨[], 3, rfl, ?_⟩
    obtain ⟨g1, g2, g3⟩ := hx (by assumption)
    have := Nr (r := []) (Cb ua) (Cb ub) g1 g2 g3
    rw [E3, E3] at this
    exact W4 this
  · refine Ai <| zsr <| zmv rfl (hd 15 rfl) <| zmv rfl (hd 16 rfl) <| zmv rfl (hd 17 rfl) ?_
    refine Aj Tryd.f56 (Aa3 (trm a) (trm b) (by omega) (by omega) (Cb ua) (Cb ub)) rfl Tryd.func56 rfl rfl (Aa rfl (Aa rfl Ad)) (.cons .n (.cons .n .nil)) (hd 18 rfl) ?_ (fun ch hp => by simp at hp)
    rintro y ⟨rs, hy, us, ls, vs⟩; injection hy with hy; subst hy
    refine Aj Tryd.f67 (Wk rs (by omega) us) rfl Tryd.func67 rfl rfl (Aa rfl Ad) (.cons .n .nil) (hd 19 rfl) ?_ (fun ch hp => by simp at hp)
    rintro y ⟨rf, ef, hy, hf⟩; injection hy with hy; subst hy; refine Ac (Ap rfl rfl) (hd 20 rfl) <| Ac (Ap rfl rfl) (hd 21 rfl) <| zas rfl (hd 6 rfl) <| zas rfl (hd 7 rfl) <| Ab <| Ak ?_
    refine ⟨_, _, (.cons rfl (.cons rfl .nil)), (.t1 .n (.t1 .i .t0)), ?_⟩
    exact ⟨rf, ef, rfl, by rwa [vs, E3, E3] at hf⟩

theorem Xn (a b : List Int) (hla : a.length < 4294967296) (hlb : b.length < 4294967296) (ua : Az a) (ub : Az b) : Spec Tryd.prog 42 [.n false .u64 a, .n false .u64 b] (fun o => ∃ (r : List Int) (e : Int), o = .ret (.t [.n true .u64 r, .i .i64 e]) ∧ Xq (vl a * vl b) r e) := by
  refine An [(0, .n false .u64 a), (1, .n false .u64 b)] rfl Tryd.func42 rfl (zlb rfl) fun Γ hN hds hL hR => ?_
  have hd := Bu 11 hN
  refine zsr <| zas rfl (hd 4 rfl) <| zas rfl (hd 5 rfl) <| Ab <| zsr <| zmv rfl (hd 6 rfl) <| zmv rfl (hd 7 rfl) ?_
  refine Aj Tryd.f55 (O9 a b hla hlb ua ub) rfl Tryd.func55 rfl rfl (Aa rfl (Aa rfl (Aa rfl Ad))) (.cons .n (.cons .n (.cons .f .nil))) (hd 8 rfl) ?_ (fun ch hp => by simp at hp)
  rintro y ⟨rp, ep, hy, hp⟩; injection hy with hy; subst hy; refine Ac (Ap rfl rfl) (hd 9 rfl) <| Ac (Ap rfl rfl) (hd 10 rfl) <| zas rfl (hd 4 rfl) <| zas rfl (hd 5 rfl) <| Ab <| Ak ?_
  refine ⟨_, _, (.cons rfl (.cons rfl .nil)), (.t1 .n (.t1 .i .t0)), ?_⟩
  exact ⟨rp, ep, rfl, hp⟩


theorem Yf (x : Nat) (h0 : 0 < x) (hx : x < 18446744073709551616) : Is Tryd.prog 47 0 tzCells [.i .u64 (x : Int)] (fun o => o = .ret (.i .i64 ((tz x : Nat) : Int))) := by
  refine Ji [(0, .i .u64 (x : Int))] rfl Tryd.func47 rfl (zlb rfl) fun Γ hTb hN hds hL hR => ?_
  have hd := Bu 14 hN
  obtain ⟨hk, hp2⟩ := Ya h0 hx
  have hj := (N8 _ hk).1
  refine zsr <| zas rfl (hd 2 rfl) <| Ab <| Ae <| zsr <| zmv rfl (hd 3 rfl) <| Ac (Be (B7 rfl rfl) (by omega)) (hd 4 rfl) <| Ab <| Aw rfl <| Ai <| Ae ?_; refine Af <| zmv rfl (hd 5 rfl) <| zmv rfl (hd 6 rfl) <| Ac (Gg rfl (r := ((18446744073709551616 - x : Nat) : Int)) (by rw [Df]; omega)) (hd 7 rfl) <| Ac (Bo (Gh (by simp) rfl rfl rfl) (by show V.i .u64 _ = V.i .u64 (((2 ^ tz x : Nat) : Int)); exact congrArg (V.i .u64) (by rw [Xe hx (by omega), Sl h0 hx]))) (hd 8 rfl) <| Ac (Dn rfl rfl (r := ((2 ^ tz x * 285870213051353865 % 18446744073709551616) : Nat)) (by rw [Df]; rfl)) (hd 9 rfl) <| Ac (Bo (D7 rfl rfl (by decide) rfl) (by show V.i .u64 _ = V.i .u64 ((((2 ^ tz x * 285870213051353865 % 18446744073709551616 / 288230376151711744) : Nat) : Int)); exact congrArg (V.i .u64) (Eq (k := 288230376151711744) (by decide)))) (hd 10 rfl) <| Ac (Si (sz := 1) (i := (2 ^ tz x * 285870213051353865 % 18446744073709551616 / 288230376151711744)) hL hTb Aac rfl rfl hj rfl) (hd 11 rfl) <| Ac (Wm Add rfl (Vb hk) rfl) (hd 12 rfl) <| Ac (Dd Aa9 Ma rfl (r := ((tz x : Nat) : Int)) (Ag (by omega) (by omega))) (hd 13 rfl) <| zas rfl (hd 2 rfl) <| Ab <| Ak ?_
  refine ⟨_, _, (.cons rfl .nil), .i, ?_⟩
  exact rfl

theorem Wh (l : List Int) (hl : l.length < 4294967296) (hu : Az l) : Is Tryd.prog 30 0 tzCells [.n false .u64 l] (fun o => o = .ret (.i .i64 ((tz (vl l).toNat : Nat) : Int))) := by
  refine Ji [(0, .n false .u64 l)] rfl Tryd.func30 rfl (zlb rfl) fun Γ hTb hN hds hL hR => ?_
  have hd := Bu 20 hN
  refine zsr <| zas rfl (hd 2 rfl) <| Ab <| Ae <| zsr <| zmv rfl (hd 5 rfl) <| Ac (Al Bj rfl) (hd 6 rfl) <| zmv rfl (hd 7 rfl) <| Ab <| Au ?_
  refine Bv (G := Nat) (fun i => i ≤ l.length ∧ ∀ j < i, l.getD j 0 = 0) (fun i => [(7, .i .i64 (i : Int)), (2, .u), (3, .u), (4, .u), (8, .u), (9, .u), (10, .u), (11, .u), (12, .u), (13, .u), (14, .u), (15, .u), (16, .u), (17, .u), (18, .u), (19, .u)]) (fun _ => _) (fun i => l.length - i) 0 ?_ ?_ rfl ?_
  · exact ⟨Nat.zero_le _, fun j h => absurd h (Nat.not_lt_zero _)⟩
  · exact (.cons rfl (.v9 (.v5 .nil)))
  · rintro i ⟨hi, hj⟩
    have hxi := Bq hu i
    refine zsr <| Ac (Bp rfl rfl) (hd 8 rfl) <| Ab <| Ae ?_
    refine Bc rfl (fun h1 => ?_) (fun h1 => ?_)
    · refine Ai <| Ae <| Au <| zsr <| zmv rfl (hd 9 rfl) <| Ac (Bx (i := i) Bj rfl rfl (by first | rfl | omega) (by omega)) (hd 10 rfl) <| Ac (Bw Bm rfl rfl) (hd 11 rfl) <| zas rfl (hd 3 rfl) <| zas rfl (hd 4 rfl) <| Ab <| Ae <| Af ?_; refine zmv rfl (hd 12 rfl) <| Ac (Dy rfl rfl) (hd 13 rfl) <| Ab ?_
      refine Bc rfl (fun h2 => ?_) (fun h2 => ?_)
      · have hx0 : l.getD i 0 ≠ 0 := h2
        have hil : i < l.length := by omega
        have hkk := Ya (x := (l.getD i 0).toNat) (by omega) (by omega)
        have hTz : Is Tryd.prog 47 0 tzCells [.i .u64 (l.getD i 0)] (fun o => o = .ret (.i .i64 ((tz (l.getD i 0).toNat : Nat) : Int))) := by have h := Yf (l.getD i 0).toNat (by omega) (by omega); rwa [Int.toNat_of_nonneg (by omega)] at h
        refine zsr <| zmv rfl (hd 14 rfl) <| Ac (Dn rfl rfl (r := ((64 * i : Nat) : Int)) (by rw [Ag (by omega) (by omega)]; omega)) (hd 15 rfl) <| zmv rfl (hd 16 rfl) ?_
        refine Sp Tryd.f47 (hTz) hL hTb rfl Tryd.func47 rfl rfl (Aa rfl Ad) (.cons .i .nil) (hd 17 rfl) ?_ (fun ch hp => by simp at hp)
        rintro _ ⟨⟩; refine Ac (Av rfl rfl (r := ((64 * i + tz (l.getD i 0).toNat : Nat) : Int)) (by rw [Ag (by omega) (by omega)]; omega)) (hd 18 rfl) <| zas rfl (hd 2 rfl) <| Ab <| Ak ?_
        refine ⟨_, _, (.cons rfl .nil), .i, ?_⟩
        rw [Mc hu hil hj hx0]
      · have hx0 : l.getD i 0 = 0 := Decidable.not_not.1 h2
        refine Ai <| Af <| Ac (Av rfl rfl (r := ((i + 1 : Nat) : Int)) (by rw [Ag (by omega) (by omega)]; omega)) (hd 19 rfl) <| zmv rfl (hd 7 rfl) <| Ab ?_
        refine ⟨i + 1, ?_, ?_, rfl, Bb 26 rfl rfl ?_⟩
        · exact ⟨by omega, fun j hjj => by rcases Nat.lt_or_ge j i with h9 | h9; exact hj j h9; rw [show j = i by omega]; exact hx0⟩
        · omega
        · exact (.cons rfl (.v9 (.v5 .nil)))
    · obtain rfl : i = l.length := by omega
      refine Br <| zsr <| zas rfl (hd 2 rfl) <| Ab <| Ak ?_
      refine ⟨_, _, (.cons rfl .nil), .i, ?_⟩
      rw [Og hu hj, show (Int.toNat 0) = 0 from rfl, Ac1]; rfl

theorem Xj (x n : Nat) (hx : Aq (x : Int) ≤ 67108864) (hn : n / 64 < (lm (x : Int)).length) : Spec Tryd.prog 31 [.n false .u64 (lm (x : Int)), .i .i64 (n : Int)] (fun o => o = .ret (.t [.n false .u64 (lm ((x / 2 ^ n : Nat) : Int)), .i .i64 0])) := by
  refine An [(0, .n false .u64 (lm (x : Int))), (1, .i .i64 (n : Int))] rfl Tryd.func31 rfl (zlb rfl) fun Γ hN hds hL hR => ?_
  have hd := Bu 77 hN
  have hlx := Cd hx
  have uB : Az ((lm (x : Int)).drop (n / 64)) := I3 (Gz _)
  have hBl : ((lm (x : Int)).drop (n / 64)).length = (lm (x : Int)).length - n / 64 := List.length_drop
  have hs : n % 64 < 64 := Nat.mod_lt _ (by decide)
  have hTr : Spec Tryd.prog 46 [.n false .u64 (lm (x : Int))] (fun o => o = .ret (.n false .u64 (lm (x : Int)))) := by have h := D4 (lm (x : Int)) (by omega); rwa [Ka (Aaz _)] at h
  have hrv := O1 (x := x) (n := n) (by omega)
  have hlq : Aq ((x / 2 ^ n : Nat) : Int) ≤ 67108864 := Nat.le_trans (D9 (by rw [Int.natAbs_natCast, Int.natAbs_natCast]; exact Nat.div_le_self _ _)) hx
  refine zsr <| zas rfl (hd 4 rfl) <| zas rfl (hd 5 rfl) <| Ab <| Ae <| zsr <| zmv rfl (hd 10 rfl) <| Ac (Be (Bp rfl rfl) (by omega)) (hd 11 rfl) <| zmv rfl (hd 12 rfl) <| Ay 12 rfl rfl (At rfl) (hd 13 rfl) <| Ay 12 rfl rfl (Be (B6 rfl rfl) (by omega)) (hd 14 rfl) ?_; refine Ac (Bn rfl rfl) (hd 15 rfl) <| Ab <| Aw rfl <| Ai <| zsr <| zmv rfl (hd 16 rfl) ?_
  refine Aj Tryd.f46 (hTr) rfl Tryd.func46 rfl rfl (Aa rfl Ad) (.cons .n .nil) (hd 17 rfl) ?_ (fun ch hp => by simp at hp)
  rintro _ ⟨⟩; refine zas rfl (hd 0 rfl) <| Ab <| zsr <| zmv rfl (hd 18 rfl) <| Ac (D3 rfl rfl (by decide) (r := ((n / 64 : Nat) : Int)) (by rw [show ((n : Int).tdiv 64) = ((n / 64 : Nat) : Int) from rfl, Ag (by omega) (by omega)])) (hd 19 rfl) <| zmv rfl (hd 20 rfl) <| Ac (Bo (D8 rfl rfl (by decide) rfl) (show V.i .i64 ((n : Int).tmod 64) = V.i .i64 ((n % 64 : Nat) : Int) from rfl)) (hd 21 rfl) <| Ac (Dd Ma N7 rfl (r := ((n % 64 : Nat) : Int)) (A5 (by omega) (by omega))) (hd 22 rfl) <| zas rfl (hd 6 rfl) <| zas rfl (hd 7 rfl) <| Ab <| Ae ?_; refine zsr <| zmv rfl (hd 23 rfl) <| zmv rfl (hd 24 rfl) <| Ac (Al Bj rfl) (hd 25 rfl) <| Ac (Be (Dl rfl rfl) (by omega)) (hd 26 rfl) <| Ab <| Aw rfl <| Ai <| zsr <| zmv rfl (hd 27 rfl) <| Ac (Al Bj rfl) (hd 28 rfl) ?_; refine zmv rfl (hd 29 rfl) <| Ac (Bt rfl rfl (r := ((((lm (x : Int)).drop (n / 64)).length : Nat) : Int)) (by rw [Ag (by omega) (by omega)]; omega)) (hd 30 rfl) <| Bl (Fp (m := ((lm (x : Int)).drop (n / 64)).length) Ns rfl rfl rfl (by show 8 * ((lm (x : Int)).drop (n / 64)).length ≤ _; omega) (by unfold maxLen; omega) rfl) (hd 31 rfl) <| zas rfl (hd 8 rfl) <| Ab <| Ae <| zsr <| zmv rfl (hd 32 rfl) <| Ac (Dc Bj rfl rfl) (hd 33 rfl) <| zmv rfl (hd 34 rfl) <| Ab <| Au ?_
  refine Bv (G := Nat) (fun i => i ≤ ((lm (x : Int)).drop (n / 64)).length) (fun i => [(34, .i .i64 (i : Int)), (9, .u), (35, .u), (36, .u), (37, .u), (38, .u), (39, .u), (40, .u), (41, .u), (42, .u), (43, .u), (44, .u), (45, .u), (46, .u), (47, .u), (48, .u), (49, .u), (50, .u), (51, .u), (52, .u), (53, .u), (54, .u), (55, .u), (56, .u), (57, .u), (58, .u), (59, .u), (60, .u), (61, .u), (62, .u), (63, .u), (64, .u), (65, .u), (66, .u), (67, .u), (68, .u), (69, .u), (70, .u), (71, .u), (72, .u)]) (fun i => [⟨58, 1, 0, true, ints .u64 (Ca (dnN ((lm (x : Int)).drop (n / 64)) (n % 64) i) ((lm (x : Int)).drop (n / 64)).length)⟩]) (fun i => ((lm (x : Int)).drop (n / 64)).length - i) 0 ?_ ?_ rfl ?_
  · exact Nat.zero_le _
  · exact (.cons rfl (.v9 (.v9 (.v9 (.v5 (.u (.u (.u (.u .nil)))))))))
  · rintro i hc1
    have hf : (Ca (dnN ((lm (x : Int)).drop (n / 64)) (n % 64) i) ((lm (x : Int)).drop (n / 64)).length).length = ((lm (x : Int)).drop (n / 64)).length := Ed (by rw [F7]; exact hc1)
    have hx0 := Bq uB i
    have hy0 := Bq uB (i + 1)
    refine zsr <| Ac (Bp rfl rfl) (hd 35 rfl) <| Ab <| Ae ?_
    refine Bc rfl (fun h3 => ?_) (fun h3 => ?_)
    · refine Ai ?_
      refine Ij (G := Unit) (fun _ => True) (fun _ => [(9, .u), (36, .u), (37, .u), (38, .u), (39, .u), (40, .u), (41, .u), (42, .u), (43, .u), (44, .u), (45, .u), (46, .u), (47, .u), (48, .u), (49, .u), (50, .u), (51, .u), (52, .u), (53, .u), (54, .u), (55, .u), (56, .u), (57, .u), (58, .u), (59, .u), (60, .u), (61, .u), (62, .u), (63, .u), (64, .u), (65, .u), (66, .u), (67, .u), (68, .u), (69, .u), (70, .u), (71, .u)]) (fun _ => [⟨58, 1, 0, true, ints .u64 (Ca (dnN ((lm (x : Int)).drop (n / 64)) (n % 64) (i + 1)) ((lm (x : Int)).drop (n / 64)).length)⟩]) ?_ ?_
      · refine Au <| zsr <| zmv rfl (hd 36 rfl) <| zas rfl (hd 9 rfl) <| Ab <| zsr <| zmv rfl (hd 37 rfl) <| zmv rfl (hd 38 rfl) <| zmv rfl (hd 39 rfl) <| zmv rfl (hd 40 rfl) <| zmv rfl (hd 41 rfl) ?_; refine Ac (Av rfl rfl (r := ((n / 64 + i : Nat) : Int)) (by rw [Ag (by omega) (by omega)]; omega)) (hd 42 rfl) <| Ac (Bx (i := n / 64 + i) Bj rfl rfl (by first | rfl | omega) (by omega)) (hd 43 rfl) <| Ac (Bo (Bw Bm rfl rfl) (by show V.i .u64 _ = V.i .u64 (((lm (x : Int)).drop (n / 64)).getD i 0); exact congrArg (V.i .u64) getD_drop'.symm)) (hd 44 rfl) <| zmv rfl (hd 45 rfl) <| Ac (Bo (D7 rfl rfl (by omega) rfl) (show V.i .u64 _ = V.i .u64 (((lm (x : Int)).drop (n / 64)).getD i 0 / 2 ^ (n % 64)) from congrArg (V.i .u64) (On (by omega)))) (hd 46 rfl) <| Ac (Cz (i := i) Bj rfl rfl rfl (by first | rfl | omega) (by omega) rfl) (hd 47 rfl) <| A6 (Bz rfl rfl rfl Bm (by omega)) <| Ab <| zsr <| zmv rfl (hd 48 rfl) <| zmv rfl (hd 49 rfl) <| Ac (Av rfl rfl (r := ((n / 64 + i : Nat) : Int)) (by rw [Ag (by omega) (by omega)]; omega)) (hd 50 rfl) ?_; refine Ac (Av rfl rfl (r := ((n / 64 + i + 1 : Nat) : Int)) (by rw [Ag (by omega) (by omega)]; omega)) (hd 51 rfl) <| zmv rfl (hd 52 rfl) <| Ac (Al Bj rfl) (hd 53 rfl) <| Ac (Bp rfl rfl) (hd 54 rfl) <| Ab ?_
        refine Bc rfl (fun h4 => ?_) (fun h4 => ?_)
        · refine Cf (n := 18) _ rfl Dk <| A4 0 [2, 3, 15, 16, 17] (Am (At rfl) (hd 55 rfl)) rfl <| A4 1 [2, 3, 15, 16, 17] (Am (At rfl) (hd 56 rfl)) rfl <| A4 2 [3, 15, 16, 17] (Am (Cz (i := i) Bj rfl rfl rfl (by first | rfl | omega) (by omega) rfl) (hd 57 rfl)) rfl <| zal 3 (Am (Bo (Fv Bm rfl rfl (by simp only [List.length_set]; omega)) (show V.i .u64 _ = V.i .u64 (((lm (x : Int)).drop (n / 64)).getD i 0 / 2 ^ (n % 64)) from congrArg (V.i .u64) (W7 (by omega)))) (hd 58 rfl)) rfl <| A4 4 [9, 10, 11, 14, 15, 16, 17] (Am (At rfl) (hd 59 rfl)) rfl <| A4 5 [7, 8, 9, 10, 11, 14, 15, 16, 17] (Am (At rfl) (hd 60 rfl)) rfl <| A4 6 [7, 8, 9, 10, 11, 14, 15, 16, 17] (Am (At rfl) (hd 61 rfl)) rfl <| A4 7 [8, 9, 10, 11, 14, 15, 16, 17] (Am (Av rfl rfl (r := ((n / 64 + i : Nat) : Int)) (by rw [Ag (by omega) (by omega)]; omega)) (hd 62 rfl)) rfl <| A4 8 [9, 10, 11, 14, 15, 16, 17] (Am (Av rfl rfl (r := ((n / 64 + i + 1 : Nat) : Int)) (by rw [Ag (by omega) (by omega)]; omega)) (hd 63 rfl)) rfl <| A4 9 [10, 11, 14, 15, 16, 17] (Am (Bx (i := n / 64 + i + 1) Bj rfl rfl (by first | rfl | omega) (by omega)) (hd 64 rfl)) rfl <| A4 10 [11, 14, 15, 16, 17] (Am (Bo (Bw Bm rfl rfl) (by show V.i .u64 _ = V.i .u64 (((lm (x : Int)).drop (n / 64)).getD (i + 1) 0); exact congrArg (V.i .u64) (by rw [getD_drop']; rfl))) (hd 65 rfl)) rfl <| A4 11 [14, 15, 16, 17] (Am (Bo (Ib rfl rfl (by omega) rfl) (show V.i .u64 _ = V.i .u64 (((lm (x : Int)).drop (n / 64)).getD (i + 1) 0 * 2 % 18446744073709551616) from congrArg (V.i .u64) Ac4)) (hd 66 rfl)) rfl ?_; refine A4 12 [13, 14, 15, 16, 17] (Am (At rfl) (hd 67 rfl)) rfl <| A4 13 [14, 15, 16, 17] (Am (Bt rfl rfl (r := ((63 - n % 64 : Nat) : Int)) (by rw [A5 (by omega) (by omega)]; omega)) (hd 68 rfl)) rfl <| zal 14 (Am (Bo (Ib rfl rfl (by omega) rfl) (show V.i .u64 _ = V.i .u64 (loS (((lm (x : Int)).drop (n / 64)).getD (i + 1) 0) (64 - n % 64)) from congrArg (V.i .u64) ((Li (by omega)).trans (Vn hs)))) (hd 69 rfl)) rfl <| zal 15 (Am (Bo (Gh (by simp) rfl rfl rfl) (show V.i .u64 _ = V.i .u64 (dnD ((lm (x : Int)).drop (n / 64)) (n % 64) i) from congrArg (V.i .u64) (Z2 (Nat.le_of_lt hs) hx0.1 hx0.2 hy0.1).1)) (hd 70 rfl)) rfl <| zal 16 (Am (Cz (i := i) Bj rfl rfl rfl (by first | rfl | omega) (by omega) rfl) (hd 71 rfl)) rfl ?_
          refine A0 17 ?_ rfl (by kernel_rfl)
          refine Bf (Bz rfl rfl rfl Bm (by simp only [List.length_set]; omega)) rfl <| Bg (by kernel_rfl) ?_
          refine ⟨(), ?_, (by show [(⟨58, 1, 0, true, ints .u64 _⟩ : Ob)] = [⟨58, 1, 0, true, ints .u64 _⟩]; first | rw [← M6 (show ((lm (x : Int)).drop (n / 64)).length ≤ i + 1 by omega), Jy (by omega)] | rw [List.set_set, Jy (by omega)]), Bb 37 rfl rfl ?_⟩
          · trivial
          · exact (.v9 (.v9 (.v9 (.v5 (.u (.u .nil))))))
        · refine Ai ?_
          refine ⟨(), ?_, (by show [(⟨58, 1, 0, true, ints .u64 _⟩ : Ob)] = [⟨58, 1, 0, true, ints .u64 _⟩]; first | rw [← M6 (show ((lm (x : Int)).drop (n / 64)).length ≤ i + 1 by omega), Jy (by omega)] | rw [List.set_set, Jy (by omega)]), Bb 20 rfl rfl ?_⟩
          · trivial
          · exact (.v9 (.v9 (.v9 (.v5 (.u (.u .nil))))))
      · rintro _ _; refine Af <| Ac (Av rfl rfl (r := ((i + 1 : Nat) : Int)) (by rw [Ag (by omega) (by omega)]; omega)) (hd 72 rfl) <| zmv rfl (hd 34 rfl) <| Ab ?_
        refine ⟨i + 1, ?_, ?_, rfl, Bb 80 rfl rfl ?_⟩
        · omega
        · omega
        · exact (.cons rfl (.v9 (.v9 (.v9 (.v5 (.u (.u (.u (.u .nil)))))))))
    · obtain rfl : i = ((lm (x : Int)).drop (n / 64)).length := by omega
      refine Br <| Ae <| I8 (k := .u64) (l := Ca (dnN ((lm (x : Int)).drop (n / 64)) (n % 64) ((lm (x : Int)).drop (n / 64)).length) ((lm (x : Int)).drop (n / 64)).length) (l' := dnN ((lm (x : Int)).drop (n / 64)) (n % 64) ((lm (x : Int)).drop (n / 64)).length) 8 rfl rfl (by omega) (by rw [List.drop_zero, List.take_of_length_le (by omega), Dh (F7 _ _ _)]) hL <| Af <| zmv rfl (hd 73 rfl) ?_
      refine Aj Tryd.f48 (Le (dnN ((lm (x : Int)).drop (n / 64)) (n % 64) ((lm (x : Int)).drop (n / 64)).length) (by rw [F7]; omega) (Qm (Nat.le_of_lt hs) uB _) (by rw [Ju, Gi (Qm (Nat.le_of_lt hs) uB _) hrv]; exact hlq)) rfl Tryd.func48 rfl rfl (Aa rfl Ad) (.cons .n .nil) (hd 74 rfl) ?_ (fun ch hp => by simp at hp)
      rintro _ ⟨⟩; refine Ac (Ap rfl rfl) (hd 75 rfl) <| Ac (Ap rfl rfl) (hd 76 rfl) <| zas rfl (hd 4 rfl) <| zas rfl (hd 5 rfl) <| Ab <| Ak ?_
      refine ⟨_, _, (.cons rfl (.cons rfl .nil)), (.t1 .n (.t1 .i .t0)), ?_⟩
      rw [El (Qm (Nat.le_of_lt hs) uB _) hrv]











theorem short1b {H : Type} {d0 : DataW H} {r : List (DataW H)} {l0 : List Int} (hk : Rows.uptoSmall H (d0 :: r) = true) (h0 : l0.length + 2 ≤ Rows.uptoBulk d0) : l0.length ≤ 1048574 := by
  have h : Rows.uptoBulkAll (d0 :: r) ≤ 1048576 := of_decide_eq_true hk
  simp only [Rows.uptoBulkAll] at h
  omega

theorem dgN {x : Nat} : dg (x : Int) = Ar B32 x := by unfold dg; rw [Int.natAbs_natCast]
theorem Wp {x : Nat} : G9 (Ar B32 x) = lm (x : Int) := by unfold lm; rw [Int.natAbs_natCast]; exact Kv x

def eu (v : Int) (w : Nat) : Nat → Int × Nat
  | 0 => (v, w)
  | k + 1 => (((eu v w k).2 : Int), ((eu v w k).1 % ((eu v w k).2 : Int)).toNat)
def eqt (v : Int) (w k : Nat) : Int := (eu v w k).1 / ((eu v w k).2 : Int)
def Acz (q : Int) : List V := [.b (decide (q < 0)), .n false .u64 (lm q)]
def cfR (v : Int) (w k : Nat) : List (List V) := (List.range k).map fun i => Acz (eqt v w i)
structure Chn (v : Int) (w n : Nat) : Prop where
  n0 : n ≠ 0
  z : (eu v w n).2 = 0
  lt : ∀ k, k < n → (eu v w k).2 ≠ 0
  g : Int.gcd v (w : Int) = 1
variable {v : Int} {w n k : Nat}
theorem Sw : (eu v w (k + 1)).1 = ((eu v w k).2 : Int) := rfl
theorem W2 (h : (eu v w k).2 ≠ 0) : ((eu v w (k + 1)).2 : Int) = (eu v w k).1 % ((eu v w k).2 : Int) := Int.toNat_of_nonneg (Int.emod_nonneg _ (by omega))
theorem Ql (h : (eu v w k).2 ≠ 0) : (eu v w (k + 1)).2 < (eu v w k).2 := by
  have h1 := W2 h
  have h2 := Int.emod_lt_of_pos (eu v w k).1 (b := ((eu v w k).2 : Int)) (by omega)
  omega
theorem Chn.gcd (h : Chn v w n) : ∀ k, k ≤ n → Int.gcd (eu v w k).1 ((eu v w k).2 : Int) = 1 := by
  intro k
  induction k with
  | zero => intro _; exact h.g
  | succ k ih =>
    intro hk
    have h1 := ih (by omega)
    rw [Sw, W2 (h.lt k (by omega)), Int.gcd_comm, ← h1]
    have e := Int.mul_ediv_add_emod (eu v w k).1 ((eu v w k).2 : Int)
    generalize (eu v w k).1 / ((eu v w k).2 : Int) = q at e
    rw [← e, Int.add_comm, Int.gcd_add_mul_left_left, Int.add_comm, e]
theorem Chn.fall (h : Chn v w n) (hk : k + 1 < n) : ((eu v w (k + 1)).2 : Int) < (eu v w (k + 1)).1 := by
  have := Ql (h.lt k (by omega))
  rw [Sw]
  omega
theorem Chn.pos (h : Chn v w n) (hk : k + 1 < n) : 0 < eqt v w (k + 1) := by
  have h1 := h.fall hk
  have h2 := h.lt (k + 1) hk
  unfold eqt
  exact Int.le_ediv_of_mul_le (by omega) (by omega)
theorem Chn.one (h : Chn v w n) (hk : k + 1 = n) : (eu v w k).2 = 1 := by
  have h1 := h.gcd n (Nat.le_refl _)
  subst hk
  rw [h.z] at h1
  have h2 : Int.gcd ((eu v w k).2 : Int) ((0 : Nat) : Int) = 1 := h1
  rwa [show ((0 : Nat) : Int) = 0 from rfl, Int.gcd_zero_right, Int.natAbs_natCast] at h2
theorem Chn.last (h : Chn v w n) (hk : k + 2 = n) : 1 < eqt v w (k + 1) := by
  have h1 := h.fall (k := k) (by omega)
  have h2 := h.one (k := k + 1) (by omega)
  unfold eqt
  rw [h2] at h1 ⊢
  rw [show ((1 : Nat) : Int) = 1 from rfl, Int.ediv_one]
  omega
theorem Chn.half (h : Chn v w n) : ∀ k, k + 1 < n → 2 ^ k * ((eu v w (k + 1)).1.toNat * (eu v w (k + 1)).2) ≤ w * w := by
  intro k
  induction k with
  | zero =>
    intro hk
    have := Ql (h.lt 0 (by omega))
    rw [Nat.pow_zero, Nat.one_mul, Sw, Int.toNat_natCast]
    exact Nat.mul_le_mul (Nat.le_refl _) (Nat.le_of_lt this)
  | succ k ih =>
    intro hk
    refine Nat.le_trans ?_ (ih (by omega))
    have hf := h.fall (k := k) (by omega)
    have hb := h.lt (k + 1) (by omega)
    have hs := W2 hb
    rw [Sw (k := k + 1), Int.toNat_natCast]
    generalize (eu v w (k + 1 + 1)).2 = r at *
    generalize (eu v w (k + 1)).1 = a at *
    generalize (eu v w (k + 1)).2 = b at *
    have hq : 1 ≤ a / (b : Int) := Int.le_ediv_of_mul_le (by omega) (by omega)
    have hd := Int.mul_ediv_add_emod a (b : Int)
    have hm : (b : Int) * 1 ≤ (b : Int) * (a / (b : Int)) := Int.mul_le_mul_of_nonneg_left hq (by omega)
    have hr := Int.emod_lt_of_pos a (b := (b : Int)) (by omega)
    have h2 : 2 * r ≤ a.toNat := by omega
    rw [Nat.pow_succ, Nat.mul_assoc]
    refine Nat.mul_le_mul_left _ ?_
    calc 2 * (b * r) = 2 * r * b := by rw [Nat.mul_comm b r, Nat.mul_assoc]
      _ ≤ a.toNat * b := Nat.mul_le_mul_right _ h2
theorem Chn.len (h : Chn v w n) (hw : Aq (w : Int) ≤ 1048600) : n ≤ 2097300 := by
  rcases Nat.lt_or_ge n 3 with h3 | h3
  · omega
  · obtain ⟨m, rfl⟩ : ∃ m, n = m + 2 := ⟨n - 2, by omega⟩
    have h1 := h.half m (by omega)
    have hb := h.lt (m + 1) (by omega)
    have hf := h.fall (k := m) (by omega)
    have hp : 1 ≤ (eu v w (m + 1)).1.toNat * (eu v w (m + 1)).2 := Nat.mul_pos (by omega) (by omega)
    have h2 : 2 ^ m ≤ w * w := Nat.le_trans (by rw [Nat.mul_one]; exact Nat.le_refl _) (Nat.le_trans (Nat.mul_le_mul_left (2 ^ m) hp) h1)
    obtain ⟨K, hK⟩ : ∃ K, K = 1048600 := ⟨_, rfl⟩
    rw [← hK] at hw
    have h4 : w < 2 ^ K := by have := B4.1 hw; rwa [Int.natAbs_natCast] at this
    have h5 : w * w < 2 ^ (K + K) := by
      rw [Nat.pow_add]
      exact Nat.mul_lt_mul'' h4 h4
    have h6 : m < K + K := (Nat.pow_lt_pow_iff_right (by decide : 1 < 2)).1 (Nat.lt_of_le_of_lt h2 h5)
    omega
theorem Uv {a : Int} {b : Nat} (hb : b ≠ 0) : wq 1 a (b : Int) = a / (b : Int) ∧ a - wq 1 a (b : Int) * (b : Int) = a % (b : Int) := by
  have h1 := (Su (v := a) (w := (b : Int)) (by omega))
  have h2 : 0 ≤ frs a (b : Int) ∧ frs a (b : Int) < (b : Int) := by
    obtain ⟨hx, h0, h1, h2⟩ := Mo (v := a) (w := (b : Int)) (by omega)
    rw [Int.natAbs_natCast] at h1
    unfold frs sgd
    rw [decide_eq_false (by omega)]
    simp only [Bool.false_eq_true, if_false, Int.natAbs_natCast]
    split <;> omega
  have h3 : wq 1 a (b : Int) = flo a (b : Int) := rfl
  have h5 : a / (b : Int) = flo a (b : Int) := by
    have hp : (0 : Int) < (b : Int) := by omega
    refine Int.le_antisymm ?_ ?_
    · refine Int.lt_add_one_iff.1 (Int.ediv_lt_of_lt_mul hp ?_)
      rw [Int.add_mul, Int.one_mul]; omega
    · exact Int.le_ediv_of_mul_le hp (by omega)
  refine ⟨by rw [h3, h5], ?_⟩
  have := Int.mul_ediv_add_emod a (b : Int)
  rw [h3, ← h5]
  rw [Int.mul_comm] at this
  omega
end Go.Proofs.YteopohdkceelkaaDoor.Vc

namespace Go.Proofs.YteopohdkceelkaaDoor.Vc
open Go Go.RowKit
theorem CoE.same {v w g x g2 s : Int} (h : CoE v w g x) (h2 : CoE v (w.natAbs : Int) g2 s) : g2 = g := by
  rw [h.gcd, h2.gcd, Int.natAbs_natCast]

def upW (w : Nat) (a : List Int) (s i : Nat) : List Int := List.replicate w 0 ++ upR a s i
theorem U0 {w : Nat} {a : List Int} {s i : Nat} (h : i ≤ a.length) : (upW w a s i).length = w + a.length + 1 := by
  unfold upW
  rw [List.length_append, List.length_replicate, U3 h]
  omega
theorem Aa6 {w : Nat} {a : List Int} {s : Nat} : List.replicate (w + a.length + 1) (0 : Int) = upW w a s 0 := by
  unfold upW
  rw [← Aa7, List.replicate_append_replicate]
  rfl
theorem Tj {w : Nat} {a : List Int} {s i j : Nat} : (upW w a s i).getD (w + j) 0 = (upR a s i).getD j 0 := by
  unfold upW
  rw [List.getD_eq_getElem?_getD, List.getD_eq_getElem?_getD, List.getElem?_append_right (by rw [List.length_replicate]; omega), List.length_replicate, Nat.add_sub_cancel_left]
theorem U1 {w : Nat} {a : List Int} {s i : Nat} : (upW w a s i).getD ((0 + (w + i)) * 1) 0 = (upN a s i).2 := by
  rw [Nat.mul_one, Nat.zero_add, Tj]
  have h := @U4 a s i
  rwa [Nat.mul_one, Nat.zero_add] at h
theorem Rq {a : List Int} {s i : Nat} (h : i < a.length) : (upR a s i).getD (i + 1) 0 = 0 := by
  unfold upR Ca
  rw [List.getD_eq_getElem?_getD, List.getElem?_append_right (by simp [Ek])]
  simp only [List.length_append, Ek, List.length_singleton, List.getElem?_replicate]
  split <;> rfl
theorem Rp {w : Nat} {a : List Int} {s i : Nat} {z : Int} (h : i < a.length) : ((upW w a s i).set ((0 + (w + i)) * 1) z).getD ((0 + (w + i + 1)) * 1) 0 = 0 := by
  rw [Nat.mul_one, Nat.zero_add, Nat.mul_one, Nat.zero_add, List.getD_eq_getElem?_getD, List.getElem?_set_ne (by omega), ← List.getD_eq_getElem?_getD, Nat.add_assoc, Tj, Rq h]
theorem Uz {w : Nat} {a : List Int} {s i : Nat} (h : i < a.length) : ((upW w a s i).set ((0 + (w + i)) * 1) ((upN a s i).2 + loS (a.getD i 0) s)).set ((0 + (w + i + 1)) * 1) (hiS (a.getD i 0) s) = upW w a s (i + 1) := by
  have h1 := U2 (s := s) h
  simp only [Nat.mul_one, Nat.zero_add] at h1 ⊢
  unfold upW
  have hst : ∀ (l : List Int) (j : Nat) (z : Int), (List.replicate w 0 ++ l).set (w + j) z = List.replicate w 0 ++ l.set j z := fun l j z => by
    rw [List.set_append, if_neg (by rw [List.length_replicate]; omega), List.length_replicate, Nat.add_sub_cancel_left]
  rw [hst, Nat.add_assoc, hst, h1]
theorem Tf (l : List Int) : ∀ w, vl (List.replicate w 0 ++ l) = 2 ^ (64 * w) * vl l
  | 0 => by simp
  | w + 1 => by
    rw [List.replicate_succ, List.cons_append]
    show (0 : Int) + Bs * vl (List.replicate w 0 ++ l) = _
    rw [Tf l w, Int.zero_add, ← Int.mul_assoc, show 64 * (w + 1) = 64 + 64 * w by omega, Int.pow_add]
    rfl
theorem Aa5 {w : Nat} {a : List Int} {s : Nat} (hs : s < 64) (ha : Az a) : Az (upW w a s a.length) := by
  unfold upW
  rw [N4]
  intro x hx
  rcases List.mem_append.1 hx with hx | hx
  · rw [List.eq_of_mem_replicate hx]; decide
  · exact Aa8 hs ha x hx
theorem Uy {w : Nat} {a : List Int} {s : Nat} (hs : s ≤ 64) : vl (upW w a s a.length) = vl a * 2 ^ (64 * w + s) := by
  unfold upW
  rw [N4, Tf, U6 hs, Int.pow_add, ← Int.mul_assoc, ← Int.mul_assoc, Int.mul_comm (2 ^ (64 * w))]
theorem X5 {a : List Int} {x n : Nat} (ha : Az a) (hv : vl a = (x : Int)) : trm (upW (n / 64) a (n % 64) a.length) = lm ((x * 2 ^ n : Nat) : Int) := by
  have hs : n % 64 < 64 := Nat.mod_lt _ (by decide)
  refine El (Aa5 hs ha) ?_
  rw [Uy (Nat.le_of_lt hs), hv, show 64 * (n / 64) + n % 64 = n by omega, Int.natCast_mul, Int.natCast_pow]
  rfl

theorem Aar (x n : Nat) (hx : Aq (x : Int) ≤ 67108864) (h0 : x ≠ 0) (hf : Aq (x : Int) + n ≤ 67108864) : Spec Tryd.prog 29 [.n false .u64 (lm (x : Int)), .i .i64 (n : Int)] (fun o => o = .ret (.t [.n false .u64 (lm ((x * 2 ^ n : Nat) : Int)), .i .i64 0])) := by
  refine An [(0, .n false .u64 (lm (x : Int))), (1, .i .i64 (n : Int))] rfl Tryd.func29 rfl (zlb rfl) fun Γ hN hds hL hR => ?_
  have hd := Bu 73 hN
  have hlx := Cd hx
  have hTr : Spec Tryd.prog 46 [.n false .u64 (lm (x : Int))] (fun o => o = .ret (.n false .u64 (lm (x : Int)))) := by have h := D4 (lm (x : Int)) (by omega); rwa [Ka (Aaz _)] at h
  have hne := List.length_pos_iff.2 (Ku (show (x : Int) ≠ 0 by omega))
  have hux := Gz (x : Int)
  have hs : n % 64 < 64 := Nat.mod_lt _ (by decide)
  refine zsr <| zas rfl (hd 4 rfl) <| zas rfl (hd 5 rfl) <| Ab <| Ae <| zsr <| zmv rfl (hd 11 rfl) <| Ac (Be (Bp rfl rfl) (by omega)) (hd 12 rfl) <| zmv rfl (hd 13 rfl) <| Ay 13 rfl rfl (At rfl) (hd 14 rfl) <| Ay 13 rfl rfl (Be (B6 rfl rfl) (by omega)) (hd 15 rfl) ?_; refine Ac (Bn rfl rfl) (hd 16 rfl) <| Ab <| Aw rfl <| Ai <| zsr <| zmv rfl (hd 17 rfl) ?_
  refine Aj Tryd.f46 (hTr) rfl Tryd.func46 rfl rfl (Aa rfl Ad) (.cons .n .nil) (hd 18 rfl) ?_ (fun ch hp => by simp at hp)
  rintro _ ⟨⟩; refine zas rfl (hd 0 rfl) <| Ab <| Ae <| zsr <| zmv rfl (hd 19 rfl) <| Ac (Al Bj rfl) (hd 20 rfl) <| Ac (Be (B7 rfl rfl) (by omega)) (hd 21 rfl) <| Ab <| Aw rfl <| Ai <| Ae <| Ae ?_; refine Af <| zmv rfl (hd 22 rfl) ?_
  refine Aj Tryd.f40 (Fn (x : Int) (by omega)) rfl Tryd.func40 rfl rfl (Aa rfl Ad) (.cons .n .nil) (hd 23 rfl) ?_ (fun ch hp => by simp at hp)
  rintro _ ⟨⟩; refine zmv rfl (hd 24 rfl) <| Ac (Av rfl rfl (r := ((Aq (x : Int) + n : Nat) : Int)) (by rw [Ag (by omega) (by omega)]; omega)) (hd 25 rfl) <| Ac (Be (B6 rfl rfl) (by omega)) (hd 26 rfl) <| Ab <| Aw rfl <| Ai <| zsr <| zmv rfl (hd 27 rfl) <| Ac (D3 rfl rfl (by decide) (r := ((n / 64 : Nat) : Int)) (by rw [show ((n : Int).tdiv 64) = ((n / 64 : Nat) : Int) from rfl, Ag (by omega) (by omega)])) (hd 28 rfl) <| zmv rfl (hd 29 rfl) <| Ac (Bo (D8 rfl rfl (by decide) rfl) (show V.i .i64 ((n : Int).tmod 64) = V.i .i64 ((n % 64 : Nat) : Int) from rfl)) (hd 30 rfl) <| Ac (Dd Ma N7 rfl (r := ((n % 64 : Nat) : Int)) (A5 (by omega) (by omega))) (hd 31 rfl) ?_; refine zas rfl (hd 6 rfl) <| zas rfl (hd 7 rfl) <| Ab <| zsr <| zmv rfl (hd 32 rfl) <| zmv rfl (hd 33 rfl) <| Ac (Al Bj rfl) (hd 34 rfl) <| Ac (Av rfl rfl (r := ((n / 64 + (lm (x : Int)).length : Nat) : Int)) (by rw [Ag (by omega) (by omega)]; omega)) (hd 35 rfl) <| Ac (Av rfl rfl (r := ((n / 64 + (lm (x : Int)).length + 1 : Nat) : Int)) (by rw [Ag (by omega) (by omega)]; omega)) (hd 36 rfl) <| Bl (Fp (m := n / 64 + (lm (x : Int)).length + 1) Ns rfl rfl rfl (by show 8 * (n / 64 + (lm (x : Int)).length + 1) ≤ _; omega) (by unfold maxLen; omega) rfl) (hd 37 rfl) <| zas rfl (hd 8 rfl) <| Ab ?_; refine Ae <| Ae <| Hr (H' := [⟨58, 1, 0, true, ints .u64 (upW (n / 64) (lm (x : Int)) (n % 64) 0)⟩]) (by rw [← Aa6]; rfl) <| Af <| zmv rfl (hd 38 rfl) <| Ac (Al Bj rfl) (hd 39 rfl) <| zmv rfl (hd 40 rfl) <| Ab <| Au ?_
  refine Bv (G := Nat) (fun i => i ≤ (lm (x : Int)).length) (fun i => [(40, .i .i64 (i : Int)), (9, .u), (10, .u), (41, .u), (42, .u), (43, .u), (44, .u), (45, .u), (46, .u), (47, .u), (48, .u), (49, .u), (50, .u), (51, .u), (52, .u), (53, .u), (54, .u), (55, .u), (56, .u), (57, .u), (58, .u), (59, .u), (60, .u), (61, .u), (62, .u), (63, .u), (64, .u), (65, .u), (66, .u), (67, .u), (68, .u), (69, .u), (70, .u)]) (fun i => [⟨58, 1, 0, true, ints .u64 (upW (n / 64) (lm (x : Int)) (n % 64) i)⟩]) (fun i => (lm (x : Int)).length - i) 0 ?_ ?_ rfl ?_
  · exact Nat.zero_le _
  · exact (.cons rfl (.v9 (.v9 (.v9 (.u (.u .nil))))))
  · rintro i hc1
    have hf := U0 (w := n / 64) (s := n % 64) hc1
    have hc := U5 (Nat.le_of_lt hs) hux i
    have hx9 := Bq hux i
    have hh := Qa (x := ((lm (x : Int)).getD i 0)) (Nat.le_of_lt hs) hx9.1 hx9.2
    have hp2 := Acf hs
    refine zsr <| Ac (Bp rfl rfl) (hd 41 rfl) <| Ab <| Ae ?_
    refine Bc rfl (fun h4 => ?_) (fun h4 => ?_)
    · refine Ai <| Ae <| Au <| zsr <| zmv rfl (hd 42 rfl) <| Ac (Bx (i := i) Bj rfl rfl (by first | rfl | omega) (by omega)) (hd 43 rfl) <| Ac (Bw Bm rfl rfl) (hd 44 rfl) <| zas rfl (hd 9 rfl) <| zas rfl (hd 10 rfl) <| Ab <| Ae <| Af ?_; refine zmv rfl (hd 45 rfl) <| zmv rfl (hd 46 rfl) <| zmv rfl (hd 47 rfl) <| Ac (Av rfl rfl (r := ((n / 64 + i : Nat) : Int)) (by rw [Ag (by omega) (by omega)]; omega)) (hd 48 rfl) <| Ac (Cz (i := n / 64 + i) Bj rfl rfl rfl (by first | rfl | omega) (by omega) rfl) (hd 49 rfl) <| Ac (Bo (Fv Bm rfl rfl (by omega)) (show V.i .u64 _ = V.i .u64 ((upN (lm (x : Int)) (n % 64) i).2) from congrArg (V.i .u64) U1)) (hd 50 rfl) <| zmv rfl (hd 51 rfl) <| zmv rfl (hd 52 rfl) <| Ac (Bo (Ib rfl rfl (by omega) rfl) (show V.i .u64 _ = V.i .u64 (loS ((lm (x : Int)).getD i 0) (n % 64)) from congrArg (V.i .u64) (Li (by omega)))) (hd 53 rfl) <| Ac (Bo (Gh (by simp) rfl rfl rfl) (show V.i .u64 _ = V.i .u64 ((upN (lm (x : Int)) (n % 64) i).2 + loS ((lm (x : Int)).getD i 0) (n % 64)) from congrArg (V.i .u64) (Sf (by omega) hc.1 hc.2 hx9.1).1)) (hd 54 rfl) <| Ac (Cz (i := n / 64 + i) Bj rfl rfl rfl (by first | rfl | omega) (by omega) rfl) (hd 55 rfl) <| A6 (Bz rfl rfl rfl Bm (by omega)) <| Ab ?_; refine Af <| zmv rfl (hd 56 rfl) <| zmv rfl (hd 57 rfl) <| zmv rfl (hd 58 rfl) <| Ac (Av rfl rfl (r := ((n / 64 + i : Nat) : Int)) (by rw [Ag (by omega) (by omega)]; omega)) (hd 59 rfl) <| Ac (Av rfl rfl (r := ((n / 64 + i + 1 : Nat) : Int)) (by rw [Ag (by omega) (by omega)]; omega)) (hd 60 rfl) <| Ac (Cz (i := n / 64 + i + 1) Bj rfl rfl rfl (by first | rfl | omega) (by omega) rfl) (hd 61 rfl) <| Ac (Bo (Fv Bm rfl rfl (by rw [List.length_set]; omega)) (show V.i .u64 _ = V.i .u64 (0) from congrArg (V.i .u64) (Rp (by omega)))) (hd 62 rfl) <| zmv rfl (hd 63 rfl) <| Ac (Bo (D7 rfl rfl (by omega) rfl) (show V.i .u64 _ = V.i .u64 (((lm (x : Int)).getD i 0) / 2) from congrArg (V.i .u64) (Ac3 hx9.1))) (hd 64 rfl) <| zmv rfl (hd 65 rfl) <| Ac (Bt rfl rfl (r := ((63 - n % 64 : Nat) : Int)) (by rw [A5 (by omega) (by omega)]; omega)) (hd 66 rfl) <| Ac (Bo (D7 rfl rfl (by omega) rfl) (show V.i .u64 _ = V.i .u64 (hiS ((lm (x : Int)).getD i 0) (n % 64)) from congrArg (V.i .u64) ((On (by omega)).trans (Vl hs)))) (hd 67 rfl) ?_; refine Ac (Bo (Gh (by simp) rfl rfl rfl) (show V.i .u64 _ = V.i .u64 (hiS ((lm (x : Int)).getD i 0) (n % 64)) from congrArg (V.i .u64) (Adc hh.1 (by omega)))) (hd 68 rfl) <| Ac (Cz (i := n / 64 + i + 1) Bj rfl rfl rfl (by first | rfl | omega) (by omega) rfl) (hd 69 rfl) <| A6 (Bz rfl rfl rfl Bm (by rw [List.length_set]; omega)) <| Ab <| Af <| Ac (Av rfl rfl (r := ((i + 1 : Nat) : Int)) (by rw [Ag (by omega) (by omega)]; omega)) (hd 70 rfl) <| zmv rfl (hd 40 rfl) <| Ab ?_
      refine ⟨i + 1, ?_, ?_, (by show [(⟨58, 1, 0, true, ints .u64 _⟩ : Ob)] = [⟨58, 1, 0, true, ints .u64 _⟩]; rw [Uz (by omega)]), Bb 66 rfl rfl ?_⟩
      · omega
      · omega
      · exact (.cons rfl (.v9 (.v9 (.v9 (.u (.u .nil))))))
    · obtain rfl : i = (lm (x : Int)).length := by omega
      refine Br <| Ae <| I8 (k := .u64) (l := (upW (n / 64) (lm (x : Int)) (n % 64) (lm (x : Int)).length)) (l' := (upW (n / 64) (lm (x : Int)) (n % 64) (lm (x : Int)).length)) 8 rfl rfl (by omega) (by rw [List.drop_zero, List.take_of_length_le (by omega)]) hL <| Af <| zmv rfl (hd 71 rfl) ?_
      refine Aj Tryd.f46 (D4 (upW (n / 64) (lm (x : Int)) (n % 64) (lm (x : Int)).length) (by omega)) rfl Tryd.func46 rfl rfl (Aa rfl Ad) (.cons .n .nil) (hd 72 rfl) ?_ (fun ch hp => by simp at hp)
      rintro _ ⟨⟩; refine zas rfl (hd 4 rfl) <| zas rfl (hd 5 rfl) <| Ab <| Ak ?_
      refine ⟨_, _, (.cons rfl (.cons rfl .nil)), (.t1 .nn (.t1 .i .t0)), ?_⟩
      rw [X5 (Gz _) (Jg (Int.natCast_nonneg _))]

theorem Td (x n : Nat) (hx : Aq (x : Int) ≤ 67108864) (h0 : x ≠ 0) (hn : n ≤ 1099511627776) (hf : 67108864 < Aq (x : Int) + n) : Spec Tryd.prog 29 [.n false .u64 (lm (x : Int)), .i .i64 (n : Int)] (fun o => o = .ret (.t [.n false .u64 [], .i .i64 3])) := by
  refine An [(0, .n false .u64 (lm (x : Int))), (1, .i .i64 (n : Int))] rfl Tryd.func29 rfl (zlb rfl) fun Γ hN hds hL hR => ?_
  have hd := Bu 73 hN
  have hlx := Cd hx
  have hTr : Spec Tryd.prog 46 [.n false .u64 (lm (x : Int))] (fun o => o = .ret (.n false .u64 (lm (x : Int)))) := by have h := D4 (lm (x : Int)) (by omega); rwa [Ka (Aaz _)] at h
  have hne := List.length_pos_iff.2 (Ku (show (x : Int) ≠ 0 by omega))
  refine zsr <| zas rfl (hd 4 rfl) <| zas rfl (hd 5 rfl) <| Ab <| Ae <| zsr <| zmv rfl (hd 11 rfl) <| Ac (Be (Bp rfl rfl) (by omega)) (hd 12 rfl) <| zmv rfl (hd 13 rfl) <| Ay 13 rfl rfl (At rfl) (hd 14 rfl) <| Ay 13 rfl rfl (Be (B6 rfl rfl) (by omega)) (hd 15 rfl) ?_; refine Ac (Bn rfl rfl) (hd 16 rfl) <| Ab <| Aw rfl <| Ai <| zsr <| zmv rfl (hd 17 rfl) ?_
  refine Aj Tryd.f46 (hTr) rfl Tryd.func46 rfl rfl (Aa rfl Ad) (.cons .n .nil) (hd 18 rfl) ?_ (fun ch hp => by simp at hp)
  rintro _ ⟨⟩; refine zas rfl (hd 0 rfl) <| Ab <| Ae <| zsr <| zmv rfl (hd 19 rfl) <| Ac (Al Bj rfl) (hd 20 rfl) <| Ac (Be (B7 rfl rfl) (by omega)) (hd 21 rfl) <| Ab <| Aw rfl <| Ai <| Ae <| Ae ?_; refine Af <| zmv rfl (hd 22 rfl) ?_
  refine Aj Tryd.f40 (Fn (x : Int) (by omega)) rfl Tryd.func40 rfl rfl (Aa rfl Ad) (.cons .n .nil) (hd 23 rfl) ?_ (fun ch hp => by simp at hp)
  rintro _ ⟨⟩; refine zmv rfl (hd 24 rfl) <| Ac (Av rfl rfl (r := ((Aq (x : Int) + n : Nat) : Int)) (by rw [Ag (by omega) (by omega)]; omega)) (hd 25 rfl) <| Ac (B8 (B6 rfl rfl) (by omega)) (hd 26 rfl) <| Ab <| B5 rfl <| zsr <| zas rfl (hd 4 rfl) <| zas rfl (hd 5 rfl) <| Ab <| Ak ?_
  refine ⟨_, _, (.cons rfl (.cons rfl .nil)), (.t1 (.nil (fr := false) (k := .u64)) (.t1 .i .t0)), ?_⟩
  exact rfl

theorem J2 {v : Int} {L : Nat} (h : Aq v ≤ L) : (dg v).length ≤ L / 32 + 1 := by
  by_cases h0 : dg v = []
  · rw [h0]; exact Nat.zero_le _
  · have h1 := Jv v h0
    have := Abv v h0
    have h2 := M7 v ((dg v).length - 1)
    have := Dx (n := ((dg v).getD ((dg v).length - 1) 0).toNat) (by omega)
    have := List.length_pos_iff.2 h0
    omega
theorem Aal {v : Nat} : ∀ n : Nat, Aq (PW v n) ≤ Aq (v : Int) * n + 1
  | 0 => by rw [Un, Nat.mul_zero]; decide +kernel
  | 1 => by rw [Ab4]; omega
  | n + 2 => by
    have h := Aal (v := v) (n + 1)
    have h1 := Hq (PW v (n + 1)) (PW v 1)
    rw [Rd, Ab4] at h1
    rw [show n + 2 = n + 1 + 1 from rfl, Nat.mul_add (Aq (v : Int)) (n + 1) 1, Nat.mul_one]
    omega
theorem Aam {v n : Nat} (hv : 2 ≤ v) (h : 67108864 < (Aq (v : Int) - 1) * n + 1) : 67108864 < Aq (PW v n) := Nat.lt_of_lt_of_le h (La hv)
theorem Ng {v n : Nat} (hv : 2 ≤ v) (h : (Aq (v : Int) - 1) * n ≤ 67108864) : Aq (PW v n) ≤ 134217729 := by
  have h1 := Aal (v := v) n
  have h2 := If hv
  have h3 : Aq (v : Int) * n ≤ 2 * ((Aq (v : Int) - 1) * n) := by
    rw [← Nat.mul_assoc]
    exact Nat.mul_le_mul_right n (by omega)
  omega
theorem T0 {n d : Nat} (hd : 0 < d) : (n : Int) > (67108864 : Int).tdiv (d : Int) ↔ ¬ d * n ≤ 67108864 := by
  rw [show (67108864 : Int).tdiv (d : Int) = ((67108864 / d : Nat) : Int) from rfl]
  rw [Nat.mul_comm, ← Nat.le_div_iff_mul_le hd]
  omega

theorem Nd (a : List Int) (hla : a.length < 67108864) (ua : Az a) : Spec Tryd.prog 41 [.n false .u64 a] (fun o => ∃ (r : List Int) (e : Int), o = .ret (.t [.n true .u64 r, .i .i64 e]) ∧ Xq (vl a * vl a) r e) := by
  refine An [(0, .n false .u64 a)] rfl Tryd.func41 rfl (zlb rfl) fun Γ hN hds hL hR => ?_
  have hd := Bu 9 hN
  refine zsr <| zas rfl (hd 2 rfl) <| zas rfl (hd 3 rfl) <| Ab <| zsr <| zmv rfl (hd 4 rfl) <| zmv rfl (hd 5 rfl) ?_
  refine Aj Tryd.f42 (Xn a a (by omega) (by omega) ua ua) rfl Tryd.func42 rfl rfl (Aa rfl (Aa rfl Ad)) (.cons .n (.cons .n .nil)) (hd 6 rfl) ?_ (fun ch hp => by simp at hp)
  rintro y ⟨rp, ep, hy, hp⟩; injection hy with hy; subst hy; refine Ac (Ap rfl rfl) (hd 7 rfl) <| Ac (Ap rfl rfl) (hd 8 rfl) <| zas rfl (hd 2 rfl) <| zas rfl (hd 3 rfl) <| Ab <| Ak ?_
  refine ⟨_, _, (.cons rfl (.cons rfl .nil)), (.t1 .n (.t1 .i .t0)), ?_⟩
  exact ⟨rp, ep, rfl, hp⟩

theorem Ab3 (v n : Nat) (a : List Int) (la : a.length ≤ 1048576) (ua : Az a) (hva : vl a = (v : Int)) (hv : 2 ≤ v) (hn0 : n ≠ 0) (he : (Aq (v : Int) - 1) * n + 1 ≤ 67108864) (hf : Aq (PW v n) ≤ 67108864) : Spec Tryd.prog 18 [.n false .u64 a, .i .i64 (n : Int)] (fun o => o = .ret (.t [.n false .u64 (lm (PW v n)), .i .i64 0])) := by
  refine An [(0, .n false .u64 a), (1, .i .i64 (n : Int))] rfl Tryd.func18 rfl (zlb rfl) fun Γ hN hds hL hR => ?_
  have hd := Bu 63 hN
  have hNm : Spec Tryd.prog 39 [.n false .u64 a] (fun o => o = .ret (.n true .u64 (lm (v : Int)))) := by have h := Ej a (by omega); rwa [El ua hva] at h
  have hF1 : Spec Tryd.prog 33 [.i .u64 1] (fun o => o = .ret (.n true .u64 (lm (PW v 0)))) := by have h := Hd 1; rwa [show (if (1 : Int) = 0 then [] else [(1 : Int)]) = lm (PW v 0) from by rw [Un]; exact Sv (by decide) (by decide)] at h
  have hlv0 : Aq (v : Int) ≤ 67108864 := by have h := F2 (s := false) ua; have e : sv false a = vl a := rfl; rw [e, hva] at h; omega
  have hlen := La (n := n) hv
  have hn1 := Acp (n := n) hv
  have hl2 := If hv
  have hlmv := Cd hlv0
  have hnn : n ≤ (Aq (v : Int) - 1) * n := Nat.le_mul_of_pos_left n (by omega)
  refine zsr <| zas rfl (hd 4 rfl) <| zas rfl (hd 5 rfl) <| Ab <| Ae <| zsr <| zmv rfl (hd 10 rfl) <| Ac (Be (Bp rfl rfl) (by omega)) (hd 11 rfl) <| Ab <| Aw rfl <| Ai ?_; refine zsr <| zmv rfl (hd 12 rfl) ?_
  refine Aj Tryd.f39 (hNm) rfl Tryd.func39 rfl rfl (Aa rfl Ad) (.cons .n .nil) (hd 13 rfl) ?_ (fun ch hp => by simp at hp)
  rintro _ ⟨⟩; refine zas rfl (hd 0 rfl) <| Ab <| Ae <| zsr <| zmv rfl (hd 14 rfl) <| Ac (Be (B7 rfl rfl) (by omega)) (hd 15 rfl) <| Ab <| Aw rfl <| Ai <| zsr <| zmv rfl (hd 17 rfl) ?_
  refine Aj Tryd.f40 (Fn (v : Int) (by omega)) rfl Tryd.func40 rfl rfl (Aa rfl Ad) (.cons .n .nil) (hd 18 rfl) ?_ (fun ch hp => by simp at hp)
  rintro _ ⟨⟩; refine zas rfl (hd 6 rfl) <| Ab <| Ae <| zsr <| zmv rfl (hd 19 rfl) <| Ac (Be (Lw rfl rfl) (by omega)) (hd 20 rfl) <| Ab <| Aw rfl <| Ai <| Ae <| Ae <| Af ?_; refine zmv rfl (hd 22 rfl) <| Ac (Be (B6 rfl rfl) (by omega)) (hd 23 rfl) <| zmv rfl (hd 24 rfl) <| Ay 24 rfl rfl (At rfl) (hd 25 rfl) <| Ay 24 rfl rfl (Bt rfl rfl (r := ((Aq (v : Int) - 1 : Nat) : Int)) (by rw [Ag (by omega) (by omega)]; omega)) (hd 26 rfl) <| Ay 24 rfl rfl (At rfl) (hd 27 rfl) <| Ay 24 rfl rfl (Dn rfl rfl (r := (((Aq (v : Int) - 1) * n : Nat) : Int)) (by rw [← Int.natCast_mul]; exact Ag (by omega) (by omega))) (hd 28 rfl) <| Ay 24 rfl rfl (Av rfl rfl (r := (((Aq (v : Int) - 1) * n + 1 : Nat) : Int)) (by rw [show (((Aq (v : Int) - 1) * n : Nat) : Int) + 1 = (((Aq (v : Int) - 1) * n + 1 : Nat) : Int) from rfl]; exact Ag (by omega) (by omega))) (hd 29 rfl) <| Ay 24 rfl rfl (Be (B6 rfl rfl) (by omega)) (hd 30 rfl) <| Ac (Bn rfl rfl) (hd 31 rfl) <| Ab <| Aw rfl <| Ai ?_; refine Ae <| Af ?_
  refine Aj Tryd.f33 (hF1) rfl Tryd.func33 rfl rfl (Aa rfl Ad) (.cons .i .nil) (hd 32 rfl) ?_ (fun ch hp => by simp at hp)
  rintro _ ⟨⟩; refine zas rfl (hd 7 rfl) <| Ab <| Ae <| zsr <| zas rfl (hd 8 rfl) <| Ab <| Au ?_
  refine Bv (G := Nat) (fun k => k ≤ 63 ∧ Aq (PW v (n / 2 ^ k)) ≤ 67108864) (fun k => [(7, .n true .u64 (lm (PW v (n / 2 ^ k)))), (8, .i .i64 ((k : Int) - 1)), (4, .u), (5, .u), (9, .u), (33, .u), (34, .u), (35, .u), (36, .u), (37, .u), (38, .u), (39, .u), (40, .u), (41, .u), (42, .u), (43, .u), (44, .u), (45, .u), (46, .u), (47, .u), (48, .u), (49, .u), (50, .u), (51, .u), (52, .u), (53, .u), (54, .u), (55, .u), (56, .u), (57, .u), (58, .u), (59, .u), (60, .u), (61, .u)]) (fun _ => _) (fun k => k) 63 ?_ ?_ rfl ?_
  · exact ⟨Nat.le_refl _, by rw [show n / 2 ^ 63 = 0 from Nat.div_eq_of_lt (by omega), Un]; decide +kernel⟩
  · exact (.cons (by show some (V.n _ _ _) = some (V.n _ _ _); rw [show n / 2 ^ 63 = 0 from Nat.div_eq_of_lt (by omega)]) (.cons rfl (.v9 (.v9 (.v9 (.u (.u .nil)))))))
  · rintro k ⟨hk, hO⟩; refine Ae <| zsr <| zmv rfl (hd 33 rfl) <| Ac (Dl rfl rfl) (hd 34 rfl) <| Ab ?_
    refine Bc rfl (fun h5 => ?_) (fun h5 => ?_)
    · have hk0 : 0 < k := by omega
      have hS : 2 * (n / 2 ^ k) ≤ n := by rw [H8 hk0]; have := Nat.div_le_self n (2 ^ (k - 1)); omega
      have hOl := Cd hO
      have hone := Ku (Um (n := (n / 2 ^ k)) hv)
      have hm9 := It hv hS
      have hm8 : Aq (PW v (n / 2 ^ (k - 1))) ≤ Aq (PW v n) := It hv (Nat.div_le_self _ _)
      refine Ai <| Ae <| Au <| zsr <| zas rfl (hd 9 rfl) <| Ab <| Ae <| zsr <| zmv rfl (hd 37 rfl) <| Ac (Al Bj rfl) (hd 38 rfl) <| Ac (B8 (B6 rfl rfl) (by have := List.length_pos_iff.2 hone; omega)) (hd 39 rfl) ?_; refine Ab <| B5 rfl <| zsr <| zmv rfl (hd 41 rfl) ?_
      refine Aj Tryd.f41 (Nd (lm (PW v (n / 2 ^ k))) (by omega) (Gz _)) rfl Tryd.func41 rfl rfl (Aa rfl Ad) (.cons .n .nil) (hd 42 rfl) ?_ (fun ch hp => by simp at hp)
      rintro y ⟨r2, e2, hy, he2⟩; injection hy with hy; subst hy
      rw [Aaj] at he2
      refine zmv rfl (hd 40 rfl) <| Ac (Ap rfl rfl) (hd 43 rfl) <| Ac (Ap rfl rfl) (hd 44 rfl) <| zas rfl (hd 7 rfl) <| zas rfl (hd 9 rfl) <| Ab <| zsr <| zmv rfl (hd 45 rfl) <| Ac (Dy rfl rfl) (hd 46 rfl) <| Ab ?_
      refine Bc rfl (fun h7 => ?_) (fun h7 => ?_)
      · have hbig : 67108864 < Aq (PW v n) ∧ e2 = 3 := by
          rcases he2 with ⟨z9, _⟩ | ⟨z9, _, z8⟩
          · exact absurd z9 h7
          · exact ⟨by omega, z9⟩
        exfalso
        omega
      · obtain ⟨e9, r9, hO2⟩ : e2 = 0 ∧ r2 = lm (PW v (2 * (n / 2 ^ k))) ∧ Aq (PW v (2 * (n / 2 ^ k))) ≤ 67108864 := by
          rcases he2 with z9 | ⟨z9, _, _⟩
          · exact z9
          · omega
        subst r9
        have hO2l := Cd hO2
        refine Ai <| zsr <| zmv rfl (hd 48 rfl) <| zmv rfl (hd 49 rfl) <| Ac (Bo (D7 rfl rfl (by omega) rfl) (show V.i .i64 _ = V.i .i64 ((n / 2 ^ (k - 1) : Nat) : Int) from congrArg (V.i .i64) (Eq (by rw [show ((k : Int) - 1).toNat = k - 1 by omega, Nat.min_eq_left (by have h : IntKind.i64.bits = 64 := rfl; omega)])))) (hd 50 rfl) <| Ac (Bo (Gh (by simp) rfl rfl rfl) (show V.i .i64 _ = V.i .i64 ((n / 2 ^ (k - 1) % 2 : Nat) : Int) from congrArg (V.i .i64) (Aad (by have := Nat.div_le_self n (2 ^ (k - 1)); omega)))) (hd 51 rfl) <| Ac (B7 rfl rfl) (hd 52 rfl) <| Ab ?_
        refine Bc rfl (fun h8 => ?_) (fun h8 => ?_)
        · have hb1 := Ls hk0 h8
          refine zsr <| zmv rfl (hd 54 rfl) <| zmv rfl (hd 55 rfl) ?_
          refine Aj Tryd.f42 (Xn (lm (PW v (2 * (n / 2 ^ k)))) (lm (v : Int)) (by omega) (by omega) (Gz _) (Gz _)) rfl Tryd.func42 rfl rfl (Aa rfl (Aa rfl Ad)) (.cons .n (.cons .n .nil)) (hd 56 rfl) ?_ (fun ch hp => by simp at hp)
          rintro y ⟨r3, e3, hy, he3⟩; injection hy with hy; subst hy
          rw [Aco, hb1] at he3
          refine zmv rfl (hd 53 rfl) <| Ac (Ap rfl rfl) (hd 57 rfl) <| Ac (Ap rfl rfl) (hd 58 rfl) <| zas rfl (hd 7 rfl) <| zas rfl (hd 9 rfl) <| Ab <| zsr <| zmv rfl (hd 59 rfl) <| Ac (Dy rfl rfl) (hd 60 rfl) <| Ab ?_
          refine Bc rfl (fun h9 => ?_) (fun h9 => ?_)
          · have hbig : 67108864 < Aq (PW v n) ∧ e3 = 3 := by
              rcases he3 with ⟨z9, _⟩ | ⟨z9, _, z8⟩
              · exact absurd z9 h9
              · exact ⟨by omega, z9⟩
            exfalso
            omega
          · obtain ⟨e9, r9, hO3⟩ : e3 = 0 ∧ r3 = lm (PW v (n / 2 ^ (k - 1))) ∧ Aq (PW v (n / 2 ^ (k - 1))) ≤ 67108864 := by
              rcases he3 with z9 | ⟨z9, _, _⟩
              · exact z9
              · omega
            subst r9; refine Ai <| Af <| zmv rfl (hd 35 rfl) <| Ac (Bt rfl rfl (Ag (by omega) (by omega))) (hd 36 rfl) <| zas rfl (hd 8 rfl) <| Ab ?_
            refine ⟨k - 1, ?_, ?_, rfl, Bb 67 rfl rfl ?_⟩
            · first | exact ⟨by omega, hO3⟩ | exact ⟨by omega, by rw [← hb0]; exact hO2⟩
            · omega
            · exact (.cons (by show some (V.n _ _ _) = some (V.n _ _ _); first | rfl | rw [hb0]) (.cons (by show some (V.i .i64 _) = some (V.i .i64 _); congr 2; omega) (.v9 (.v9 (.v9 (.u (.u .nil)))))))
        · have hb0 := Lt hk0 h8
          refine Ai <| Af <| zmv rfl (hd 35 rfl) <| Ac (Bt rfl rfl (Ag (by omega) (by omega))) (hd 36 rfl) <| zas rfl (hd 8 rfl) <| Ab ?_
          refine ⟨k - 1, ?_, ?_, rfl, Bb 57 rfl rfl ?_⟩
          · first | exact ⟨by omega, hO3⟩ | exact ⟨by omega, by rw [← hb0]; exact hO2⟩
          · omega
          · exact (.cons (by show some (V.n _ _ _) = some (V.n _ _ _); first | rfl | rw [hb0]) (.cons (by show some (V.i .i64 _) = some (V.i .i64 _); congr 2; omega) (.v9 (.v9 (.v9 (.u (.u .nil)))))))
    · obtain rfl : k = 0 := by omega
      rw [Nat.pow_zero, Nat.div_one] at hO
      refine Br <| zsr <| zmv rfl (hd 62 rfl) <| zas rfl (hd 4 rfl) <| zas rfl (hd 5 rfl) <| Ab <| Ak ?_
      refine ⟨_, _, (.cons rfl (.cons rfl .nil)), (.t1 .nn (.t1 .i .t0)), ?_⟩
      rw [Nat.pow_zero, Nat.div_one]

theorem Ab2 (v n : Nat) (a : List Int) (la : a.length ≤ 1048576) (ua : Az a) (hva : vl a = (v : Int)) (hv : 2 ≤ v) (hn0 : n ≠ 0) (he : (Aq (v : Int) - 1) * n + 1 ≤ 67108864) (hf : 67108864 < Aq (PW v n)) : Spec Tryd.prog 18 [.n false .u64 a, .i .i64 (n : Int)] (fun o => o = .ret (.t [.n false .u64 [], .i .i64 3])) := by
  refine An [(0, .n false .u64 a), (1, .i .i64 (n : Int))] rfl Tryd.func18 rfl (zlb rfl) fun Γ hN hds hL hR => ?_
  have hd := Bu 63 hN
  have hNm : Spec Tryd.prog 39 [.n false .u64 a] (fun o => o = .ret (.n true .u64 (lm (v : Int)))) := by have h := Ej a (by omega); rwa [El ua hva] at h
  have hF1 : Spec Tryd.prog 33 [.i .u64 1] (fun o => o = .ret (.n true .u64 (lm (PW v 0)))) := by have h := Hd 1; rwa [show (if (1 : Int) = 0 then [] else [(1 : Int)]) = lm (PW v 0) from by rw [Un]; exact Sv (by decide) (by decide)] at h
  have hlv0 : Aq (v : Int) ≤ 67108864 := by have h := F2 (s := false) ua; have e : sv false a = vl a := rfl; rw [e, hva] at h; omega
  have hlen := La (n := n) hv
  have hn1 := Acp (n := n) hv
  have hl2 := If hv
  have hlmv := Cd hlv0
  have hnn : n ≤ (Aq (v : Int) - 1) * n := Nat.le_mul_of_pos_left n (by omega)
  refine zsr <| zas rfl (hd 4 rfl) <| zas rfl (hd 5 rfl) <| Ab <| Ae <| zsr <| zmv rfl (hd 10 rfl) <| Ac (Be (Bp rfl rfl) (by omega)) (hd 11 rfl) <| Ab <| Aw rfl <| Ai ?_; refine zsr <| zmv rfl (hd 12 rfl) ?_
  refine Aj Tryd.f39 (hNm) rfl Tryd.func39 rfl rfl (Aa rfl Ad) (.cons .n .nil) (hd 13 rfl) ?_ (fun ch hp => by simp at hp)
  rintro _ ⟨⟩; refine zas rfl (hd 0 rfl) <| Ab <| Ae <| zsr <| zmv rfl (hd 14 rfl) <| Ac (Be (B7 rfl rfl) (by omega)) (hd 15 rfl) <| Ab <| Aw rfl <| Ai <| zsr <| zmv rfl (hd 17 rfl) ?_
  refine Aj Tryd.f40 (Fn (v : Int) (by omega)) rfl Tryd.func40 rfl rfl (Aa rfl Ad) (.cons .n .nil) (hd 18 rfl) ?_ (fun ch hp => by simp at hp)
  rintro _ ⟨⟩; refine zas rfl (hd 6 rfl) <| Ab <| Ae <| zsr <| zmv rfl (hd 19 rfl) <| Ac (Be (Lw rfl rfl) (by omega)) (hd 20 rfl) <| Ab <| Aw rfl <| Ai <| Ae <| Ae <| Af ?_; refine zmv rfl (hd 22 rfl) <| Ac (Be (B6 rfl rfl) (by omega)) (hd 23 rfl) <| zmv rfl (hd 24 rfl) <| Ay 24 rfl rfl (At rfl) (hd 25 rfl) <| Ay 24 rfl rfl (Bt rfl rfl (r := ((Aq (v : Int) - 1 : Nat) : Int)) (by rw [Ag (by omega) (by omega)]; omega)) (hd 26 rfl) <| Ay 24 rfl rfl (At rfl) (hd 27 rfl) <| Ay 24 rfl rfl (Dn rfl rfl (r := (((Aq (v : Int) - 1) * n : Nat) : Int)) (by rw [← Int.natCast_mul]; exact Ag (by omega) (by omega))) (hd 28 rfl) <| Ay 24 rfl rfl (Av rfl rfl (r := (((Aq (v : Int) - 1) * n + 1 : Nat) : Int)) (by rw [show (((Aq (v : Int) - 1) * n : Nat) : Int) + 1 = (((Aq (v : Int) - 1) * n + 1 : Nat) : Int) from rfl]; exact Ag (by omega) (by omega))) (hd 29 rfl) <| Ay 24 rfl rfl (Be (B6 rfl rfl) (by omega)) (hd 30 rfl) <| Ac (Bn rfl rfl) (hd 31 rfl) <| Ab <| Aw rfl <| Ai ?_; refine Ae <| Af ?_
  refine Aj Tryd.f33 (hF1) rfl Tryd.func33 rfl rfl (Aa rfl Ad) (.cons .i .nil) (hd 32 rfl) ?_ (fun ch hp => by simp at hp)
  rintro _ ⟨⟩; refine zas rfl (hd 7 rfl) <| Ab <| Ae <| zsr <| zas rfl (hd 8 rfl) <| Ab <| Au ?_
  refine Bv (G := Nat) (fun k => k ≤ 63 ∧ Aq (PW v (n / 2 ^ k)) ≤ 67108864) (fun k => [(7, .n true .u64 (lm (PW v (n / 2 ^ k)))), (8, .i .i64 ((k : Int) - 1)), (4, .u), (5, .u), (9, .u), (33, .u), (34, .u), (35, .u), (36, .u), (37, .u), (38, .u), (39, .u), (40, .u), (41, .u), (42, .u), (43, .u), (44, .u), (45, .u), (46, .u), (47, .u), (48, .u), (49, .u), (50, .u), (51, .u), (52, .u), (53, .u), (54, .u), (55, .u), (56, .u), (57, .u), (58, .u), (59, .u), (60, .u), (61, .u)]) (fun _ => _) (fun k => k) 63 ?_ ?_ rfl ?_
  · exact ⟨Nat.le_refl _, by rw [show n / 2 ^ 63 = 0 from Nat.div_eq_of_lt (by omega), Un]; decide +kernel⟩
  · exact (.cons (by show some (V.n _ _ _) = some (V.n _ _ _); rw [show n / 2 ^ 63 = 0 from Nat.div_eq_of_lt (by omega)]) (.cons rfl (.v9 (.v9 (.v9 (.u (.u .nil)))))))
  · rintro k ⟨hk, hO⟩; refine Ae <| zsr <| zmv rfl (hd 33 rfl) <| Ac (Dl rfl rfl) (hd 34 rfl) <| Ab ?_
    refine Bc rfl (fun h5 => ?_) (fun h5 => ?_)
    · have hk0 : 0 < k := by omega
      have hS : 2 * (n / 2 ^ k) ≤ n := by rw [H8 hk0]; have := Nat.div_le_self n (2 ^ (k - 1)); omega
      have hOl := Cd hO
      have hone := Ku (Um (n := (n / 2 ^ k)) hv)
      have hm9 := It hv hS
      have hm8 : Aq (PW v (n / 2 ^ (k - 1))) ≤ Aq (PW v n) := It hv (Nat.div_le_self _ _)
      refine Ai <| Ae <| Au <| zsr <| zas rfl (hd 9 rfl) <| Ab <| Ae <| zsr <| zmv rfl (hd 37 rfl) <| Ac (Al Bj rfl) (hd 38 rfl) <| Ac (B8 (B6 rfl rfl) (by have := List.length_pos_iff.2 hone; omega)) (hd 39 rfl) ?_; refine Ab <| B5 rfl <| zsr <| zmv rfl (hd 41 rfl) ?_
      refine Aj Tryd.f41 (Nd (lm (PW v (n / 2 ^ k))) (by omega) (Gz _)) rfl Tryd.func41 rfl rfl (Aa rfl Ad) (.cons .n .nil) (hd 42 rfl) ?_ (fun ch hp => by simp at hp)
      rintro y ⟨r2, e2, hy, he2⟩; injection hy with hy; subst hy
      rw [Aaj] at he2
      refine zmv rfl (hd 40 rfl) <| Ac (Ap rfl rfl) (hd 43 rfl) <| Ac (Ap rfl rfl) (hd 44 rfl) <| zas rfl (hd 7 rfl) <| zas rfl (hd 9 rfl) <| Ab <| zsr <| zmv rfl (hd 45 rfl) <| Ac (Dy rfl rfl) (hd 46 rfl) <| Ab ?_
      refine Bc rfl (fun h7 => ?_) (fun h7 => ?_)
      · have hbig : 67108864 < Aq (PW v n) ∧ e2 = 3 := by
          rcases he2 with ⟨z9, _⟩ | ⟨z9, _, z8⟩
          · exact absurd z9 h7
          · exact ⟨by omega, z9⟩
        obtain rfl := hbig.2
        refine zsr <| zmv rfl (hd 47 rfl) <| zas rfl (hd 4 rfl) <| zas rfl (hd 5 rfl) <| Ab <| Ak ?_
        refine ⟨_, _, (.cons rfl (.cons rfl .nil)), (.t1 (.nil (fr := false) (k := .u64)) (.t1 .i .t0)), ?_⟩
        exact rfl
      · obtain ⟨e9, r9, hO2⟩ : e2 = 0 ∧ r2 = lm (PW v (2 * (n / 2 ^ k))) ∧ Aq (PW v (2 * (n / 2 ^ k))) ≤ 67108864 := by
          rcases he2 with z9 | ⟨z9, _, _⟩
          · exact z9
          · omega
        subst r9
        have hO2l := Cd hO2
        refine Ai <| zsr <| zmv rfl (hd 48 rfl) <| zmv rfl (hd 49 rfl) <| Ac (Bo (D7 rfl rfl (by omega) rfl) (show V.i .i64 _ = V.i .i64 ((n / 2 ^ (k - 1) : Nat) : Int) from congrArg (V.i .i64) (Eq (by rw [show ((k : Int) - 1).toNat = k - 1 by omega, Nat.min_eq_left (by have h : IntKind.i64.bits = 64 := rfl; omega)])))) (hd 50 rfl) <| Ac (Bo (Gh (by simp) rfl rfl rfl) (show V.i .i64 _ = V.i .i64 ((n / 2 ^ (k - 1) % 2 : Nat) : Int) from congrArg (V.i .i64) (Aad (by have := Nat.div_le_self n (2 ^ (k - 1)); omega)))) (hd 51 rfl) <| Ac (B7 rfl rfl) (hd 52 rfl) <| Ab ?_
        refine Bc rfl (fun h8 => ?_) (fun h8 => ?_)
        · have hb1 := Ls hk0 h8
          refine zsr <| zmv rfl (hd 54 rfl) <| zmv rfl (hd 55 rfl) ?_
          refine Aj Tryd.f42 (Xn (lm (PW v (2 * (n / 2 ^ k)))) (lm (v : Int)) (by omega) (by omega) (Gz _) (Gz _)) rfl Tryd.func42 rfl rfl (Aa rfl (Aa rfl Ad)) (.cons .n (.cons .n .nil)) (hd 56 rfl) ?_ (fun ch hp => by simp at hp)
          rintro y ⟨r3, e3, hy, he3⟩; injection hy with hy; subst hy
          rw [Aco, hb1] at he3
          refine zmv rfl (hd 53 rfl) <| Ac (Ap rfl rfl) (hd 57 rfl) <| Ac (Ap rfl rfl) (hd 58 rfl) <| zas rfl (hd 7 rfl) <| zas rfl (hd 9 rfl) <| Ab <| zsr <| zmv rfl (hd 59 rfl) <| Ac (Dy rfl rfl) (hd 60 rfl) <| Ab ?_
          refine Bc rfl (fun h9 => ?_) (fun h9 => ?_)
          · have hbig : 67108864 < Aq (PW v n) ∧ e3 = 3 := by
              rcases he3 with ⟨z9, _⟩ | ⟨z9, _, z8⟩
              · exact absurd z9 h9
              · exact ⟨by omega, z9⟩
            obtain rfl := hbig.2
            refine zsr <| zmv rfl (hd 61 rfl) <| zas rfl (hd 4 rfl) <| zas rfl (hd 5 rfl) <| Ab <| Ak ?_
            refine ⟨_, _, (.cons rfl (.cons rfl .nil)), (.t1 (.nil (fr := false) (k := .u64)) (.t1 .i .t0)), ?_⟩
            exact rfl
          · obtain ⟨e9, r9, hO3⟩ : e3 = 0 ∧ r3 = lm (PW v (n / 2 ^ (k - 1))) ∧ Aq (PW v (n / 2 ^ (k - 1))) ≤ 67108864 := by
              rcases he3 with z9 | ⟨z9, _, _⟩
              · exact z9
              · omega
            subst r9; refine Ai <| Af <| zmv rfl (hd 35 rfl) <| Ac (Bt rfl rfl (Ag (by omega) (by omega))) (hd 36 rfl) <| zas rfl (hd 8 rfl) <| Ab ?_
            refine ⟨k - 1, ?_, ?_, rfl, Bb 67 rfl rfl ?_⟩
            · first | exact ⟨by omega, hO3⟩ | exact ⟨by omega, by rw [← hb0]; exact hO2⟩
            · omega
            · exact (.cons (by show some (V.n _ _ _) = some (V.n _ _ _); first | rfl | rw [hb0]) (.cons (by show some (V.i .i64 _) = some (V.i .i64 _); congr 2; omega) (.v9 (.v9 (.v9 (.u (.u .nil)))))))
        · have hb0 := Lt hk0 h8
          refine Ai <| Af <| zmv rfl (hd 35 rfl) <| Ac (Bt rfl rfl (Ag (by omega) (by omega))) (hd 36 rfl) <| zas rfl (hd 8 rfl) <| Ab ?_
          refine ⟨k - 1, ?_, ?_, rfl, Bb 57 rfl rfl ?_⟩
          · first | exact ⟨by omega, hO3⟩ | exact ⟨by omega, by rw [← hb0]; exact hO2⟩
          · omega
          · exact (.cons (by show some (V.n _ _ _) = some (V.n _ _ _); first | rfl | rw [hb0]) (.cons (by show some (V.i .i64 _) = some (V.i .i64 _); congr 2; omega) (.v9 (.v9 (.v9 (.u (.u .nil)))))))
    · obtain rfl : k = 0 := by omega
      rw [Nat.pow_zero, Nat.div_one] at hO
      exfalso
      omega

theorem Rc (v n : Nat) (a : List Int) (la : a.length ≤ 1048576) (ua : Az a) (hva : vl a = (v : Int)) (hn9 : n < 9223372036854775808) (hv : 2 ≤ v) (hn0 : n ≠ 0) (he : ¬ (Aq (v : Int) - 1) * n + 1 ≤ 67108864) : Spec Tryd.prog 18 [.n false .u64 a, .i .i64 (n : Int)] (fun o => o = .ret (.t [.n false .u64 [], .i .i64 3])) := by
  refine An [(0, .n false .u64 a), (1, .i .i64 (n : Int))] rfl Tryd.func18 rfl (zlb rfl) fun Γ hN hds hL hR => ?_
  have hd := Bu 63 hN
  have hNm : Spec Tryd.prog 39 [.n false .u64 a] (fun o => o = .ret (.n true .u64 (lm (v : Int)))) := by have h := Ej a (by omega); rwa [El ua hva] at h
  have hlv0 : Aq (v : Int) ≤ 67108864 := by have h := F2 (s := false) ua; have e : sv false a = vl a := rfl; rw [e, hva] at h; omega
  have hl2 := If hv
  have hlmv := Cd hlv0
  refine zsr <| zas rfl (hd 4 rfl) <| zas rfl (hd 5 rfl) <| Ab <| Ae <| zsr <| zmv rfl (hd 10 rfl) <| Ac (Be (Bp rfl rfl) (by omega)) (hd 11 rfl) <| Ab <| Aw rfl <| Ai ?_; refine zsr <| zmv rfl (hd 12 rfl) ?_
  refine Aj Tryd.f39 (hNm) rfl Tryd.func39 rfl rfl (Aa rfl Ad) (.cons .n .nil) (hd 13 rfl) ?_ (fun ch hp => by simp at hp)
  rintro _ ⟨⟩; refine zas rfl (hd 0 rfl) <| Ab <| Ae <| zsr <| zmv rfl (hd 14 rfl) <| Ac (Be (B7 rfl rfl) (by omega)) (hd 15 rfl) <| Ab <| Aw rfl <| Ai <| zsr <| zmv rfl (hd 17 rfl) ?_
  refine Aj Tryd.f40 (Fn (v : Int) (by omega)) rfl Tryd.func40 rfl rfl (Aa rfl Ad) (.cons .n .nil) (hd 18 rfl) ?_ (fun ch hp => by simp at hp)
  rintro _ ⟨⟩; refine zas rfl (hd 6 rfl) <| Ab <| Ae <| zsr <| zmv rfl (hd 19 rfl) <| Ac (Be (Lw rfl rfl) (by omega)) (hd 20 rfl) <| Ab <| Aw rfl <| Ai <| Ae <| Ae <| Af ?_; refine zmv rfl (hd 22 rfl) <| Ac (B6 rfl rfl) (hd 23 rfl) <| zmv rfl (hd 24 rfl) ?_
  refine Ea 24 rfl (fun h4 => ?_) (fun h4 => ?_)
  · 
    refine Bh 24 rfl rfl rfl (hd 25 rfl) <| Bh 24 rfl rfl rfl (hd 26 rfl) <| Bh 24 rfl rfl rfl (hd 27 rfl) <| Bh 24 rfl rfl rfl (hd 28 rfl) <| Bh 24 rfl rfl rfl (hd 29 rfl) <| Bh 24 rfl rfl rfl (hd 30 rfl) <| Ac (Bi rfl rfl) (hd 31 rfl) <| Ab <| B5 rfl <| zsr <| zas rfl (hd 4 rfl) <| zas rfl (hd 5 rfl) ?_; refine Ab <| Ak ?_
    refine ⟨_, _, (.cons rfl (.cons rfl .nil)), (.t1 (.nil (fr := false) (k := .u64)) (.t1 .i .t0)), ?_⟩
    exact rfl
  · have hnM : n ≤ 67108864 := by omega
    have hmm : (Aq (v : Int) - 1) * n ≤ 67108864 * 67108864 := Nat.mul_le_mul (by omega) hnM
    refine Ay 24 rfl rfl (At rfl) (hd 25 rfl) <| Ay 24 rfl rfl (Bt rfl rfl (r := ((Aq (v : Int) - 1 : Nat) : Int)) (by rw [Ag (by omega) (by omega)]; omega)) (hd 26 rfl) <| Ay 24 rfl rfl (At rfl) (hd 27 rfl) <| Ay 24 rfl rfl (Dn rfl rfl (r := (((Aq (v : Int) - 1) * n : Nat) : Int)) (by rw [← Int.natCast_mul]; exact Ag (by omega) (by omega))) (hd 28 rfl) <| Ay 24 rfl rfl (Av rfl rfl (r := (((Aq (v : Int) - 1) * n + 1 : Nat) : Int)) (by rw [show (((Aq (v : Int) - 1) * n : Nat) : Int) + 1 = (((Aq (v : Int) - 1) * n + 1 : Nat) : Int) from rfl]; exact Ag (by omega) (by omega))) (hd 29 rfl) <| Ay 24 rfl rfl (B8 (B6 rfl rfl) (by omega)) (hd 30 rfl) <| Ac (Bn rfl rfl) (hd 31 rfl) <| Ab <| B5 rfl <| zsr <| zas rfl (hd 4 rfl) <| zas rfl (hd 5 rfl) ?_; refine Ab <| Ak ?_
    refine ⟨_, _, (.cons rfl (.cons rfl .nil)), (.t1 (.nil (fr := false) (k := .u64)) (.t1 .i .t0)), ?_⟩
    exact rfl

theorem Rb (v n : Nat) (a : List Int) (la : a.length ≤ 1048576) (ua : Az a) (hva : vl a = (v : Int)) (hn9 : n < 9223372036854775808) (hv : v < 2) (hn0 : n ≠ 0) : Spec Tryd.prog 18 [.n false .u64 a, .i .i64 (n : Int)] (fun o => o = .ret (.t [.n false .u64 (lm (v : Int)), .i .i64 0])) := by
  refine An [(0, .n false .u64 a), (1, .i .i64 (n : Int))] rfl Tryd.func18 rfl (zlb rfl) fun Γ hN hds hL hR => ?_
  have hd := Bu 63 hN
  have hNm : Spec Tryd.prog 39 [.n false .u64 a] (fun o => o = .ret (.n true .u64 (lm (v : Int)))) := by have h := Ej a (by omega); rwa [El ua hva] at h
  have hlv0 : Aq (v : Int) ≤ 67108864 := by have h := F2 (s := false) ua; have e : sv false a = vl a := rfl; rw [e, hva] at h; omega
  have hlmv := Cd hlv0
  have hl1 : Aq (v : Int) ≤ 1 := B4.2 (by rw [Int.natAbs_natCast]; omega)
  refine zsr <| zas rfl (hd 4 rfl) <| zas rfl (hd 5 rfl) <| Ab <| Ae <| zsr <| zmv rfl (hd 10 rfl) <| Ac (Be (Bp rfl rfl) (by omega)) (hd 11 rfl) <| Ab <| Aw rfl <| Ai ?_; refine zsr <| zmv rfl (hd 12 rfl) ?_
  refine Aj Tryd.f39 (hNm) rfl Tryd.func39 rfl rfl (Aa rfl Ad) (.cons .n .nil) (hd 13 rfl) ?_ (fun ch hp => by simp at hp)
  rintro _ ⟨⟩; refine zas rfl (hd 0 rfl) <| Ab <| Ae <| zsr <| zmv rfl (hd 14 rfl) <| Ac (Be (B7 rfl rfl) (by omega)) (hd 15 rfl) <| Ab <| Aw rfl <| Ai <| zsr <| zmv rfl (hd 17 rfl) ?_
  refine Aj Tryd.f40 (Fn (v : Int) (by omega)) rfl Tryd.func40 rfl rfl (Aa rfl Ad) (.cons .n .nil) (hd 18 rfl) ?_ (fun ch hp => by simp at hp)
  rintro _ ⟨⟩; refine zas rfl (hd 6 rfl) <| Ab <| Ae <| zsr <| zmv rfl (hd 19 rfl) <| Ac (B8 (Lw rfl rfl) (by omega)) (hd 20 rfl) <| Ab <| B5 rfl <| zsr <| zmv rfl (hd 21 rfl) <| zas rfl (hd 4 rfl) ?_; refine zas rfl (hd 5 rfl) <| Ab <| Ak ?_
  refine ⟨_, _, (.cons rfl (.cons rfl .nil)), (.t1 .nn (.t1 .i .t0)), ?_⟩
  exact rfl

theorem Tc (v : Nat) (a : List Int) (la : a.length ≤ 1048576) (ua : Az a) (hva : vl a = (v : Int)) : Spec Tryd.prog 18 [.n false .u64 a, .i .i64 0] (fun o => o = .ret (.t [.n false .u64 (lm (PW v 0)), .i .i64 0])) := by
  refine An [(0, .n false .u64 a), (1, .i .i64 0)] rfl Tryd.func18 rfl (zlb rfl) fun Γ hN hds hL hR => ?_
  have hd := Bu 63 hN
  have hNm : Spec Tryd.prog 39 [.n false .u64 a] (fun o => o = .ret (.n true .u64 (lm (v : Int)))) := by have h := Ej a (by omega); rwa [El ua hva] at h
  have hF1 : Spec Tryd.prog 33 [.i .u64 1] (fun o => o = .ret (.n true .u64 (lm (PW v 0)))) := by have h := Hd 1; rwa [show (if (1 : Int) = 0 then [] else [(1 : Int)]) = lm (PW v 0) from by rw [Un]; exact Sv (by decide) (by decide)] at h
  refine zsr <| zas rfl (hd 4 rfl) <| zas rfl (hd 5 rfl) <| Ab <| Ae <| zsr <| zmv rfl (hd 10 rfl) <| Ac (Be (Bp rfl rfl) (by decide)) (hd 11 rfl) <| Ab <| Aw rfl <| Ai ?_; refine zsr <| zmv rfl (hd 12 rfl) ?_
  refine Aj Tryd.f39 (hNm) rfl Tryd.func39 rfl rfl (Aa rfl Ad) (.cons .n .nil) (hd 13 rfl) ?_ (fun ch hp => by simp at hp)
  rintro _ ⟨⟩; refine zas rfl (hd 0 rfl) <| Ab <| Ae <| zsr <| zmv rfl (hd 14 rfl) <| Ac (B8 (B7 rfl rfl) rfl) (hd 15 rfl) <| Ab <| B5 rfl <| Ae <| Af ?_
  refine Aj Tryd.f33 (hF1) rfl Tryd.func33 rfl rfl (Aa rfl Ad) (.cons .i .nil) (hd 16 rfl) ?_ (fun ch hp => by simp at hp)
  rintro _ ⟨⟩; refine zas rfl (hd 4 rfl) <| zas rfl (hd 5 rfl) <| Ab <| Ak ?_
  refine ⟨_, _, (.cons rfl (.cons rfl .nil)), (.t1 .nn (.t1 .i .t0)), ?_⟩
  exact rfl

theorem Xk (a : List Int) (n : Int) (hn : n < 0) : Spec Tryd.prog 18 [.n false .u64 a, .i .i64 n] (fun o => o = .ret (.t [.n false .u64 [], .i .i64 1])) := by
  refine An [(0, .n false .u64 a), (1, .i .i64 n)] rfl Tryd.func18 rfl (zlb rfl) fun Γ hN hds hL hR => ?_
  have hd := Bu 63 hN
  refine zsr <| zas rfl (hd 4 rfl) <| zas rfl (hd 5 rfl) <| Ab <| Ae <| zsr <| zmv rfl (hd 10 rfl) <| Ac (B8 (Bp rfl rfl) hn) (hd 11 rfl) <| Ab <| B5 rfl <| Ae ?_; refine Af <| zas rfl (hd 4 rfl) <| zas rfl (hd 5 rfl) <| Ab <| Ak ?_
  refine ⟨_, _, (.cons rfl (.cons rfl .nil)), (.t1 (.nil (fr := false) (k := .u64)) (.t1 .i .t0)), ?_⟩
  exact rfl

theorem V5 (y : Nat) (hy : (Ar B32 y).length < 1099511627776) (hf : Aq (y : Int) ≤ 67108864) : Spec Tryd.prog 23 [.n false .u64 (Ar B32 y)] (fun o => o = .ret (.t [.n false .u64 (Ar B32 y), .i .i64 0])) := by
  refine An [(0, .n false .u64 (Ar B32 y))] rfl Tryd.func23 rfl (zlb rfl) fun Γ hN hds hL hR => ?_
  have hd := Bu 8 hN
  have hLe : Spec Tryd.prog 21 [.n false .u64 (Ar B32 y)] (fun o => o = .ret (.i .i64 (Aq (y : Int) : Int))) := by have h := Iv (y : Int) (by rw [dgN]; exact hy); rwa [dgN] at h
  refine zsr <| zas rfl (hd 2 rfl) <| zas rfl (hd 3 rfl) <| Ab <| Ae <| zsr <| zmv rfl (hd 4 rfl) ?_
  refine Aj Tryd.f21 (hLe) rfl Tryd.func21 rfl rfl (Aa rfl Ad) (.cons .n .nil) (hd 5 rfl) ?_ (fun ch hp => by simp at hp)
  rintro _ ⟨⟩; refine Ac (Be (B6 rfl rfl) (by omega)) (hd 6 rfl) <| Ab <| Aw rfl <| Ai <| zsr <| zmv rfl (hd 7 rfl) <| zas rfl (hd 2 rfl) <| zas rfl (hd 3 rfl) <| Ab <| Ak ?_
  refine ⟨_, _, (.cons rfl (.cons rfl .nil)), (.t1 .n (.t1 .i .t0)), ?_⟩
  exact rfl

theorem V4 (y : Nat) (hy : (Ar B32 y).length < 1099511627776) (hf : 67108864 < Aq (y : Int)) : Spec Tryd.prog 23 [.n false .u64 (Ar B32 y)] (fun o => o = .ret (.t [.n false .u64 [], .i .i64 3])) := by
  refine An [(0, .n false .u64 (Ar B32 y))] rfl Tryd.func23 rfl (zlb rfl) fun Γ hN hds hL hR => ?_
  have hd := Bu 8 hN
  have hLe : Spec Tryd.prog 21 [.n false .u64 (Ar B32 y)] (fun o => o = .ret (.i .i64 (Aq (y : Int) : Int))) := by have h := Iv (y : Int) (by rw [dgN]; exact hy); rwa [dgN] at h
  refine zsr <| zas rfl (hd 2 rfl) <| zas rfl (hd 3 rfl) <| Ab <| Ae <| zsr <| zmv rfl (hd 4 rfl) ?_
  refine Aj Tryd.f21 (hLe) rfl Tryd.func21 rfl rfl (Aa rfl Ad) (.cons .n .nil) (hd 5 rfl) ?_ (fun ch hp => by simp at hp)
  rintro _ ⟨⟩; refine Ac (B8 (B6 rfl rfl) (by omega)) (hd 6 rfl) <| Ab <| B5 rfl <| zsr <| zas rfl (hd 2 rfl) <| zas rfl (hd 3 rfl) <| Ab <| Ak ?_
  refine ⟨_, _, (.cons rfl (.cons rfl .nil)), (.t1 (.nil (fr := false) (k := .u64)) (.t1 .i .t0)), ?_⟩
  exact rfl

theorem O5 (x : Nat) (n : Int) (hn : n < 0) : Spec Tryd.prog 7 [.n false .u64 (Ar B32 x), .i .i64 n] (fun o => o = .ret (.t [.n false .u64 [], .i .i64 1])) := by
  refine An [(0, .n false .u64 (Ar B32 x)), (1, .i .i64 n)] rfl Tryd.func7 rfl (zlb rfl) fun Γ hN hds hL hR => ?_
  have hd := Bu 51 hN
  refine zsr <| zas rfl (hd 4 rfl) <| zas rfl (hd 5 rfl) <| Ab <| Ae <| zsr <| zmv rfl (hd 8 rfl) <| Ac (B8 (Bp rfl rfl) hn) (hd 9 rfl) <| Ab <| B5 rfl <| Ae ?_; refine Af <| zas rfl (hd 4 rfl) <| zas rfl (hd 5 rfl) <| Ab <| Ak ?_
  refine ⟨_, _, (.cons rfl (.cons rfl .nil)), (.t1 (.nil (fr := false) (k := .u64)) (.t1 .i .t0)), ?_⟩
  exact rfl

theorem V6 (x : Nat) : Spec Tryd.prog 7 [.n false .u64 (Ar B32 x), .i .i64 0] (fun o => o = .ret (.t [.n false .u64 (Ar B32 (x ^ 0)), .i .i64 0])) := by
  refine An [(0, .n false .u64 (Ar B32 x)), (1, .i .i64 0)] rfl Tryd.func7 rfl (zlb rfl) fun Γ hN hds hL hR => ?_
  have hd := Bu 51 hN
  have hI1 : Spec Tryd.prog 20 [.i .i64 1] (fun o => o = .ret (.n false .u64 (Ar B32 (x ^ 0)))) := by have h := Kj ((1 : Nat) : Int) (by decide) (by decide); rw [Mn (v := 1) (by decide)] at h; exact h
  refine zsr <| zas rfl (hd 4 rfl) <| zas rfl (hd 5 rfl) <| Ab <| Ae <| zsr <| zmv rfl (hd 8 rfl) <| Ac (Be (Bp rfl rfl) (by decide)) (hd 9 rfl) <| Ab <| Aw rfl <| Ai ?_; refine Ae <| zsr <| zmv rfl (hd 10 rfl) <| Ac (B8 (B7 rfl rfl) rfl) (hd 11 rfl) <| Ab <| B5 rfl <| Ae <| Af ?_
  refine Aj Tryd.f20 (hI1) rfl Tryd.func20 rfl rfl (Aa rfl Ad) (.cons .i .nil) (hd 12 rfl) ?_ (fun ch hp => by simp at hp)
  rintro _ ⟨⟩; refine zas rfl (hd 4 rfl) <| zas rfl (hd 5 rfl) <| Ab <| Ak ?_
  refine ⟨_, _, (.cons rfl (.cons rfl .nil)), (.t1 .n (.t1 .i .t0)), ?_⟩
  exact rfl

theorem Lp (x n : Nat) (hx : (Ar B32 x).length ≤ 2097152) (hn9 : n < 9223372036854775808) (hn0 : n ≠ 0) (hv : Aq (x : Int) < 2) : Spec Tryd.prog 7 [.n false .u64 (Ar B32 x), .i .i64 (n : Int)] (fun o => o = .ret (.t [.n false .u64 (Ar B32 x), .i .i64 0])) := by
  refine An [(0, .n false .u64 (Ar B32 x)), (1, .i .i64 (n : Int))] rfl Tryd.func7 rfl (zlb rfl) fun Γ hN hds hL hR => ?_
  have hd := Bu 51 hN
  have hLx : Spec Tryd.prog 21 [.n false .u64 (Ar B32 x)] (fun o => o = .ret (.i .i64 (Aq (x : Int) : Int))) := by have h := Iv (x : Int) (by rw [dgN]; exact (by omega)); rwa [dgN] at h
  refine zsr <| zas rfl (hd 4 rfl) <| zas rfl (hd 5 rfl) <| Ab <| Ae <| zsr <| zmv rfl (hd 8 rfl) <| Ac (Be (Bp rfl rfl) (by omega)) (hd 9 rfl) <| Ab <| Aw rfl <| Ai ?_; refine Ae <| zsr <| zmv rfl (hd 10 rfl) <| Ac (Be (B7 rfl rfl) (by omega)) (hd 11 rfl) <| Ab <| Aw rfl <| Ai <| Ae <| zsr <| zmv rfl (hd 13 rfl) ?_
  refine Aj Tryd.f21 (hLx) rfl Tryd.func21 rfl rfl (Aa rfl Ad) (.cons .n .nil) (hd 14 rfl) ?_ (fun ch hp => by simp at hp)
  rintro _ ⟨⟩; refine Ac (B8 (Bp rfl rfl) (by omega)) (hd 15 rfl) <| Ab <| B5 rfl <| zsr <| zmv rfl (hd 16 rfl) <| zas rfl (hd 4 rfl) <| zas rfl (hd 5 rfl) <| Ab <| Ak ?_
  refine ⟨_, _, (.cons rfl (.cons rfl .nil)), (.t1 .n (.t1 .i .t0)), ?_⟩
  exact rfl

theorem Lq (x n : Nat) (hx : (Ar B32 x).length ≤ 2097152) (hn9 : n < 9223372036854775808) (hn0 : n ≠ 0) (hv : 2 ≤ Aq (x : Int)) (hl9 : Aq (x : Int) ≤ 67108864) (he : ¬ (Aq (x : Int) - 1) * n ≤ 67108864) : Spec Tryd.prog 7 [.n false .u64 (Ar B32 x), .i .i64 (n : Int)] (fun o => o = .ret (.t [.n false .u64 [], .i .i64 3])) := by
  refine An [(0, .n false .u64 (Ar B32 x)), (1, .i .i64 (n : Int))] rfl Tryd.func7 rfl (zlb rfl) fun Γ hN hds hL hR => ?_
  have hd := Bu 51 hN
  have hLx : Spec Tryd.prog 21 [.n false .u64 (Ar B32 x)] (fun o => o = .ret (.i .i64 (Aq (x : Int) : Int))) := by have h := Iv (x : Int) (by rw [dgN]; exact (by omega)); rwa [dgN] at h
  refine zsr <| zas rfl (hd 4 rfl) <| zas rfl (hd 5 rfl) <| Ab <| Ae <| zsr <| zmv rfl (hd 8 rfl) <| Ac (Be (Bp rfl rfl) (by omega)) (hd 9 rfl) <| Ab <| Aw rfl <| Ai ?_; refine Ae <| zsr <| zmv rfl (hd 10 rfl) <| Ac (Be (B7 rfl rfl) (by omega)) (hd 11 rfl) <| Ab <| Aw rfl <| Ai <| Ae <| zsr <| zmv rfl (hd 13 rfl) ?_
  refine Aj Tryd.f21 (hLx) rfl Tryd.func21 rfl rfl (Aa rfl Ad) (.cons .n .nil) (hd 14 rfl) ?_ (fun ch hp => by simp at hp)
  rintro _ ⟨⟩; refine Ac (Be (Bp rfl rfl) (by omega)) (hd 15 rfl) <| Ab <| Aw rfl <| Ai <| Ae <| zsr <| zmv rfl (hd 17 rfl) <| Ac (B6 rfl rfl) (hd 18 rfl) <| zmv rfl (hd 19 rfl) ?_
  refine Ea 19 rfl (fun h4 => ?_) (fun h4 => ?_)
  · refine Bh 19 rfl rfl rfl (hd 20 rfl) <| Bh 19 rfl rfl rfl (hd 21 rfl) <| Bh 19 rfl rfl rfl (hd 22 rfl) <| Bh 19 rfl rfl rfl (hd 23 rfl) <| Bh 19 rfl rfl rfl (hd 24 rfl) <| Bh 19 rfl rfl rfl (hd 25 rfl) <| Ac (Bi rfl rfl) (hd 26 rfl) <| Ab <| B5 rfl <| zsr <| zas rfl (hd 4 rfl) <| zas rfl (hd 5 rfl) ?_; refine Ab <| Ak ?_
    refine ⟨_, _, (.cons rfl (.cons rfl .nil)), (.t1 (.nil (fr := false) (k := .u64)) (.t1 .i .t0)), ?_⟩
    exact rfl
  · refine Ay 19 rfl rfl (At rfl) (hd 20 rfl) <| Ay 19 rfl rfl (At rfl) (hd 21 rfl) ?_
    refine Ds Tryd.f21 19 rfl rfl (hLx) rfl Tryd.func21 rfl rfl (Aa rfl Ad) (.cons .n .nil) (hd 22 rfl) ?_ (fun ch hp => by simp at hp)
    rintro _ ⟨⟩; refine Ay 19 rfl rfl (Bt rfl rfl (r := ((Aq (x : Int) - 1 : Nat) : Int)) (by rw [Ag (by omega) (by omega)]; omega)) (hd 23 rfl) <| Ay 19 rfl rfl (D3 rfl rfl (by omega) (r := (67108864 : Int).tdiv ((Aq (x : Int) - 1 : Nat) : Int)) (Ag (by rw [show (67108864 : Int).tdiv ((Aq (x : Int) - 1 : Nat) : Int) = ((67108864 / (Aq (x : Int) - 1) : Nat) : Int) from rfl]; exact Int.le_trans (by decide) (Int.natCast_nonneg _)) (by rw [show (67108864 : Int).tdiv ((Aq (x : Int) - 1 : Nat) : Int) = ((67108864 / (Aq (x : Int) - 1) : Nat) : Int) from rfl]; have := Nat.div_le_self 67108864 (Aq (x : Int) - 1); omega))) (hd 24 rfl) <| Ay 19 rfl rfl (B8 (B6 rfl rfl) ((T0 (by omega)).2 he)) (hd 25 rfl) <| Ac (Bn rfl rfl) (hd 26 rfl) <| Ab <| B5 rfl <| zsr <| zas rfl (hd 4 rfl) <| zas rfl (hd 5 rfl) <| Ab <| Ak ?_
    refine ⟨_, _, (.cons rfl (.cons rfl .nil)), (.t1 (.nil (fr := false) (k := .u64)) (.t1 .i .t0)), ?_⟩
    exact rfl

theorem I6 (x n : Nat) (hx : (Ar B32 x).length ≤ 2097152) (hn9 : n < 9223372036854775808) (hn0 : n ≠ 0) (hv : 2 ≤ Aq (x : Int)) (hl9 : Aq (x : Int) ≤ 67108864) (he : (Aq (x : Int) - 1) * n ≤ 67108864) (q : List Int) (c : Int) (hTo : Spec Tryd.prog 23 [.n false .u64 (Ar B32 (x ^ n))] (fun o => o = .ret (.t [.n false .u64 q, .i .i64 c]))) : Spec Tryd.prog 7 [.n false .u64 (Ar B32 x), .i .i64 (n : Int)] (fun o => o = .ret (.t [.n false .u64 q, .i .i64 c])) := by
  refine An [(0, .n false .u64 (Ar B32 x)), (1, .i .i64 (n : Int))] rfl Tryd.func7 rfl (zlb rfl) fun Γ hN hds hL hR => ?_
  have hd := Bu 51 hN
  have hnl : Aq (n : Int) ≤ 63 := B4.2 (by rw [Int.natAbs_natCast]; omega)
  have hnd : (Ar B32 n).length < 1099511627776 := by have := Qo (x := (n : Int)) (by omega); rw [Int.toNat_natCast] at this; omega
  have hn2 : n / 2 ^ Aq (n : Int) = 0 := Nat.div_eq_of_lt (by have h := (B4 (n := (n : Int).natAbs) (k := Aq (n : Int))).1 (Nat.le_refl _); rwa [Int.natAbs_natCast] at h)
  have hx2 : 2 ≤ x := by
    rcases Nat.lt_or_ge x 2 with h | h
    · have : Aq (x : Int) ≤ 1 := B4.2 (by rw [Int.natAbs_natCast]; omega)
      omega
    · exact h
  have hall : ∀ m, m ≤ n → (Ar B32 (x ^ m)).length ≤ 4194306 := fun m hm => by
    have h1 := It hx2 hm
    have h2 := Ng hx2 he
    have h3 := J2 (v := PW x m) (Nat.le_trans h1 h2)
    have h4 : dg (PW x m) = Ar B32 (x ^ m) := dgN
    rw [h4] at h3
    omega
  have hLx : Spec Tryd.prog 21 [.n false .u64 (Ar B32 x)] (fun o => o = .ret (.i .i64 (Aq (x : Int) : Int))) := by have h := Iv (x : Int) (by rw [dgN]; exact (by omega)); rwa [dgN] at h
  have hnM : n ≤ (Aq (x : Int) - 1) * n := Nat.le_mul_of_pos_left n (by omega)
  have hI1 : Spec Tryd.prog 20 [.i .i64 1] (fun o => o = .ret (.n false .u64 (Ar B32 (x ^ (n / 2 ^ Aq (n : Int)))))) := by have h := Kj ((1 : Nat) : Int) (by decide) (by decide); rw [hn2, Nat.pow_zero]; rw [Mn (v := 1) (by decide)] at h; exact h
  have hIn : Spec Tryd.prog 20 [.i .i64 (n : Int)] (fun o => o = .ret (.n false .u64 (Ar B32 n))) := by have h := Kj (n : Int) (by omega) (by omega); rwa [Mn (by omega)] at h
  have hLn : Spec Tryd.prog 21 [.n false .u64 (Ar B32 n)] (fun o => o = .ret (.i .i64 (Aq (n : Int) : Int))) := by have h := Iv (n : Int) (by rw [dgN]; exact (by omega)); rwa [dgN] at h
  refine zsr <| zas rfl (hd 4 rfl) <| zas rfl (hd 5 rfl) <| Ab <| Ae <| zsr <| zmv rfl (hd 8 rfl) <| Ac (Be (Bp rfl rfl) (by omega)) (hd 9 rfl) <| Ab <| Aw rfl <| Ai ?_; refine Ae <| zsr <| zmv rfl (hd 10 rfl) <| Ac (Be (B7 rfl rfl) (by omega)) (hd 11 rfl) <| Ab <| Aw rfl <| Ai <| Ae <| zsr <| zmv rfl (hd 13 rfl) ?_
  refine Aj Tryd.f21 (hLx) rfl Tryd.func21 rfl rfl (Aa rfl Ad) (.cons .n .nil) (hd 14 rfl) ?_ (fun ch hp => by simp at hp)
  rintro _ ⟨⟩; refine Ac (Be (Bp rfl rfl) (by omega)) (hd 15 rfl) <| Ab <| Aw rfl <| Ai <| Ae <| zsr <| zmv rfl (hd 17 rfl) <| Ac (Be (B6 rfl rfl) (by omega)) (hd 18 rfl) <| zmv rfl (hd 19 rfl) <| Ay 19 rfl rfl (At rfl) (hd 20 rfl) <| Ay 19 rfl rfl (At rfl) (hd 21 rfl) ?_
  refine Ds Tryd.f21 19 rfl rfl (hLx) rfl Tryd.func21 rfl rfl (Aa rfl Ad) (.cons .n .nil) (hd 22 rfl) ?_ (fun ch hp => by simp at hp)
  rintro _ ⟨⟩; refine Ay 19 rfl rfl (Bt rfl rfl (r := ((Aq (x : Int) - 1 : Nat) : Int)) (by rw [Ag (by omega) (by omega)]; omega)) (hd 23 rfl) <| Ay 19 rfl rfl (D3 rfl rfl (by omega) (r := (67108864 : Int).tdiv ((Aq (x : Int) - 1 : Nat) : Int)) (Ag (by rw [show (67108864 : Int).tdiv ((Aq (x : Int) - 1 : Nat) : Int) = ((67108864 / (Aq (x : Int) - 1) : Nat) : Int) from rfl]; exact Int.le_trans (by decide) (Int.natCast_nonneg _)) (by rw [show (67108864 : Int).tdiv ((Aq (x : Int) - 1 : Nat) : Int) = ((67108864 / (Aq (x : Int) - 1) : Nat) : Int) from rfl]; have := Nat.div_le_self 67108864 (Aq (x : Int) - 1); omega))) (hd 24 rfl) <| Ay 19 rfl rfl (Be (B6 rfl rfl) (fun h => (T0 (by omega)).1 h he)) (hd 25 rfl) <| Ac (Bn rfl rfl) (hd 26 rfl) <| Ab <| Aw rfl <| Ai <| Ae <| Af ?_
  refine Aj Tryd.f20 (hI1) rfl Tryd.func20 rfl rfl (Aa rfl Ad) (.cons .i .nil) (hd 27 rfl) ?_ (fun ch hp => by simp at hp)
  rintro _ ⟨⟩; refine zas rfl (hd 6 rfl) <| Ab <| Ae <| zsr <| zmv rfl (hd 28 rfl) ?_
  refine Aj Tryd.f20 (hIn) rfl Tryd.func20 rfl rfl (Aa rfl Ad) (.cons .i .nil) (hd 29 rfl) ?_ (fun ch hp => by simp at hp)
  rintro y hy; injection hy with hy; subst hy
  refine Aj Tryd.f21 (hLn) rfl Tryd.func21 rfl rfl (Aa rfl Ad) (.cons .n .nil) (hd 30 rfl) ?_ (fun ch hp => by simp at hp)
  rintro _ ⟨⟩; refine Ac (Bt rfl rfl (r := ((Aq (n : Int) : Nat) : Int) - 1) (Ag (by omega) (by omega))) (hd 31 rfl) <| zas rfl (hd 7 rfl) <| Ab <| Au ?_
  refine Bv (G := Nat) (fun k => k ≤ 63) (fun k => [(6, .n false .u64 (Ar B32 (x ^ (n / 2 ^ k)))), (7, .i .i64 ((k : Int) - 1)), (32, .u), (33, .u), (34, .u), (35, .u), (36, .u), (37, .u), (38, .u), (39, .u), (40, .u), (41, .u), (42, .u), (43, .u), (44, .u), (45, .u), (46, .u)]) (fun _ => _) (fun k => k) (Aq (n : Int)) ?_ ?_ rfl ?_
  · exact hnl
  · exact (.cons (by show some (V.n _ _ _) = some (V.n _ _ _); rw [hn2]) (.cons rfl (.v9 (.v5 .nil))))
  · rintro k hk; refine Ae <| zsr <| zmv rfl (hd 32 rfl) <| Ac (Dl rfl rfl) (hd 33 rfl) <| Ab ?_
    refine Bc rfl (fun h5 => ?_) (fun h5 => ?_)
    · have hk0 : 0 < k := by omega
      have hS : 2 * (n / 2 ^ k) ≤ n := by rw [H8 hk0]; have := Nat.div_le_self n (2 ^ (k - 1)); omega
      have hm2 := hall (2 * (n / 2 ^ k)) hS
      have hm1 := hall (n / 2 ^ k) (Nat.div_le_self _ _)
      refine Ai <| Ae <| Au <| zsr <| zmv rfl (hd 36 rfl) <| zmv rfl (hd 37 rfl) ?_
      refine Aj Tryd.f22 (O7 (x ^ (n / 2 ^ k)) (x ^ (n / 2 ^ k)) (by omega) (by omega)) rfl Tryd.func22 rfl rfl (Aa rfl (Aa rfl Ad)) (.cons .n (.cons .n .nil)) (hd 38 rfl) ?_ (fun ch hp => by simp at hp)
      rintro _ ⟨⟩; refine zas rfl (hd 6 rfl) <| Ab <| Ae ?_
      rw [show (x ^ (n / 2 ^ k)) * (x ^ (n / 2 ^ k)) = (x ^ (2 * (n / 2 ^ k))) from by rw [← Nat.pow_add]; congr 1; omega]
      refine Af <| zmv rfl (hd 39 rfl) <| zmv rfl (hd 40 rfl) <| Ac (Bo (D7 rfl rfl (by omega) rfl) (show V.i .i64 _ = V.i .i64 ((n / 2 ^ (k - 1) : Nat) : Int) from congrArg (V.i .i64) (Eq (by rw [show ((k : Int) - 1).toNat = k - 1 by omega, Nat.min_eq_left (by have h : IntKind.i64.bits = 64 := rfl; omega)])))) (hd 41 rfl) <| Ac (Bo (D8 rfl rfl (by decide) rfl) (show V.i .i64 _ = V.i .i64 ((n / 2 ^ (k - 1) % 2 : Nat) : Int) from rfl)) (hd 42 rfl) <| Ac (B7 rfl rfl) (hd 43 rfl) <| Ab ?_
      refine Bc rfl (fun h6 => ?_) (fun h6 => ?_)
      · have hb1 := Ls hk0 h6
        refine Af <| zmv rfl (hd 44 rfl) <| zmv rfl (hd 45 rfl) ?_
        refine Aj Tryd.f22 (O7 (x ^ (2 * (n / 2 ^ k))) x (by omega) (by omega)) rfl Tryd.func22 rfl rfl (Aa rfl (Aa rfl Ad)) (.cons .n (.cons .n .nil)) (hd 46 rfl) ?_ (fun ch hp => by simp at hp)
        rintro _ ⟨⟩; refine zas rfl (hd 6 rfl) <| Ab <| Af <| zmv rfl (hd 34 rfl) <| Ac (Bt rfl rfl (Ag (by omega) (by omega))) (hd 35 rfl) <| zas rfl (hd 7 rfl) <| Ab ?_
        refine ⟨k - 1, ?_, ?_, rfl, Bb 35 rfl rfl ?_⟩
        · omega
        · omega
        · exact (.cons (by show some (V.n _ _ _) = some (V.n _ _ _); first | rw [← hb0] | rw [← hb1, Nat.pow_succ]) (.cons (by show some (V.i .i64 _) = some (V.i .i64 _); congr 2; omega) (.v9 (.v5 .nil))))
      · have hb0 := Lt hk0 h6
        refine Ai <| Af <| zmv rfl (hd 34 rfl) <| Ac (Bt rfl rfl (Ag (by omega) (by omega))) (hd 35 rfl) <| zas rfl (hd 7 rfl) <| Ab ?_
        refine ⟨k - 1, ?_, ?_, rfl, Bb 31 rfl rfl ?_⟩
        · omega
        · omega
        · exact (.cons (by show some (V.n _ _ _) = some (V.n _ _ _); first | rw [← hb0] | rw [← hb1, Nat.pow_succ]) (.cons (by show some (V.i .i64 _) = some (V.i .i64 _); congr 2; omega) (.v9 (.v5 .nil))))
    · obtain rfl : k = 0 := by omega
      refine Br <| Ae ?_
      rw [Nat.pow_zero, Nat.div_one]
      refine Af <| zmv rfl (hd 47 rfl) ?_
      refine Aj Tryd.f23 (hTo) rfl Tryd.func23 rfl rfl (Aa rfl Ad) (.cons .n .nil) (hd 48 rfl) ?_ (fun ch hp => by simp at hp)
      rintro _ ⟨⟩; refine Ac (Ap rfl rfl) (hd 49 rfl) <| Ac (Ap rfl rfl) (hd 50 rfl) <| zas rfl (hd 4 rfl) <| zas rfl (hd 5 rfl) <| Ab <| Ak ?_
      refine ⟨_, _, (.cons rfl (.cons rfl .nil)), (.t1 .n (.t1 .i .t0)), ?_⟩
      exact rfl

theorem H5 (s : Bool) (l : List Int) (e : Int) (he : e ≠ 0) : SpecM Tryd.prog 19 [.b s, .n false .u64 l, .i .i64 e] [] (fun o G => o = .ret (.t [.a [.b false, .o 0 0 0 ([] : List Int).length], .i .i64 e]) ∧ G = [⟨58, 1, 0, true, ints .u64 ([] : List Int)⟩]) := by
  refine Dr [(0, .b s), (1, .n false .u64 l), (2, .i .i64 e)] rfl Tryd.func19 rfl (zlb rfl) fun Γ hN hds hL hR => ?_
  have hd := Bu 18 hN
  refine zsr <| Bl (Ao (id := 0) By (by decide) rfl (by decide) rfl) (hd 6 rfl) <| zas rfl (hd 7 rfl) <| Ab <| Ae <| zsr <| zmv rfl (hd 8 rfl) <| Ac (B8 (Dy rfl rfl) he) (hd 9 rfl) <| Ab <| B5 rfl <| Ae ?_; refine Af <| Ac (Ct (is := []) (xs := []) (pls := []) By Ko rfl Ad rfl trivial (D0 rfl) rfl) (hd 10 rfl) <| zmv rfl (hd 11 rfl) <| A6 (Ah rfl rfl rfl Cc rfl rfl (zlb rfl)) <| zas rfl (hd 7 rfl) <| Ab <| Gj (id := 0) 1 58 1 rfl rfl rfl <| Ak ?_
  refine ⟨[1], _, (.t [.a [.b false, .o 0 0 0 0], .i .i64 e]), (.cons (ResV.cell B3 rfl rfl rfl rfl) (.cons rfl .nil)), rfl, rfl, (by decide), (by first | exact Ax B2 A1 | exact Ax rfl A1), ?_⟩
  exact ⟨rfl, rfl⟩

theorem Q9 (sa : Bool) (a : List Int) (n : Int) (r : List Int) (e : Int) (s2 : Bool) (r2 : List Int) (e2 : Int) (hPw : Spec Tryd.prog 18 [.n false .u64 a, .i .i64 n] (fun o => o = .ret (.t [.n false .u64 r, .i .i64 e]))) (hRe : SpecM Tryd.prog 19 [.b (sa && decide ((n.tmod 2) = 1)), .n false .u64 r, .i .i64 e] [] (fun o G => o = .ret (.t [.a [.b s2, .o 0 0 0 r2.length], .i .i64 e2]) ∧ G = [⟨58, 1, 0, true, ints .u64 r2⟩])) : SpecM Tryd.prog 6 [.a [.b sa, .n false .u64 a], .i .i64 n] [] (fun o G => o = .ret (.t [.a [.b s2, .o 0 0 0 r2.length], .i .i64 e2]) ∧ G = [⟨58, 1, 0, true, ints .u64 r2⟩]) := by
  refine Dr [(0, .a [.b sa, .n false .u64 a]), (1, .i .i64 n)] rfl Tryd.func6 rfl (zlb rfl) fun Γ hN hds hL hR => ?_
  have hd := Bu 27 hN
  refine zsr <| Bl (Ci (id := 0) (n := 2) rfl rfl rfl (by decide) rfl) (hd 2 rfl) <| Bl (Ao (id := 1) By (by decide) rfl (by decide) rfl) (hd 4 rfl) <| zas rfl (hd 5 rfl) <| Ab <| zsr <| Ac (Ba Cn rfl rfl rfl) (hd 9 rfl) <| Ac (A9 D2 rfl rfl rfl) (hd 10 rfl) <| zmv rfl (hd 11 rfl) ?_
  refine Aj Tryd.f18 (hPw) rfl Tryd.func18 rfl rfl (Aa rfl (Aa rfl Ad)) (.cons .n (.cons .i .nil)) (hd 12 rfl) ?_ (fun ch hp => by simp at hp)
  rintro _ ⟨⟩; refine zmv rfl (hd 8 rfl) <| Ac (Ap rfl rfl) (hd 13 rfl) <| Ac (Ap rfl rfl) (hd 14 rfl) <| zas rfl (hd 6 rfl) <| zas rfl (hd 7 rfl) <| Ab <| zsr <| Ac (Ba Cy rfl rfl rfl) (hd 15 rfl) <| Ac (A9 Ez rfl rfl rfl) (hd 16 rfl) <| zmv rfl (hd 17 rfl) ?_
  refine Fj 17 rfl (fun h1 => ?_) (fun h1 => ?_)
  · subst h1; refine Ay 17 rfl rfl (At rfl) (hd 18 rfl) <| Ay 17 rfl rfl (Bo (D8 rfl rfl (by decide) rfl) (show V.i .i64 _ = V.i .i64 (n.tmod 2) from rfl)) (hd 19 rfl) <| Ay 17 rfl rfl (B7 rfl rfl) (hd 20 rfl) <| Ac (Bi rfl rfl) (hd 21 rfl) <| zmv rfl (hd 22 rfl) <| zmv rfl (hd 23 rfl) ?_
    refine Dt Tryd.f19 (hRe) (fun o G ⟨_, h⟩ => h ▸ Ax B2 A1) rfl Tryd.func19 rfl rfl (Aa rfl (Aa rfl (Aa rfl Ad))) (.cons .b (.cons .n (.cons .i .nil))) (hd 24 rfl) ?_ (fun ch G hp => by simp at hp)
    rintro y G ⟨hy, rfl⟩; injection hy with hy; subst hy
    show JO _ _ _ _ ((24, .t [.a [.b s2, .o 2 0 0 r2.length], .i .i64 e2]) :: _) _ _
    refine Ac (Ap rfl rfl) (hd 25 rfl) <| Ac (Ap rfl rfl) (hd 26 rfl) <| A6 (Ah rfl rfl rfl Cc rfl rfl (zlb rfl)) <| zas rfl (hd 5 rfl) <| Ab <| Ak ?_
    refine ⟨[2], _, (.t [.a [.b s2, .o 0 0 0 r2.length], .i .i64 e2]), (.cons (ResV.cell B3 rfl rfl rfl rfl) (.cons rfl .nil)), rfl, rfl, (by decide), (by first | exact Ax B2 A1 | exact Ax rfl A1), ?_⟩
    exact ⟨rfl, rfl⟩
  · subst h1; refine Bh 17 rfl rfl rfl (hd 18 rfl) <| Bh 17 rfl rfl rfl (hd 19 rfl) <| Bh 17 rfl rfl rfl (hd 20 rfl) <| Ac (Bn rfl rfl) (hd 21 rfl) <| zmv rfl (hd 22 rfl) <| zmv rfl (hd 23 rfl) ?_
    refine Dt Tryd.f19 (hRe) (fun o G ⟨_, h⟩ => h ▸ Ax B2 A1) rfl Tryd.func19 rfl rfl (Aa rfl (Aa rfl (Aa rfl Ad))) (.cons .b (.cons .n (.cons .i .nil))) (hd 24 rfl) ?_ (fun ch G hp => by simp at hp)
    rintro y G ⟨hy, rfl⟩; injection hy with hy; subst hy
    show JO _ _ _ _ ((24, .t [.a [.b s2, .o 2 0 0 r2.length], .i .i64 e2]) :: _) _ _
    refine Ac (Ap rfl rfl) (hd 25 rfl) <| Ac (Ap rfl rfl) (hd 26 rfl) <| A6 (Ah rfl rfl rfl Cc rfl rfl (zlb rfl)) <| zas rfl (hd 5 rfl) <| Ab <| Ak ?_
    refine ⟨[2], _, (.t [.a [.b s2, .o 0 0 0 r2.length], .i .i64 e2]), (.cons (ResV.cell B3 rfl rfl rfl rfl) (.cons rfl .nil)), rfl, rfl, (by decide), (by first | exact Ax B2 A1 | exact Ax rfl A1), ?_⟩
    exact ⟨rfl, rfl⟩

theorem Ra (v : Int) (n : Nat) (hv : Aq v ≤ 67108864) (hn : n ≤ 1099511627776) (ho : (lm v).length ≤ n / 64) : Spec Tryd.prog 31 [.n false .u64 (lm v), .i .i64 (n : Int)] (fun o => o = .ret (.t [.n false .u64 [], .i .i64 0])) := by
  refine An [(0, .n false .u64 (lm v)), (1, .i .i64 (n : Int))] rfl Tryd.func31 rfl (zlb rfl) fun Γ hN hds hL hR => ?_
  have hd := Bu 77 hN
  have hlv := Cd hv
  have hTr : Spec Tryd.prog 46 [.n false .u64 (lm v)] (fun o => o = .ret (.n false .u64 (lm v))) := by have h := D4 (lm v) (by omega); rwa [Ka (Aaz _)] at h
  refine zsr <| zas rfl (hd 4 rfl) <| zas rfl (hd 5 rfl) <| Ab <| Ae <| zsr <| zmv rfl (hd 10 rfl) <| Ac (Be (Bp rfl rfl) (by omega)) (hd 11 rfl) <| zmv rfl (hd 12 rfl) <| Ay 12 rfl rfl (At rfl) (hd 13 rfl) <| Ay 12 rfl rfl (Be (B6 rfl rfl) (by omega)) (hd 14 rfl) ?_; refine Ac (Bn rfl rfl) (hd 15 rfl) <| Ab <| Aw rfl <| Ai <| zsr <| zmv rfl (hd 16 rfl) ?_
  refine Aj Tryd.f46 (hTr) rfl Tryd.func46 rfl rfl (Aa rfl Ad) (.cons .n .nil) (hd 17 rfl) ?_ (fun ch hp => by simp at hp)
  rintro _ ⟨⟩; refine zas rfl (hd 0 rfl) <| Ab <| zsr <| zmv rfl (hd 18 rfl) <| Ac (D3 rfl rfl (by decide) (r := ((n / 64 : Nat) : Int)) (by rw [show ((n : Int).tdiv 64) = ((n / 64 : Nat) : Int) from rfl, Ag (by omega) (by omega)])) (hd 19 rfl) <| zmv rfl (hd 20 rfl) <| Ac (Bo (D8 rfl rfl (by decide) rfl) (show V.i .i64 ((n : Int).tmod 64) = V.i .i64 ((n % 64 : Nat) : Int) from rfl)) (hd 21 rfl) <| Ac (Dd Ma N7 rfl (r := ((n % 64 : Nat) : Int)) (A5 (by omega) (by omega))) (hd 22 rfl) <| zas rfl (hd 6 rfl) <| zas rfl (hd 7 rfl) <| Ab <| Ae ?_; refine zsr <| zmv rfl (hd 23 rfl) <| zmv rfl (hd 24 rfl) <| Ac (Al Bj rfl) (hd 25 rfl) <| Ac (B8 (Dl rfl rfl) (by omega)) (hd 26 rfl) <| Ab <| B5 rfl <| zsr <| zas rfl (hd 4 rfl) <| zas rfl (hd 5 rfl) <| Ab ?_; refine Ak ?_
  refine ⟨_, _, (.cons rfl (.cons rfl .nil)), (.t1 (.nil (fr := false) (k := .u64)) (.t1 .i .t0)), ?_⟩
  exact rfl

theorem K9 (v : Int) (n : Nat) (hv : Aq v ≤ 67108864) (hn : n ≤ 1099511627776) : Spec Tryd.prog 31 [.n false .u64 (lm v), .i .i64 (n : Int)] (fun o => o = .ret (.t [.n false .u64 (lm ((v.natAbs / 2 ^ n : Nat) : Int)), .i .i64 0])) := by
  have hal : lm ((v.natAbs : Nat) : Int) = lm v := by unfold lm; rw [Int.natAbs_natCast]
  rcases Nat.lt_or_ge (n / 64) (lm v).length with h | h
  · have h1 := Xj v.natAbs n (by have : Aq ((v.natAbs : Nat) : Int) = Aq v := (by unfold Aq; rw [Int.natAbs_natCast]); omega) (by rw [hal]; exact h)
    rwa [hal] at h1
  · have h1 := Ra v n hv hn h
    have h2 := Abn v.natAbs
    rw [hal] at h2
    have h3 : v.natAbs / 2 ^ n = 0 := Nat.div_eq_of_lt (Nat.lt_of_lt_of_le h2 (Nat.pow_le_pow_right (by decide) (by omega)))
    rw [h3, show ((0 : Nat) : Int) = 0 from rfl, Abo]
    exact h1

theorem S7 (sa : Bool) (a : List Int) (v n : Int) (la : a.length < 4294967296) (ua : Az a) (ev : sv sa a = v) (hv : Aq v ≤ 67108860) (h0 : v = 0) : SpecM Tryd.prog 11 [.a [.b sa, .n false .u64 a], .i .i64 n] [] (fun o G => o = .ret (.t [.a [.b false, .o 0 0 0 ([] : List Int).length], .i .i64 0]) ∧ G = [⟨58, 1, 0, true, ints .u64 ([] : List Int)⟩]) := by
  refine Dr [(0, .a [.b sa, .n false .u64 a]), (1, .i .i64 n)] rfl Tryd.func11 rfl (zlb rfl) fun Γ hN hds hL hR => ?_
  have hd := Bu 74 hN
  have hlv := Cd (v := v) (by omega)
  have hNo : Spec Tryd.prog 28 [.a [.b sa, .n false .u64 a]] (fun o => o = .ret (.a [.b (decide (v < 0)), .n true .u64 (lm v)])) := by have h := G6 sa a (by omega); have e := Ex ua ev; rw [e.1, e.2.1] at h; exact h
  have hnz := @Ig v
  have hl0 : (lm v).length = 0 := by rw [h0, Abo]; rfl
  refine zsr <| Bl (Ci (id := 0) (n := 2) rfl rfl rfl (by decide) rfl) (hd 2 rfl) <| Bl (Ao (id := 1) By (by decide) rfl (by decide) rfl) (hd 4 rfl) <| zas rfl (hd 5 rfl) <| Ab <| zsr <| Ac (A8 B3 rfl rfl rfl rfl) (hd 11 rfl) ?_
  refine Aj Tryd.f28 (hNo) rfl Tryd.func28 rfl rfl (Aa rfl Ad) (.cons (.a1 .b (.a1 .n .a0)) .nil) (hd 12 rfl) ?_ (fun ch hp => by simp at hp)
  rintro _ ⟨⟩; refine A6 (Ah rfl rfl rfl Cc rfl rfl (zlb rfl)) <| Ab <| Ae <| Ae <| Hr (H' := [⟨27, 2, 0, true, [.b (decide (v < 0)), .n true .u64 (lm v)]⟩, ⟨27, 2, 0, true, [.b false, .c (.slice none 0 0)]⟩]) rfl <| Af <| Ac (Ba Cn rfl rfl rfl) (hd 13 rfl) <| Ac (A9 D2 rfl rfl rfl) (hd 14 rfl) <| Ac (Al Bj rfl) (hd 15 rfl) <| Ac (B8 (B7 rfl rfl) (by omega)) (hd 16 rfl) <| Ab <| B5 rfl <| Ae ?_; refine Af <| Ac (Ct (is := []) (xs := []) (pls := []) By Ko rfl Ad rfl trivial (D0 rfl) rfl) (hd 17 rfl) <| A6 (Ah rfl rfl rfl Cc rfl rfl (zlb rfl)) <| zas rfl (hd 5 rfl) <| Ab <| Gj (id := 1) 1 58 1 rfl rfl rfl <| Ak ?_
  refine ⟨[2], _, (.t [.a [.b false, .o 0 0 0 0], .i .i64 0]), (.cons (ResV.cell B3 rfl rfl rfl rfl) (.cons rfl .nil)), rfl, rfl, (by decide), (by first | exact Ax B2 A1 | exact Ax rfl A1), ?_⟩
  exact ⟨rfl, rfl⟩

theorem Ta (sa : Bool) (a : List Int) (v n : Int) (la : a.length < 4294967296) (ua : Az a) (ev : sv sa a = v) (hv : Aq v ≤ 67108860) (h0 : v ≠ 0) (hn : 67108864 < n) : SpecM Tryd.prog 11 [.a [.b sa, .n false .u64 a], .i .i64 n] [] (fun o G => o = .ret (.t [.a [.b false, .o 0 0 0 ([] : List Int).length], .i .i64 3]) ∧ G = [⟨58, 1, 0, true, ints .u64 ([] : List Int)⟩]) := by
  refine Dr [(0, .a [.b sa, .n false .u64 a]), (1, .i .i64 n)] rfl Tryd.func11 rfl (zlb rfl) fun Γ hN hds hL hR => ?_
  have hd := Bu 74 hN
  have hlv := Cd (v := v) (by omega)
  have hNo : Spec Tryd.prog 28 [.a [.b sa, .n false .u64 a]] (fun o => o = .ret (.a [.b (decide (v < 0)), .n true .u64 (lm v)])) := by have h := G6 sa a (by omega); have e := Ex ua ev; rw [e.1, e.2.1] at h; exact h
  have hnz := @Ig v
  have hnl := List.length_pos_iff.2 (Ku (v := v) h0)
  refine zsr <| Bl (Ci (id := 0) (n := 2) rfl rfl rfl (by decide) rfl) (hd 2 rfl) <| Bl (Ao (id := 1) By (by decide) rfl (by decide) rfl) (hd 4 rfl) <| zas rfl (hd 5 rfl) <| Ab <| zsr <| Ac (A8 B3 rfl rfl rfl rfl) (hd 11 rfl) ?_
  refine Aj Tryd.f28 (hNo) rfl Tryd.func28 rfl rfl (Aa rfl Ad) (.cons (.a1 .b (.a1 .n .a0)) .nil) (hd 12 rfl) ?_ (fun ch hp => by simp at hp)
  rintro _ ⟨⟩; refine A6 (Ah rfl rfl rfl Cc rfl rfl (zlb rfl)) <| Ab <| Ae <| Ae <| Hr (H' := [⟨27, 2, 0, true, [.b (decide (v < 0)), .n true .u64 (lm v)]⟩, ⟨27, 2, 0, true, [.b false, .c (.slice none 0 0)]⟩]) rfl <| Af <| Ac (Ba Cn rfl rfl rfl) (hd 13 rfl) <| Ac (A9 D2 rfl rfl rfl) (hd 14 rfl) <| Ac (Al Bj rfl) (hd 15 rfl) <| Ac (Be (B7 rfl rfl) (by omega)) (hd 16 rfl) <| Ab <| Aw rfl <| Ai ?_; refine Ae <| zsr <| zmv rfl (hd 18 rfl) <| Ac (B8 (Dl rfl rfl) (by omega)) (hd 19 rfl) <| Ab <| B5 rfl <| Ae <| zsr <| zmv rfl (hd 20 rfl) <| Ac (B8 (B6 rfl rfl) (by omega)) (hd 21 rfl) <| Ab ?_; refine B5 rfl <| zsr <| Ac (Ct (is := []) (xs := []) (pls := []) By Ko rfl Ad rfl trivial (D0 rfl) rfl) (hd 22 rfl) <| A6 (Ah rfl rfl rfl Cc rfl rfl (zlb rfl)) <| zas rfl (hd 5 rfl) <| Ab <| Gj (id := 1) 1 58 1 rfl rfl rfl <| Ak ?_
  refine ⟨[2], _, (.t [.a [.b false, .o 0 0 0 0], .i .i64 3]), (.cons (ResV.cell B3 rfl rfl rfl rfl) (.cons rfl .nil)), rfl, rfl, (by decide), (by first | exact Ax B2 A1 | exact Ax rfl A1), ?_⟩
  exact ⟨rfl, rfl⟩

theorem Nf (sa : Bool) (a : List Int) (v n : Int) (la : a.length < 4294967296) (ua : Az a) (ev : sv sa a = v) (hv : Aq v ≤ 67108860) (r : List Int) (e : Int) (s2 : Bool) (r2 : List Int) (e2 : Int) (h0 : v ≠ 0) (hn0 : 0 ≤ n) (hn : n ≤ 67108864) (hLe : Spec Tryd.prog 29 [.n false .u64 (lm v), .i .i64 n] (fun o => o = .ret (.t [.n false .u64 r, .i .i64 e]))) (hRe : SpecM Tryd.prog 19 [.b (decide (v < 0)), .n false .u64 r, .i .i64 e] [] (fun o G => o = .ret (.t [.a [.b s2, .o 0 0 0 r2.length], .i .i64 e2]) ∧ G = [⟨58, 1, 0, true, ints .u64 r2⟩])) : SpecM Tryd.prog 11 [.a [.b sa, .n false .u64 a], .i .i64 n] [] (fun o G => o = .ret (.t [.a [.b s2, .o 0 0 0 r2.length], .i .i64 e2]) ∧ G = [⟨58, 1, 0, true, ints .u64 r2⟩]) := by
  refine Dr [(0, .a [.b sa, .n false .u64 a]), (1, .i .i64 n)] rfl Tryd.func11 rfl (zlb rfl) fun Γ hN hds hL hR => ?_
  have hd := Bu 74 hN
  have hlv := Cd (v := v) (by omega)
  have hNo : Spec Tryd.prog 28 [.a [.b sa, .n false .u64 a]] (fun o => o = .ret (.a [.b (decide (v < 0)), .n true .u64 (lm v)])) := by have h := G6 sa a (by omega); have e := Ex ua ev; rw [e.1, e.2.1] at h; exact h
  have hnz := @Ig v
  have hnl := List.length_pos_iff.2 (Ku (v := v) h0)
  refine zsr <| Bl (Ci (id := 0) (n := 2) rfl rfl rfl (by decide) rfl) (hd 2 rfl) <| Bl (Ao (id := 1) By (by decide) rfl (by decide) rfl) (hd 4 rfl) <| zas rfl (hd 5 rfl) <| Ab <| zsr <| Ac (A8 B3 rfl rfl rfl rfl) (hd 11 rfl) ?_
  refine Aj Tryd.f28 (hNo) rfl Tryd.func28 rfl rfl (Aa rfl Ad) (.cons (.a1 .b (.a1 .n .a0)) .nil) (hd 12 rfl) ?_ (fun ch hp => by simp at hp)
  rintro _ ⟨⟩; refine A6 (Ah rfl rfl rfl Cc rfl rfl (zlb rfl)) <| Ab <| Ae <| Ae <| Hr (H' := [⟨27, 2, 0, true, [.b (decide (v < 0)), .n true .u64 (lm v)]⟩, ⟨27, 2, 0, true, [.b false, .c (.slice none 0 0)]⟩]) rfl <| Af <| Ac (Ba Cn rfl rfl rfl) (hd 13 rfl) <| Ac (A9 D2 rfl rfl rfl) (hd 14 rfl) <| Ac (Al Bj rfl) (hd 15 rfl) <| Ac (Be (B7 rfl rfl) (by omega)) (hd 16 rfl) <| Ab <| Aw rfl <| Ai ?_; refine Ae <| zsr <| zmv rfl (hd 18 rfl) <| Ac (B8 (Dl rfl rfl) (by omega)) (hd 19 rfl) <| Ab <| B5 rfl <| Ae <| zsr <| zmv rfl (hd 20 rfl) <| Ac (Be (B6 rfl rfl) (by omega)) (hd 21 rfl) <| Ab ?_; refine Aw rfl <| Ai <| zsr <| Ac (Ba Cn rfl rfl rfl) (hd 24 rfl) <| Ac (A9 D2 rfl rfl rfl) (hd 25 rfl) <| zmv rfl (hd 26 rfl) ?_
  refine Aj Tryd.f29 (hLe) rfl Tryd.func29 rfl rfl (Aa rfl (Aa rfl Ad)) (.cons .n (.cons .i .nil)) (hd 27 rfl) ?_ (fun ch hp => by simp at hp)
  rintro _ ⟨⟩; refine zmv rfl (hd 23 rfl) <| Ac (Ap rfl rfl) (hd 28 rfl) <| Ac (Ap rfl rfl) (hd 29 rfl) <| zas rfl (hd 6 rfl) <| zas rfl (hd 7 rfl) <| Ab <| zsr <| Ac (Ba Cy rfl rfl rfl) (hd 30 rfl) <| Ac (A9 Ez rfl rfl rfl) (hd 31 rfl) <| zmv rfl (hd 32 rfl) <| zmv rfl (hd 33 rfl) ?_
  refine Dt Tryd.f19 (hRe) (fun o G ⟨_, h⟩ => h ▸ Ax B2 A1) rfl Tryd.func19 rfl rfl (Aa rfl (Aa rfl (Aa rfl Ad))) (.cons .b (.cons .n (.cons .i .nil))) (hd 34 rfl) ?_ (fun ch G hp => by simp at hp)
  rintro y G ⟨hy, rfl⟩; injection hy with hy; subst hy
  show JO _ _ _ _ ((34, .t [.a [.b s2, .o 2 0 0 r2.length], .i .i64 e2]) :: _) _ _
  refine Ac (Ap rfl rfl) (hd 35 rfl) <| Ac (Ap rfl rfl) (hd 36 rfl) <| A6 (Ah rfl rfl rfl Cc rfl rfl (zlb rfl)) <| zas rfl (hd 5 rfl) <| Ab <| Ak ?_
  refine ⟨[2], _, (.t [.a [.b s2, .o 0 0 0 r2.length], .i .i64 e2]), (.cons (ResV.cell B3 rfl rfl rfl rfl) (.cons rfl .nil)), rfl, rfl, (by decide), (by first | exact Ax B2 A1 | exact Ax rfl A1), ?_⟩
  exact ⟨rfl, rfl⟩

theorem S8 (sa : Bool) (a : List Int) (v n : Int) (la : a.length < 4294967296) (ua : Az a) (ev : sv sa a = v) (hv : Aq v ≤ 67108860) (m : Nat) (hn : n < 0) (hm : (m : Int) = min (-n) 1099511627776) (h0 : v ≠ 0) (hs : 0 < v) : SpecM Tryd.prog 11 [.a [.b sa, .n false .u64 a], .i .i64 n] [] (fun o G => o = .ret (.t [.a [.b (decide ((v / ((2 ^ m : Nat) : Int)) < 0)), .o 0 0 0 (lm (v / ((2 ^ m : Nat) : Int))).length], .i .i64 0]) ∧ G = [⟨58, 1, 0, true, ints .u64 (lm (v / ((2 ^ m : Nat) : Int)))⟩]) := by
  refine Dr [(0, .a [.b sa, .n false .u64 a]), (1, .i .i64 n)] rfl Tryd.func11 rfl (zlb rfl) fun Γ hN hds hL hR => ?_
  have hd := Bu 74 hN
  have hlv := Cd (v := v) (by omega)
  have hNo : Spec Tryd.prog 28 [.a [.b sa, .n false .u64 a]] (fun o => o = .ret (.a [.b (decide (v < 0)), .n true .u64 (lm v)])) := by have h := G6 sa a (by omega); have e := Ex ua ev; rw [e.1, e.2.1] at h; exact h
  have hnz := @Ig v
  have hnl := List.length_pos_iff.2 (Ku (v := v) h0)
  have hRi := K9 v m (by omega) (by omega)
  have hqa : (v.natAbs / 2 ^ m) ≤ v.natAbs := Nat.div_le_self _ _
  have hql : Aq (((v.natAbs / 2 ^ m) : Nat) : Int) ≤ Aq v := D9 (by rw [Int.natAbs_natCast]; exact hqa)
  have hqL := Cd (v := (((v.natAbs / 2 ^ m) : Nat) : Int)) (by omega)
  have hqv : (v / ((2 ^ m : Nat) : Int)) = (((v.natAbs / 2 ^ m) : Nat) : Int) := Oo (by omega)
  refine zsr <| Bl (Ci (id := 0) (n := 2) rfl rfl rfl (by decide) rfl) (hd 2 rfl) <| Bl (Ao (id := 1) By (by decide) rfl (by decide) rfl) (hd 4 rfl) <| zas rfl (hd 5 rfl) <| Ab <| zsr <| Ac (A8 B3 rfl rfl rfl rfl) (hd 11 rfl) ?_
  refine Aj Tryd.f28 (hNo) rfl Tryd.func28 rfl rfl (Aa rfl Ad) (.cons (.a1 .b (.a1 .n .a0)) .nil) (hd 12 rfl) ?_ (fun ch hp => by simp at hp)
  rintro _ ⟨⟩; refine A6 (Ah rfl rfl rfl Cc rfl rfl (zlb rfl)) <| Ab <| Ae <| Ae <| Hr (H' := [⟨27, 2, 0, true, [.b (decide (v < 0)), .n true .u64 (lm v)]⟩, ⟨27, 2, 0, true, [.b false, .c (.slice none 0 0)]⟩]) rfl <| Af <| Ac (Ba Cn rfl rfl rfl) (hd 13 rfl) <| Ac (A9 D2 rfl rfl rfl) (hd 14 rfl) <| Ac (Al Bj rfl) (hd 15 rfl) <| Ac (Be (B7 rfl rfl) (by omega)) (hd 16 rfl) <| Ab <| Aw rfl <| Ai ?_; refine Ae <| zsr <| zmv rfl (hd 18 rfl) <| Ac (Be (Dl rfl rfl) (by omega)) (hd 19 rfl) <| Ab <| Aw rfl <| Ai <| zsr <| zmv rfl (hd 37 rfl) <| Ac (Bo (Pi rfl rfl) (show V.i .i64 _ = V.i .i64 (-(m : Int)) by congr 1; omega)) (hd 38 rfl) <| Ac (Gg rfl (r := (m : Int)) (by rw [Ag (by omega) (by omega)]; omega)) (hd 39 rfl) ?_; refine zas rfl (hd 1 rfl) <| Ab <| zsr <| Ac (Ba Cy rfl rfl rfl) (hd 40 rfl) <| Ac (Be (A9 Ez rfl rfl rfl) (by omega)) (hd 41 rfl) <| zmv rfl (hd 42 rfl) <| Bh 42 rfl rfl rfl (hd 43 rfl) <| Bh 42 rfl rfl rfl (hd 44 rfl) <| Bh 42 rfl rfl rfl (hd 45 rfl) <| Bh 42 rfl rfl rfl (hd 46 rfl) <| Bh 42 rfl rfl rfl (hd 47 rfl) <| Ac (Bn rfl rfl) (hd 48 rfl) ?_; refine zas rfl (hd 8 rfl) <| Ab <| zsr <| Ac (Ba Cn rfl rfl rfl) (hd 50 rfl) <| Ac (A9 D2 rfl rfl rfl) (hd 51 rfl) <| zmv rfl (hd 52 rfl) ?_
  refine Aj Tryd.f31 (hRi) rfl Tryd.func31 rfl rfl (Aa rfl (Aa rfl Ad)) (.cons .n (.cons .i .nil)) (hd 53 rfl) ?_ (fun ch hp => by simp at hp)
  rintro _ ⟨⟩; refine zmv rfl (hd 49 rfl) <| Ac (Ap rfl rfl) (hd 54 rfl) <| Ac (Ap rfl rfl) (hd 55 rfl) <| zas rfl (hd 9 rfl) <| zas rfl (hd 10 rfl) <| Ab <| Ae <| zsr <| zmv rfl (hd 56 rfl) <| Ac (B8 (B7 rfl rfl) rfl) (hd 57 rfl) <| zmv rfl (hd 58 rfl) <| Ay 58 rfl rfl (At rfl) (hd 59 rfl) ?_; refine Ac (Bi rfl rfl) (hd 60 rfl) <| Ab <| Aw rfl <| Ai <| zsr <| Ac (Ba Cy rfl rfl rfl) (hd 67 rfl) <| Ac (Be (A9 Ez rfl rfl rfl) (by omega)) (hd 68 rfl) <| zmv rfl (hd 69 rfl) <| zmv rfl (hd 70 rfl) ?_
  refine Dt Tryd.f19 (E7 false (lm (((v.natAbs / 2 ^ m) : Nat) : Int)) (v / ((2 ^ m : Nat) : Int)) (by have := Cd (v := (((v.natAbs / 2 ^ m) : Nat) : Int)) (by omega); omega) (Gz _) (by show vl (lm (((v.natAbs / 2 ^ m) : Nat) : Int)) = _; rw [Jg (Int.natCast_nonneg _)]; omega) (by rw [hqv]; omega)) (fun o G ⟨_, h⟩ => h ▸ Ax B2 A1) rfl Tryd.func19 rfl rfl (Aa rfl (Aa rfl (Aa rfl Ad))) (.cons .b (.cons .n (.cons .i .nil))) (hd 71 rfl) ?_ (fun ch G hp => by simp at hp)
  rintro y G ⟨hy, rfl⟩; injection hy with hy; subst hy
  show JO _ _ _ _ ((71, .t [.a [.b (decide ((v / ((2 ^ m : Nat) : Int)) < 0)), .o 2 0 0 (lm (v / ((2 ^ m : Nat) : Int))).length], .i .i64 0]) :: _) _ _
  refine Ac (Ap rfl rfl) (hd 72 rfl) <| Ac (Ap rfl rfl) (hd 73 rfl) <| A6 (Ah rfl rfl rfl Cc rfl rfl (zlb rfl)) <| zas rfl (hd 5 rfl) <| Ab <| Ak ?_
  refine ⟨[2], _, (.t [.a [.b (decide ((v / ((2 ^ m : Nat) : Int)) < 0)), .o 0 0 0 (lm (v / ((2 ^ m : Nat) : Int))).length], .i .i64 0]), (.cons (ResV.cell B3 rfl rfl rfl rfl) (.cons rfl .nil)), rfl, rfl, (by decide), (by first | exact Ax B2 A1 | exact Ax rfl A1), ?_⟩
  exact ⟨rfl, rfl⟩

theorem S9 (sa : Bool) (a : List Int) (v n : Int) (la : a.length < 4294967296) (ua : Az a) (ev : sv sa a = v) (hv : Aq v ≤ 67108860) (m : Nat) (hn : n < 0) (hm : (m : Int) = min (-n) 1099511627776) (h0 : v ≠ 0) (hs : v < 0) : Ir Tryd.prog 11 0 tzCells [.a [.b sa, .n false .u64 a], .i .i64 n] (fun o G => o = .ret (.t [.a [.b (decide ((v / ((2 ^ m : Nat) : Int)) < 0)), .o 0 0 0 (lm (v / ((2 ^ m : Nat) : Int))).length], .i .i64 0]) ∧ G = [⟨58, 1, 0, true, ints .u64 (lm (v / ((2 ^ m : Nat) : Int)))⟩]) := by
  refine Om [(0, .a [.b sa, .n false .u64 a]), (1, .i .i64 n)] rfl Tryd.func11 rfl (zlb rfl) fun Γ hTb hN hds hL hR => ?_
  have hd := Bu 74 hN
  have hlv := Cd (v := v) (by omega)
  have hNo : Spec Tryd.prog 28 [.a [.b sa, .n false .u64 a]] (fun o => o = .ret (.a [.b (decide (v < 0)), .n true .u64 (lm v)])) := by have h := G6 sa a (by omega); have e := Ex ua ev; rw [e.1, e.2.1] at h; exact h
  have hnz := @Ig v
  have hnl := List.length_pos_iff.2 (Ku (v := v) h0)
  have hRi := K9 v m (by omega) (by omega)
  have hqa : (v.natAbs / 2 ^ m) ≤ v.natAbs := Nat.div_le_self _ _
  have hql : Aq (((v.natAbs / 2 ^ m) : Nat) : Int) ≤ Aq v := D9 (by rw [Int.natAbs_natCast]; exact hqa)
  have hqL := Cd (v := (((v.natAbs / 2 ^ m) : Nat) : Int)) (by omega)
  have hTl : Is Tryd.prog 30 0 tzCells [.n false .u64 (lm v)] (fun o => o = .ret (.i .i64 ((tz v.natAbs : Nat) : Int))) := by have h := Wh (lm v) (by omega) (Gz _); rwa [T8, Int.toNat_natCast] at h
  have hF1 : Spec Tryd.prog 33 [.i .u64 1] (fun o => o = .ret (.n true .u64 [1])) := by have h := Hd 1; rwa [if_neg (by decide)] at h
  have hl1 : Aq 1 = 1 := by decide +kernel
  have hs1 := Mx (((v.natAbs / 2 ^ m) : Nat) : Int) 1
  have hc1 : Aq (((v.natAbs / 2 ^ m) + 1 : Nat) : Int) = Aq ((((v.natAbs / 2 ^ m) : Nat) : Int) + 1) := rfl
  have hAd := Aav (((v.natAbs / 2 ^ m) : Nat) : Int) (Int.natCast_nonneg _) (by omega)
  refine zsr <| Bl (Ci (id := 0) (n := 2) rfl rfl rfl (by decide) rfl) (hd 2 rfl) <| Bl (Ao (id := 1) By (by decide) rfl (by decide) rfl) (hd 4 rfl) <| zas rfl (hd 5 rfl) <| Ab <| zsr <| Ac (A8 B3 rfl rfl rfl rfl) (hd 11 rfl) ?_
  refine Aj Tryd.f28 (hNo) rfl Tryd.func28 rfl rfl (Aa rfl Ad) (.cons (.a1 .b (.a1 .n .a0)) .nil) (hd 12 rfl) ?_ (fun ch hp => by simp at hp)
  rintro _ ⟨⟩; refine A6 (Ah rfl rfl rfl Cc rfl rfl (zlb rfl)) <| Ab <| Ae <| Ae <| Hr (H' := [⟨27, 2, 0, true, [.b (decide (v < 0)), .n true .u64 (lm v)]⟩, ⟨27, 2, 0, true, [.b false, .c (.slice none 0 0)]⟩]) rfl <| Af <| Ac (Ba Cn rfl rfl rfl) (hd 13 rfl) <| Ac (A9 D2 rfl rfl rfl) (hd 14 rfl) <| Ac (Al Bj rfl) (hd 15 rfl) <| Ac (Be (B7 rfl rfl) (by omega)) (hd 16 rfl) <| Ab <| Aw rfl <| Ai ?_; refine Ae <| zsr <| zmv rfl (hd 18 rfl) <| Ac (Be (Dl rfl rfl) (by omega)) (hd 19 rfl) <| Ab <| Aw rfl <| Ai <| zsr <| zmv rfl (hd 37 rfl) <| Ac (Bo (Pi rfl rfl) (show V.i .i64 _ = V.i .i64 (-(m : Int)) by congr 1; omega)) (hd 38 rfl) <| Ac (Gg rfl (r := (m : Int)) (by rw [Ag (by omega) (by omega)]; omega)) (hd 39 rfl) ?_; refine zas rfl (hd 1 rfl) <| Ab <| zsr <| Ac (Ba Cy rfl rfl rfl) (hd 40 rfl) <| Ac (B8 (A9 Ez rfl rfl rfl) (by omega)) (hd 41 rfl) <| zmv rfl (hd 42 rfl) <| Ay 42 rfl rfl (Ba Cn rfl rfl rfl) (hd 43 rfl) <| Ay 42 rfl rfl (A9 D2 rfl rfl rfl) (hd 44 rfl) ?_
  refine P0 Tryd.f30 42 rfl rfl (hTl) hL hTb rfl Tryd.func30 rfl rfl (Aa rfl Ad) (.cons .n .nil) (hd 45 rfl) ?_ (fun ch hp => by simp at hp)
  rintro _ ⟨⟩; refine Ay 42 rfl rfl (At rfl) (hd 46 rfl) <| Ay 42 rfl rfl (Bp rfl rfl) (hd 47 rfl) <| Ac (Bi rfl rfl) (hd 48 rfl) <| zas rfl (hd 8 rfl) <| Ab <| zsr <| Ac (Ba Cn rfl rfl rfl) (hd 50 rfl) <| Ac (A9 D2 rfl rfl rfl) (hd 51 rfl) <| zmv rfl (hd 52 rfl) ?_
  refine Aj Tryd.f31 (hRi) rfl Tryd.func31 rfl rfl (Aa rfl (Aa rfl Ad)) (.cons .n (.cons .i .nil)) (hd 53 rfl) ?_ (fun ch hp => by simp at hp)
  rintro _ ⟨⟩; refine zmv rfl (hd 49 rfl) <| Ac (Ap rfl rfl) (hd 54 rfl) <| Ac (Ap rfl rfl) (hd 55 rfl) <| zas rfl (hd 9 rfl) <| zas rfl (hd 10 rfl) <| Ab <| Ae <| zsr <| zmv rfl (hd 56 rfl) <| Ac (B8 (B7 rfl rfl) rfl) (hd 57 rfl) <| zmv rfl (hd 58 rfl) <| Ay 58 rfl rfl (At rfl) (hd 59 rfl) ?_; refine Ac (Bi rfl rfl) (hd 60 rfl) <| Ab ?_
  refine Bc rfl (fun h3 => ?_) (fun h3 => ?_)
  · have hqv : (v / ((2 ^ m : Nat) : Int)) = -(((v.natAbs / 2 ^ m) + 1 : Nat) : Int) := Rx hs (by omega)
    have hqe : Aq (-(((v.natAbs / 2 ^ m) + 1 : Nat) : Int)) = Aq (((v.natAbs / 2 ^ m) + 1 : Nat) : Int) := by unfold Aq; rw [Int.natAbs_neg]
    have hRe := E7 true (lm ((((v.natAbs / 2 ^ m) + 1) : Nat) : Int)) (v / ((2 ^ m : Nat) : Int)) (by have := Cd (v := ((((v.natAbs / 2 ^ m) + 1) : Nat) : Int)) (by omega); omega) (Gz _) (by show -(vl (lm ((((v.natAbs / 2 ^ m) + 1) : Nat) : Int))) = _; rw [Jg (Int.natCast_nonneg _)]; omega) (by rw [hqv]; omega)
    refine Af <| zmv rfl (hd 62 rfl) ?_
    refine Aj Tryd.f33 (hF1) rfl Tryd.func33 rfl rfl (Aa rfl Ad) (.cons .i .nil) (hd 63 rfl) ?_ (fun ch hp => by simp at hp)
    rintro y hy; injection hy with hy; subst hy
    refine Aj Tryd.f32 (hAd) rfl Tryd.func32 rfl rfl (Aa rfl (Aa rfl Ad)) (.cons .n (.cons .n .nil)) (hd 64 rfl) ?_ (fun ch hp => by simp at hp)
    rintro _ ⟨⟩; refine zmv rfl (hd 61 rfl) <| Ac (Ap rfl rfl) (hd 65 rfl) <| Ac (Ap rfl rfl) (hd 66 rfl) <| zas rfl (hd 9 rfl) <| zas rfl (hd 10 rfl) <| Ab <| zsr <| Ac (Ba Cy rfl rfl rfl) (hd 67 rfl) <| Ac (B8 (A9 Ez rfl rfl rfl) (by omega)) (hd 68 rfl) <| zmv rfl (hd 69 rfl) <| zmv rfl (hd 70 rfl) ?_
    refine Dt Tryd.f19 (hRe) (fun o G ⟨_, h⟩ => h ▸ Ax B2 A1) rfl Tryd.func19 rfl rfl (Aa rfl (Aa rfl (Aa rfl Ad))) (.cons .b (.cons .n (.cons .i .nil))) (hd 71 rfl) ?_ (fun ch G hp => by simp at hp)
    rintro y G ⟨hy, rfl⟩; injection hy with hy; subst hy
    show JO _ _ _ _ ((71, .t [.a [.b (decide ((v / ((2 ^ m : Nat) : Int)) < 0)), .o 2 0 0 (lm (v / ((2 ^ m : Nat) : Int))).length], .i .i64 0]) :: _) _ _
    refine Ac (Ap rfl rfl) (hd 72 rfl) <| Ac (Ap rfl rfl) (hd 73 rfl) <| A6 (Ah rfl rfl rfl Cc rfl rfl (zlb rfl)) <| zas rfl (hd 5 rfl) <| Ab <| Ak ?_
    refine ⟨[2], _, (.t [.a [.b (decide ((v / ((2 ^ m : Nat) : Int)) < 0)), .o 0 0 0 (lm (v / ((2 ^ m : Nat) : Int))).length], .i .i64 0]), (.cons (ResV.cell B3 rfl rfl rfl rfl) (.cons rfl .nil)), rfl, rfl, (by decide), (by first | exact Ax B2 A1 | exact Ax rfl A1), ?_⟩
    exact ⟨rfl, rfl⟩
  · have hqv : (v / ((2 ^ m : Nat) : Int)) = -(((v.natAbs / 2 ^ m) : Nat) : Int) := Ry hs (by omega)
    have hqe : Aq (-(((v.natAbs / 2 ^ m) : Nat) : Int)) = Aq (((v.natAbs / 2 ^ m) : Nat) : Int) := by unfold Aq; rw [Int.natAbs_neg]
    have hRe := E7 true (lm (((v.natAbs / 2 ^ m) : Nat) : Int)) (v / ((2 ^ m : Nat) : Int)) (by have := Cd (v := (((v.natAbs / 2 ^ m) : Nat) : Int)) (by omega); omega) (Gz _) (by show -(vl (lm (((v.natAbs / 2 ^ m) : Nat) : Int))) = _; rw [Jg (Int.natCast_nonneg _)]; omega) (by rw [hqv]; omega)
    refine Ai <| zsr <| Ac (Ba Cy rfl rfl rfl) (hd 67 rfl) <| Ac (B8 (A9 Ez rfl rfl rfl) (by omega)) (hd 68 rfl) <| zmv rfl (hd 69 rfl) <| zmv rfl (hd 70 rfl) ?_
    refine Dt Tryd.f19 (hRe) (fun o G ⟨_, h⟩ => h ▸ Ax B2 A1) rfl Tryd.func19 rfl rfl (Aa rfl (Aa rfl (Aa rfl Ad))) (.cons .b (.cons .n (.cons .i .nil))) (hd 71 rfl) ?_ (fun ch G hp => by simp at hp)
    rintro y G ⟨hy, rfl⟩; injection hy with hy; subst hy
    show JO _ _ _ _ ((71, .t [.a [.b (decide ((v / ((2 ^ m : Nat) : Int)) < 0)), .o 2 0 0 (lm (v / ((2 ^ m : Nat) : Int))).length], .i .i64 0]) :: _) _ _
    refine Ac (Ap rfl rfl) (hd 72 rfl) <| Ac (Ap rfl rfl) (hd 73 rfl) <| A6 (Ah rfl rfl rfl Cc rfl rfl (zlb rfl)) <| zas rfl (hd 5 rfl) <| Ab <| Ak ?_
    refine ⟨[2], _, (.t [.a [.b (decide ((v / ((2 ^ m : Nat) : Int)) < 0)), .o 0 0 0 (lm (v / ((2 ^ m : Nat) : Int))).length], .i .i64 0]), (.cons (ResV.cell B3 rfl rfl rfl rfl) (.cons rfl .nil)), rfl, rfl, (by decide), (by first | exact Ax B2 A1 | exact Ax rfl A1), ?_⟩
    exact ⟨rfl, rfl⟩

theorem Ki (v : Int) (n : Int) (hd9 : (dg v).length ≤ 2097152) (hn0 : 0 ≤ n) (hn : n ≤ 67108864) : Spec Tryd.prog 14 [.a [.b (decide (v < 0)), .n false .u64 (dg v)], .i .i64 n] (fun o => o = .ret (.a [.b (decide ((zs (decide (v < 0)) (v.natAbs * 2 ^ n.toNat)) < 0)), .n false .u64 (dg (zs (decide (v < 0)) (v.natAbs * 2 ^ n.toNat)))])) := by
  refine An [(0, .a [.b (decide (v < 0)), .n false .u64 (dg v)]), (1, .i .i64 n)] rfl Tryd.func14 rfl (zlb rfl) fun Γ hN hds hL hR => ?_
  have hd := Bu 37 hN
  have hSh : Spec Tryd.prog 37 [.n false .u64 (dg v), .i .i64 n] (fun o => o = .ret (.n false .u64 (Ar B32 (v.natAbs * 2 ^ n.toNat)))) := by have h := Ny v.natAbs n.toNat (by show (dg v).length < _; omega) (by omega); rwa [Int.toNat_of_nonneg hn0] at h
  refine zsr <| Bl (Ci (id := 0) (n := 2) rfl rfl rfl (by decide) rfl) (hd 2 rfl) <| Bl (Ao (id := 1) Bd (by decide) rfl (by decide) rfl) (hd 4 rfl) <| Ab <| Ae <| zsr <| zmv rfl (hd 7 rfl) <| Ac (B8 (Dl rfl rfl) (by omega)) (hd 8 rfl) <| Ab <| B5 rfl <| Ae ?_; refine Cf (n := 8) _ rfl Dk <| A4 0 [1, 6, 7] (Am (Ba C6 rfl rfl rfl) (hd 9 rfl)) rfl <| zal 1 (Am (A9 Ez rfl rfl rfl) (hd 10 rfl)) rfl <| A4 2 [3, 5, 6, 7] (Am (Ba Cr rfl rfl rfl) (hd 11 rfl)) rfl <| A4 3 [5, 6, 7] (Am (A9 D6 rfl rfl rfl) (hd 12 rfl)) rfl <| A4 4 [5, 6, 7] (Am (At rfl) (hd 13 rfl)) rfl ?_
  refine A0 5 ?_ rfl (by kernel_rfl)
  refine As Tryd.f37 (hSh) rfl Tryd.func37 rfl rfl (Aa rfl (Aa rfl Ad)) (.cons .n (.cons .i .nil)) (hd 14 rfl) ?_ (fun ch hp => by simp at hp)
  rintro y hy; injection hy with hy; subst hy
  refine A0 6 ?_ rfl (by kernel_rfl)
  refine As Tryd.f24 (Cl (decide (v < 0)) (v.natAbs * 2 ^ n.toNat)) rfl Tryd.func24 rfl rfl (Aa rfl (Aa rfl Ad)) (.cons .b (.cons .n .nil)) (hd 15 rfl) ?_ (fun ch hp => by simp at hp)
  rintro y hy; injection hy with hy; subst hy
  refine A0 7 ?_ rfl (by kernel_rfl)
  refine Bf (Ah rfl rfl rfl A2 rfl rfl (zlb rfl)) rfl <| Bg (by kernel_rfl) <| Ak ?_
  refine ⟨_, _, (.cons (ResV.cell A7 rfl rfl rfl rfl) .nil), (.a1 .b (.a1 .n .a0)), ?_⟩
  exact rfl

theorem Lo (v : Int) (n : Int) (hd9 : (dg v).length ≤ 2097152) (hl9 : Aq v ≤ 67108864) (hn0 : n < 0) (hn9 : -9223372036854775808 ≤ n) (hfar : n < -((Aq v : Nat) : Int)) (hs : v < 0) : Spec Tryd.prog 14 [.a [.b (decide (v < 0)), .n false .u64 (dg v)], .i .i64 n] (fun o => o = .ret (.a [.b (decide ((-1) < 0)), .n false .u64 (dg (-1))])) := by
  refine An [(0, .a [.b (decide (v < 0)), .n false .u64 (dg v)]), (1, .i .i64 n)] rfl Tryd.func14 rfl (zlb rfl) fun Γ hN hds hL hR => ?_
  have hd := Bu 37 hN
  have hIn : Spec Tryd.prog 36 [.i .i64 (-1)] (fun o => o = .ret (.a [.b (decide ((-1) < 0)), .n false .u64 (dg (-1))])) := Q8 (-1) (by unfold inI; omega)
  have hlz := @Ig v
  refine zsr <| Bl (Ci (id := 0) (n := 2) rfl rfl rfl (by decide) rfl) (hd 2 rfl) <| Bl (Ao (id := 1) Bd (by decide) rfl (by decide) rfl) (hd 4 rfl) <| Ab <| Ae <| zsr <| zmv rfl (hd 7 rfl) <| Ac (Be (Dl rfl rfl) (by omega)) (hd 8 rfl) <| Ab <| Aw rfl <| Ai ?_; refine Ae <| zsr <| zmv rfl (hd 16 rfl) <| Ac (Ba Cr rfl rfl rfl) (hd 17 rfl) <| Ac (A9 D6 rfl rfl rfl) (hd 18 rfl) ?_
  refine Aj Tryd.f21 (Iv v (by omega)) rfl Tryd.func21 rfl rfl (Aa rfl Ad) (.cons .n .nil) (hd 19 rfl) ?_ (fun ch hp => by simp at hp)
  rintro _ ⟨⟩; refine Ac (Gg rfl (r := -((Aq v : Nat) : Int)) (by rw [Ag (by omega) (by omega)]; omega)) (hd 20 rfl) <| Ac (B8 (Bp rfl rfl) hfar) (hd 21 rfl) <| Ab <| B5 rfl <| Ae <| zsr <| Ac (Ba C6 rfl rfl rfl) (hd 22 rfl) <| Ac (B8 (A9 Ez rfl rfl rfl) hs) (hd 23 rfl) <| Ab <| B5 rfl <| Ae <| Af ?_
  refine Aj Tryd.f36 (hIn) rfl Tryd.func36 rfl rfl (Aa rfl Ad) (.cons .i .nil) (hd 24 rfl) ?_ (fun ch hp => by simp at hp)
  rintro _ ⟨⟩; refine A6 (Ah rfl rfl rfl A2 rfl rfl (zlb rfl)) <| Ab <| Ak ?_
  refine ⟨_, _, (.cons (ResV.cell A7 rfl rfl rfl rfl) .nil), (.a1 .b (.a1 .n .a0)), ?_⟩
  exact rfl

theorem Ln (v : Int) (n : Int) (hd9 : (dg v).length ≤ 2097152) (hl9 : Aq v ≤ 67108864) (hn0 : n < 0) (hn9 : -9223372036854775808 ≤ n) (hfar : n < -((Aq v : Nat) : Int)) (hs : 0 ≤ v) : Spec Tryd.prog 14 [.a [.b (decide (v < 0)), .n false .u64 (dg v)], .i .i64 n] (fun o => o = .ret (.a [.b false, .n false .u64 []])) := by
  refine An [(0, .a [.b (decide (v < 0)), .n false .u64 (dg v)]), (1, .i .i64 n)] rfl Tryd.func14 rfl (zlb rfl) fun Γ hN hds hL hR => ?_
  have hd := Bu 37 hN
  have hIn : Spec Tryd.prog 36 [.i .i64 (-1)] (fun o => o = .ret (.a [.b (decide ((-1) < 0)), .n false .u64 (dg (-1))])) := Q8 (-1) (by unfold inI; omega)
  have hlz := @Ig v
  refine zsr <| Bl (Ci (id := 0) (n := 2) rfl rfl rfl (by decide) rfl) (hd 2 rfl) <| Bl (Ao (id := 1) Bd (by decide) rfl (by decide) rfl) (hd 4 rfl) <| Ab <| Ae <| zsr <| zmv rfl (hd 7 rfl) <| Ac (Be (Dl rfl rfl) (by omega)) (hd 8 rfl) <| Ab <| Aw rfl <| Ai ?_; refine Ae <| zsr <| zmv rfl (hd 16 rfl) <| Ac (Ba Cr rfl rfl rfl) (hd 17 rfl) <| Ac (A9 D6 rfl rfl rfl) (hd 18 rfl) ?_
  refine Aj Tryd.f21 (Iv v (by omega)) rfl Tryd.func21 rfl rfl (Aa rfl Ad) (.cons .n .nil) (hd 19 rfl) ?_ (fun ch hp => by simp at hp)
  rintro _ ⟨⟩; refine Ac (Gg rfl (r := -((Aq v : Nat) : Int)) (by rw [Ag (by omega) (by omega)]; omega)) (hd 20 rfl) <| Ac (B8 (Bp rfl rfl) hfar) (hd 21 rfl) <| Ab <| B5 rfl <| Ae <| zsr <| Ac (Ba C6 rfl rfl rfl) (hd 22 rfl) <| Ac (Be (A9 Ez rfl rfl rfl) (by omega)) (hd 23 rfl) <| Ab <| Aw rfl <| Ai <| Ae ?_; refine Af <| Ac (Ct (is := []) (xs := []) (pls := []) Bd Y4 rfl Ad rfl trivial (D0 rfl) rfl) (hd 25 rfl) <| A6 (Ah rfl rfl rfl A2 rfl rfl (zlb rfl)) <| Ab <| Ak ?_
  refine ⟨_, _, (.cons (ResV.cell A7 rfl rfl rfl rfl) .nil), (.a1 .b (.a1 (.nil (fr := false) (k := .u64)) .a0)), ?_⟩
  exact rfl

theorem Lm (v : Int) (n : Int) (hd9 : (dg v).length ≤ 2097152) (hl9 : Aq v ≤ 67108864) (hn0 : n < 0) (hfar : ¬ n < -((Aq v : Nat) : Int)) : Spec Tryd.prog 14 [.a [.b (decide (v < 0)), .n false .u64 (dg v)], .i .i64 n] (fun o => o = .ret (.a [.b (decide ((flo v (zs false (2 ^ (-n).toNat))) < 0)), .n false .u64 (dg (flo v (zs false (2 ^ (-n).toNat))))])) := by
  refine An [(0, .a [.b (decide (v < 0)), .n false .u64 (dg v)]), (1, .i .i64 n)] rfl Tryd.func14 rfl (zlb rfl) fun Γ hN hds hL hR => ?_
  have hd := Bu 37 hN
  have hI1 : Spec Tryd.prog 20 [.i .i64 1] (fun o => o = .ret (.n false .u64 (Ar B32 1))) := by have h := Kj ((1 : Nat) : Int) (by decide) (by decide); rw [Mn (v := 1) (by decide)] at h; exact h
  have hne : (((-n).toNat : Nat) : Int) = -n := Int.toNat_of_nonneg (by omega)
  have hSh : Spec Tryd.prog 37 [.n false .u64 (Ar B32 1), .i .i64 (-n)] (fun o => o = .ret (.n false .u64 (Ar B32 (2 ^ (-n).toNat)))) := by have h := Ny 1 (-n).toNat (by decide +kernel) (by omega); rwa [hne, Nat.one_mul] at h
  have hp0 : 2 ^ (-n).toNat ≠ 0 := Nat.ne_of_gt (Nat.pow_pos (by decide))
  have hw0 : (zs false (2 ^ (-n).toNat)) ≠ 0 := fun h => hp0 (Aa1.1 h)
  have hwl : (dg (zs false (2 ^ (-n).toNat))).length < 4294967296 := by
    have h1 : Aq (zs false (2 ^ (-n).toNat)) ≤ (-n).toNat + 1 := B4.2 (by rw [J5]; exact Nat.pow_lt_pow_right (by decide) (by omega))
    have h2 := J2 h1
    omega
  refine zsr <| Bl (Ci (id := 0) (n := 2) rfl rfl rfl (by decide) rfl) (hd 2 rfl) <| Bl (Ao (id := 1) Bd (by decide) rfl (by decide) rfl) (hd 4 rfl) <| Ab <| Ae <| zsr <| zmv rfl (hd 7 rfl) <| Ac (Be (Dl rfl rfl) (by omega)) (hd 8 rfl) <| Ab <| Aw rfl <| Ai ?_; refine Ae <| zsr <| zmv rfl (hd 16 rfl) <| Ac (Ba Cr rfl rfl rfl) (hd 17 rfl) <| Ac (A9 D6 rfl rfl rfl) (hd 18 rfl) ?_
  refine Aj Tryd.f21 (Iv v (by omega)) rfl Tryd.func21 rfl rfl (Aa rfl Ad) (.cons .n .nil) (hd 19 rfl) ?_ (fun ch hp => by simp at hp)
  rintro _ ⟨⟩; refine Ac (Gg rfl (r := -((Aq v : Nat) : Int)) (by rw [Ag (by omega) (by omega)]; omega)) (hd 20 rfl) <| Ac (Be (Bp rfl rfl) (fun h => hfar h)) (hd 21 rfl) <| Ab <| Aw rfl <| Ai <| Ae <| Cf (n := 14) _ rfl Dk <| A4 0 [6, 7, 8, 9, 12, 13] (Am (A8 A7 rfl rfl rfl rfl) (hd 27 rfl)) rfl <| A4 2 [3, 4, 5, 6, 7, 8, 9, 12, 13] (Am (At rfl) (hd 29 rfl)) rfl <| A4 3 [4, 5, 6, 7, 8, 9, 12, 13] (Am (Gg rfl (r := -n) (by rw [Ag (by omega) (by omega)]; omega)) (hd 30 rfl)) rfl ?_
  refine Aa0 1 10 11 ?_ ?_ ?_ rfl rfl rfl (by kernel_rfl)
  · refine As Tryd.f20 (hI1) rfl Tryd.func20 rfl rfl (Aa rfl Ad) (.cons .i .nil) (hd 28 rfl) ?_ (fun ch hp => by simp at hp)
    rintro y hy; injection hy with hy; subst hy
    refine Aa0 4 10 11 ?_ ?_ ?_ rfl rfl rfl (by kernel_rfl)
    · refine As Tryd.f37 (hSh) rfl Tryd.func37 rfl rfl (Aa rfl (Aa rfl Ad)) (.cons .n (.cons .i .nil)) (hd 31 rfl) ?_ (fun ch hp => by simp at hp)
      rintro y hy; injection hy with hy; subst hy
      refine Aa0 5 10 11 ?_ ?_ ?_ rfl rfl rfl (by kernel_rfl)
      · refine As Tryd.f24 (Cl false (2 ^ (-n).toNat)) rfl Tryd.func24 rfl rfl (Aa rfl (Aa rfl Ad)) (.cons .b (.cons .n .nil)) (hd 32 rfl) ?_ (fun ch hp => by simp at hp)
        rintro y hy; injection hy with hy; subst hy
        refine Aa0 6 10 11 ?_ ?_ ?_ rfl rfl rfl (by kernel_rfl)
        · refine As Tryd.f38 (B1 v (zs false (2 ^ (-n).toNat)) (by omega) hwl hw0) rfl Tryd.func38 rfl rfl (Aa rfl (Aa rfl Ad)) (.cons (.a1 .b (.a1 .n .a0)) (.cons (.a1 .b (.a1 .n .a0)) .nil)) (hd 33 rfl) ?_ (fun ch hp => by simp at hp)
          rintro _ ⟨⟩; refine zal 7 (Am (At rfl) (hd 26 rfl)) rfl <| zal 8 (Am (Ap rfl rfl) (hd 34 rfl)) rfl <| zal 9 (Cs rfl rfl (hd 35 rfl)) rfl ?_
          refine Ik 10 11 ?_ ?_ rfl rfl (by kernel_rfl)
          · refine Cw (Ao (id := 2) Bd (by decide) rfl (by decide) rfl) (hd 5 rfl) ?_
            refine A0 11 ?_ rfl (by kernel_rfl)
            refine Cw (Ao (id := 3) Bd (by decide) rfl (by decide) rfl) (hd 6 rfl) ?_
            refine A0 12 ?_ rfl (by kernel_rfl)
            refine Bf (Ah rfl rfl rfl A2 rfl rfl (zlb rfl)) rfl ?_
            refine A0 13 ?_ rfl (by kernel_rfl)
            refine Bf (Ah rfl rfl rfl A2 rfl rfl (zlb rfl)) rfl <| Bg (by kernel_rfl) <| zsr <| Ac (A8 A7 rfl rfl rfl rfl) (hd 36 rfl) <| A6 (Ah rfl rfl rfl A2 rfl rfl (zlb rfl)) <| Ab <| Ak ?_
            refine ⟨_, _, (.cons (ResV.cell A7 rfl rfl rfl rfl) .nil), (.a1 .b (.a1 .n .a0)), ?_⟩
            exact rfl
          · refine Cw (Ao (id := 2) Bd (by decide) rfl (by decide) rfl) (hd 6 rfl) ?_
            refine A0 10 ?_ rfl (by kernel_rfl)
            refine Cw (Ao (id := 3) Bd (by decide) rfl (by decide) rfl) (hd 5 rfl) ?_
            refine A0 12 ?_ rfl (by kernel_rfl)
            refine Bf (Ah rfl rfl rfl A2 rfl rfl (zlb rfl)) rfl ?_
            refine A0 13 ?_ rfl (by kernel_rfl)
            refine Bf (Ah rfl rfl rfl A2 rfl rfl (zlb rfl)) rfl <| Bg (by kernel_rfl) <| zsr <| Ac (A8 A7 rfl rfl rfl rfl) (hd 36 rfl) <| A6 (Ah rfl rfl rfl A2 rfl rfl (zlb rfl)) <| Ab <| Ak ?_
            refine ⟨_, _, (.cons (ResV.cell A7 rfl rfl rfl rfl) .nil), (.a1 .b (.a1 .n .a0)), ?_⟩
            exact rfl
        · refine Cw (Ao (id := 2) Bd (by decide) rfl (by decide) rfl) (hd 5 rfl) ?_
          refine Ik 6 11 ?_ ?_ rfl rfl (by kernel_rfl)
          · refine As Tryd.f38 (B1 v (zs false (2 ^ (-n).toNat)) (by omega) hwl hw0) rfl Tryd.func38 rfl rfl (Aa rfl (Aa rfl Ad)) (.cons (.a1 .b (.a1 .n .a0)) (.cons (.a1 .b (.a1 .n .a0)) .nil)) (hd 33 rfl) ?_ (fun ch hp => by simp at hp)
            rintro _ ⟨⟩; refine zal 7 (Am (At rfl) (hd 26 rfl)) rfl <| zal 8 (Am (Ap rfl rfl) (hd 34 rfl)) rfl <| zal 9 (Cs rfl rfl (hd 35 rfl)) rfl ?_
            refine A0 11 ?_ rfl (by kernel_rfl)
            refine Cw (Ao (id := 3) Bd (by decide) rfl (by decide) rfl) (hd 6 rfl) ?_
            refine A0 12 ?_ rfl (by kernel_rfl)
            refine Bf (Ah rfl rfl rfl A2 rfl rfl (zlb rfl)) rfl ?_
            refine A0 13 ?_ rfl (by kernel_rfl)
            refine Bf (Ah rfl rfl rfl A2 rfl rfl (zlb rfl)) rfl <| Bg (by kernel_rfl) <| zsr <| Ac (A8 A7 rfl rfl rfl rfl) (hd 36 rfl) <| A6 (Ah rfl rfl rfl A2 rfl rfl (zlb rfl)) <| Ab <| Ak ?_
            refine ⟨_, _, (.cons (ResV.cell A7 rfl rfl rfl rfl) .nil), (.a1 .b (.a1 .n .a0)), ?_⟩
            exact rfl
          · refine Cw (Ao (id := 3) Bd (by decide) rfl (by decide) rfl) (hd 6 rfl) ?_
            refine A0 6 ?_ rfl (by kernel_rfl)
            refine As Tryd.f38 (B1 v (zs false (2 ^ (-n).toNat)) (by omega) hwl hw0) rfl Tryd.func38 rfl rfl (Aa rfl (Aa rfl Ad)) (.cons (.a1 .b (.a1 .n .a0)) (.cons (.a1 .b (.a1 .n .a0)) .nil)) (hd 33 rfl) ?_ (fun ch hp => by simp at hp)
            rintro _ ⟨⟩; refine zal 7 (Am (At rfl) (hd 26 rfl)) rfl <| zal 8 (Am (Ap rfl rfl) (hd 34 rfl)) rfl <| zal 9 (Cs rfl rfl (hd 35 rfl)) rfl ?_
            refine A0 12 ?_ rfl (by kernel_rfl)
            refine Bf (Ah rfl rfl rfl A2 rfl rfl (zlb rfl)) rfl ?_
            refine A0 13 ?_ rfl (by kernel_rfl)
            refine Bf (Ah rfl rfl rfl A2 rfl rfl (zlb rfl)) rfl <| Bg (by kernel_rfl) <| zsr <| Ac (A8 A7 rfl rfl rfl rfl) (hd 36 rfl) <| A6 (Ah rfl rfl rfl A2 rfl rfl (zlb rfl)) <| Ab <| Ak ?_
            refine ⟨_, _, (.cons (ResV.cell A7 rfl rfl rfl rfl) .nil), (.a1 .b (.a1 .n .a0)), ?_⟩
            exact rfl
        · refine Cw (Ao (id := 2) Bd (by decide) rfl (by decide) rfl) (hd 6 rfl) ?_
          refine Ik 6 10 ?_ ?_ rfl rfl (by kernel_rfl)
          · refine As Tryd.f38 (B1 v (zs false (2 ^ (-n).toNat)) (by omega) hwl hw0) rfl Tryd.func38 rfl rfl (Aa rfl (Aa rfl Ad)) (.cons (.a1 .b (.a1 .n .a0)) (.cons (.a1 .b (.a1 .n .a0)) .nil)) (hd 33 rfl) ?_ (fun ch hp => by simp at hp)
            rintro _ ⟨⟩; refine zal 7 (Am (At rfl) (hd 26 rfl)) rfl <| zal 8 (Am (Ap rfl rfl) (hd 34 rfl)) rfl <| zal 9 (Cs rfl rfl (hd 35 rfl)) rfl ?_
            refine A0 10 ?_ rfl (by kernel_rfl)
            refine Cw (Ao (id := 3) Bd (by decide) rfl (by decide) rfl) (hd 5 rfl) ?_
            refine A0 12 ?_ rfl (by kernel_rfl)
            refine Bf (Ah rfl rfl rfl A2 rfl rfl (zlb rfl)) rfl ?_
            refine A0 13 ?_ rfl (by kernel_rfl)
            refine Bf (Ah rfl rfl rfl A2 rfl rfl (zlb rfl)) rfl <| Bg (by kernel_rfl) <| zsr <| Ac (A8 A7 rfl rfl rfl rfl) (hd 36 rfl) <| A6 (Ah rfl rfl rfl A2 rfl rfl (zlb rfl)) <| Ab <| Ak ?_
            refine ⟨_, _, (.cons (ResV.cell A7 rfl rfl rfl rfl) .nil), (.a1 .b (.a1 .n .a0)), ?_⟩
            exact rfl
          · refine Cw (Ao (id := 3) Bd (by decide) rfl (by decide) rfl) (hd 5 rfl) ?_
            refine A0 6 ?_ rfl (by kernel_rfl)
            refine As Tryd.f38 (B1 v (zs false (2 ^ (-n).toNat)) (by omega) hwl hw0) rfl Tryd.func38 rfl rfl (Aa rfl (Aa rfl Ad)) (.cons (.a1 .b (.a1 .n .a0)) (.cons (.a1 .b (.a1 .n .a0)) .nil)) (hd 33 rfl) ?_ (fun ch hp => by simp at hp)
            rintro _ ⟨⟩; refine zal 7 (Am (At rfl) (hd 26 rfl)) rfl <| zal 8 (Am (Ap rfl rfl) (hd 34 rfl)) rfl <| zal 9 (Cs rfl rfl (hd 35 rfl)) rfl ?_
            refine A0 12 ?_ rfl (by kernel_rfl)
            refine Bf (Ah rfl rfl rfl A2 rfl rfl (zlb rfl)) rfl ?_
            refine A0 13 ?_ rfl (by kernel_rfl)
            refine Bf (Ah rfl rfl rfl A2 rfl rfl (zlb rfl)) rfl <| Bg (by kernel_rfl) <| zsr <| Ac (A8 A7 rfl rfl rfl rfl) (hd 36 rfl) <| A6 (Ah rfl rfl rfl A2 rfl rfl (zlb rfl)) <| Ab <| Ak ?_
            refine ⟨_, _, (.cons (ResV.cell A7 rfl rfl rfl rfl) .nil), (.a1 .b (.a1 .n .a0)), ?_⟩
            exact rfl
      · refine Cw (Ao (id := 2) Bd (by decide) rfl (by decide) rfl) (hd 5 rfl) ?_
        refine Ik 5 11 ?_ ?_ rfl rfl (by kernel_rfl)
        · refine As Tryd.f24 (Cl false (2 ^ (-n).toNat)) rfl Tryd.func24 rfl rfl (Aa rfl (Aa rfl Ad)) (.cons .b (.cons .n .nil)) (hd 32 rfl) ?_ (fun ch hp => by simp at hp)
          rintro y hy; injection hy with hy; subst hy
          refine Ik 6 11 ?_ ?_ rfl rfl (by kernel_rfl)
          · refine As Tryd.f38 (B1 v (zs false (2 ^ (-n).toNat)) (by omega) hwl hw0) rfl Tryd.func38 rfl rfl (Aa rfl (Aa rfl Ad)) (.cons (.a1 .b (.a1 .n .a0)) (.cons (.a1 .b (.a1 .n .a0)) .nil)) (hd 33 rfl) ?_ (fun ch hp => by simp at hp)
            rintro _ ⟨⟩; refine zal 7 (Am (At rfl) (hd 26 rfl)) rfl <| zal 8 (Am (Ap rfl rfl) (hd 34 rfl)) rfl <| zal 9 (Cs rfl rfl (hd 35 rfl)) rfl ?_
            refine A0 11 ?_ rfl (by kernel_rfl)
            refine Cw (Ao (id := 3) Bd (by decide) rfl (by decide) rfl) (hd 6 rfl) ?_
            refine A0 12 ?_ rfl (by kernel_rfl)
            refine Bf (Ah rfl rfl rfl A2 rfl rfl (zlb rfl)) rfl ?_
            refine A0 13 ?_ rfl (by kernel_rfl)
            refine Bf (Ah rfl rfl rfl A2 rfl rfl (zlb rfl)) rfl <| Bg (by kernel_rfl) <| zsr <| Ac (A8 A7 rfl rfl rfl rfl) (hd 36 rfl) <| A6 (Ah rfl rfl rfl A2 rfl rfl (zlb rfl)) <| Ab <| Ak ?_
            refine ⟨_, _, (.cons (ResV.cell A7 rfl rfl rfl rfl) .nil), (.a1 .b (.a1 .n .a0)), ?_⟩
            exact rfl
          · refine Cw (Ao (id := 3) Bd (by decide) rfl (by decide) rfl) (hd 6 rfl) ?_
            refine A0 6 ?_ rfl (by kernel_rfl)
            refine As Tryd.f38 (B1 v (zs false (2 ^ (-n).toNat)) (by omega) hwl hw0) rfl Tryd.func38 rfl rfl (Aa rfl (Aa rfl Ad)) (.cons (.a1 .b (.a1 .n .a0)) (.cons (.a1 .b (.a1 .n .a0)) .nil)) (hd 33 rfl) ?_ (fun ch hp => by simp at hp)
            rintro _ ⟨⟩; refine zal 7 (Am (At rfl) (hd 26 rfl)) rfl <| zal 8 (Am (Ap rfl rfl) (hd 34 rfl)) rfl <| zal 9 (Cs rfl rfl (hd 35 rfl)) rfl ?_
            refine A0 12 ?_ rfl (by kernel_rfl)
            refine Bf (Ah rfl rfl rfl A2 rfl rfl (zlb rfl)) rfl ?_
            refine A0 13 ?_ rfl (by kernel_rfl)
            refine Bf (Ah rfl rfl rfl A2 rfl rfl (zlb rfl)) rfl <| Bg (by kernel_rfl) <| zsr <| Ac (A8 A7 rfl rfl rfl rfl) (hd 36 rfl) <| A6 (Ah rfl rfl rfl A2 rfl rfl (zlb rfl)) <| Ab <| Ak ?_
            refine ⟨_, _, (.cons (ResV.cell A7 rfl rfl rfl rfl) .nil), (.a1 .b (.a1 .n .a0)), ?_⟩
            exact rfl
        · refine Cw (Ao (id := 3) Bd (by decide) rfl (by decide) rfl) (hd 6 rfl) ?_
          refine A0 5 ?_ rfl (by kernel_rfl)
          refine As Tryd.f24 (Cl false (2 ^ (-n).toNat)) rfl Tryd.func24 rfl rfl (Aa rfl (Aa rfl Ad)) (.cons .b (.cons .n .nil)) (hd 32 rfl) ?_ (fun ch hp => by simp at hp)
          rintro y hy; injection hy with hy; subst hy
          refine A0 6 ?_ rfl (by kernel_rfl)
          refine As Tryd.f38 (B1 v (zs false (2 ^ (-n).toNat)) (by omega) hwl hw0) rfl Tryd.func38 rfl rfl (Aa rfl (Aa rfl Ad)) (.cons (.a1 .b (.a1 .n .a0)) (.cons (.a1 .b (.a1 .n .a0)) .nil)) (hd 33 rfl) ?_ (fun ch hp => by simp at hp)
          rintro _ ⟨⟩; refine zal 7 (Am (At rfl) (hd 26 rfl)) rfl <| zal 8 (Am (Ap rfl rfl) (hd 34 rfl)) rfl <| zal 9 (Cs rfl rfl (hd 35 rfl)) rfl ?_
          refine A0 12 ?_ rfl (by kernel_rfl)
          refine Bf (Ah rfl rfl rfl A2 rfl rfl (zlb rfl)) rfl ?_
          refine A0 13 ?_ rfl (by kernel_rfl)
          refine Bf (Ah rfl rfl rfl A2 rfl rfl (zlb rfl)) rfl <| Bg (by kernel_rfl) <| zsr <| Ac (A8 A7 rfl rfl rfl rfl) (hd 36 rfl) <| A6 (Ah rfl rfl rfl A2 rfl rfl (zlb rfl)) <| Ab <| Ak ?_
          refine ⟨_, _, (.cons (ResV.cell A7 rfl rfl rfl rfl) .nil), (.a1 .b (.a1 .n .a0)), ?_⟩
          exact rfl
      · refine Cw (Ao (id := 2) Bd (by decide) rfl (by decide) rfl) (hd 6 rfl) ?_
        refine Ik 5 10 ?_ ?_ rfl rfl (by kernel_rfl)
        · refine As Tryd.f24 (Cl false (2 ^ (-n).toNat)) rfl Tryd.func24 rfl rfl (Aa rfl (Aa rfl Ad)) (.cons .b (.cons .n .nil)) (hd 32 rfl) ?_ (fun ch hp => by simp at hp)
          rintro y hy; injection hy with hy; subst hy
          refine Ik 6 10 ?_ ?_ rfl rfl (by kernel_rfl)
          · refine As Tryd.f38 (B1 v (zs false (2 ^ (-n).toNat)) (by omega) hwl hw0) rfl Tryd.func38 rfl rfl (Aa rfl (Aa rfl Ad)) (.cons (.a1 .b (.a1 .n .a0)) (.cons (.a1 .b (.a1 .n .a0)) .nil)) (hd 33 rfl) ?_ (fun ch hp => by simp at hp)
            rintro _ ⟨⟩; refine zal 7 (Am (At rfl) (hd 26 rfl)) rfl <| zal 8 (Am (Ap rfl rfl) (hd 34 rfl)) rfl <| zal 9 (Cs rfl rfl (hd 35 rfl)) rfl ?_
            refine A0 10 ?_ rfl (by kernel_rfl)
            refine Cw (Ao (id := 3) Bd (by decide) rfl (by decide) rfl) (hd 5 rfl) ?_
            refine A0 12 ?_ rfl (by kernel_rfl)
            refine Bf (Ah rfl rfl rfl A2 rfl rfl (zlb rfl)) rfl ?_
            refine A0 13 ?_ rfl (by kernel_rfl)
            refine Bf (Ah rfl rfl rfl A2 rfl rfl (zlb rfl)) rfl <| Bg (by kernel_rfl) <| zsr <| Ac (A8 A7 rfl rfl rfl rfl) (hd 36 rfl) <| A6 (Ah rfl rfl rfl A2 rfl rfl (zlb rfl)) <| Ab <| Ak ?_
            refine ⟨_, _, (.cons (ResV.cell A7 rfl rfl rfl rfl) .nil), (.a1 .b (.a1 .n .a0)), ?_⟩
            exact rfl
          · refine Cw (Ao (id := 3) Bd (by decide) rfl (by decide) rfl) (hd 5 rfl) ?_
            refine A0 6 ?_ rfl (by kernel_rfl)
            refine As Tryd.f38 (B1 v (zs false (2 ^ (-n).toNat)) (by omega) hwl hw0) rfl Tryd.func38 rfl rfl (Aa rfl (Aa rfl Ad)) (.cons (.a1 .b (.a1 .n .a0)) (.cons (.a1 .b (.a1 .n .a0)) .nil)) (hd 33 rfl) ?_ (fun ch hp => by simp at hp)
            rintro _ ⟨⟩; refine zal 7 (Am (At rfl) (hd 26 rfl)) rfl <| zal 8 (Am (Ap rfl rfl) (hd 34 rfl)) rfl <| zal 9 (Cs rfl rfl (hd 35 rfl)) rfl ?_
            refine A0 12 ?_ rfl (by kernel_rfl)
            refine Bf (Ah rfl rfl rfl A2 rfl rfl (zlb rfl)) rfl ?_
            refine A0 13 ?_ rfl (by kernel_rfl)
            refine Bf (Ah rfl rfl rfl A2 rfl rfl (zlb rfl)) rfl <| Bg (by kernel_rfl) <| zsr <| Ac (A8 A7 rfl rfl rfl rfl) (hd 36 rfl) <| A6 (Ah rfl rfl rfl A2 rfl rfl (zlb rfl)) <| Ab <| Ak ?_
            refine ⟨_, _, (.cons (ResV.cell A7 rfl rfl rfl rfl) .nil), (.a1 .b (.a1 .n .a0)), ?_⟩
            exact rfl
        · refine Cw (Ao (id := 3) Bd (by decide) rfl (by decide) rfl) (hd 5 rfl) ?_
          refine A0 5 ?_ rfl (by kernel_rfl)
          refine As Tryd.f24 (Cl false (2 ^ (-n).toNat)) rfl Tryd.func24 rfl rfl (Aa rfl (Aa rfl Ad)) (.cons .b (.cons .n .nil)) (hd 32 rfl) ?_ (fun ch hp => by simp at hp)
          rintro y hy; injection hy with hy; subst hy
          refine A0 6 ?_ rfl (by kernel_rfl)
          refine As Tryd.f38 (B1 v (zs false (2 ^ (-n).toNat)) (by omega) hwl hw0) rfl Tryd.func38 rfl rfl (Aa rfl (Aa rfl Ad)) (.cons (.a1 .b (.a1 .n .a0)) (.cons (.a1 .b (.a1 .n .a0)) .nil)) (hd 33 rfl) ?_ (fun ch hp => by simp at hp)
          rintro _ ⟨⟩; refine zal 7 (Am (At rfl) (hd 26 rfl)) rfl <| zal 8 (Am (Ap rfl rfl) (hd 34 rfl)) rfl <| zal 9 (Cs rfl rfl (hd 35 rfl)) rfl ?_
          refine A0 12 ?_ rfl (by kernel_rfl)
          refine Bf (Ah rfl rfl rfl A2 rfl rfl (zlb rfl)) rfl ?_
          refine A0 13 ?_ rfl (by kernel_rfl)
          refine Bf (Ah rfl rfl rfl A2 rfl rfl (zlb rfl)) rfl <| Bg (by kernel_rfl) <| zsr <| Ac (A8 A7 rfl rfl rfl rfl) (hd 36 rfl) <| A6 (Ah rfl rfl rfl A2 rfl rfl (zlb rfl)) <| Ab <| Ak ?_
          refine ⟨_, _, (.cons (ResV.cell A7 rfl rfl rfl rfl) .nil), (.a1 .b (.a1 .n .a0)), ?_⟩
          exact rfl
    · refine Cw (Ao (id := 2) Bd (by decide) rfl (by decide) rfl) (hd 5 rfl) ?_
      refine Ik 4 11 ?_ ?_ rfl rfl (by kernel_rfl)
      · refine As Tryd.f37 (hSh) rfl Tryd.func37 rfl rfl (Aa rfl (Aa rfl Ad)) (.cons .n (.cons .i .nil)) (hd 31 rfl) ?_ (fun ch hp => by simp at hp)
        rintro y hy; injection hy with hy; subst hy
        refine Ik 5 11 ?_ ?_ rfl rfl (by kernel_rfl)
        · refine As Tryd.f24 (Cl false (2 ^ (-n).toNat)) rfl Tryd.func24 rfl rfl (Aa rfl (Aa rfl Ad)) (.cons .b (.cons .n .nil)) (hd 32 rfl) ?_ (fun ch hp => by simp at hp)
          rintro y hy; injection hy with hy; subst hy
          refine Ik 6 11 ?_ ?_ rfl rfl (by kernel_rfl)
          · refine As Tryd.f38 (B1 v (zs false (2 ^ (-n).toNat)) (by omega) hwl hw0) rfl Tryd.func38 rfl rfl (Aa rfl (Aa rfl Ad)) (.cons (.a1 .b (.a1 .n .a0)) (.cons (.a1 .b (.a1 .n .a0)) .nil)) (hd 33 rfl) ?_ (fun ch hp => by simp at hp)
            rintro _ ⟨⟩; refine zal 7 (Am (At rfl) (hd 26 rfl)) rfl <| zal 8 (Am (Ap rfl rfl) (hd 34 rfl)) rfl <| zal 9 (Cs rfl rfl (hd 35 rfl)) rfl ?_
            refine A0 11 ?_ rfl (by kernel_rfl)
            refine Cw (Ao (id := 3) Bd (by decide) rfl (by decide) rfl) (hd 6 rfl) ?_
            refine A0 12 ?_ rfl (by kernel_rfl)
            refine Bf (Ah rfl rfl rfl A2 rfl rfl (zlb rfl)) rfl ?_
            refine A0 13 ?_ rfl (by kernel_rfl)
            refine Bf (Ah rfl rfl rfl A2 rfl rfl (zlb rfl)) rfl <| Bg (by kernel_rfl) <| zsr <| Ac (A8 A7 rfl rfl rfl rfl) (hd 36 rfl) <| A6 (Ah rfl rfl rfl A2 rfl rfl (zlb rfl)) <| Ab <| Ak ?_
            refine ⟨_, _, (.cons (ResV.cell A7 rfl rfl rfl rfl) .nil), (.a1 .b (.a1 .n .a0)), ?_⟩
            exact rfl
          · refine Cw (Ao (id := 3) Bd (by decide) rfl (by decide) rfl) (hd 6 rfl) ?_
            refine A0 6 ?_ rfl (by kernel_rfl)
            refine As Tryd.f38 (B1 v (zs false (2 ^ (-n).toNat)) (by omega) hwl hw0) rfl Tryd.func38 rfl rfl (Aa rfl (Aa rfl Ad)) (.cons (.a1 .b (.a1 .n .a0)) (.cons (.a1 .b (.a1 .n .a0)) .nil)) (hd 33 rfl) ?_ (fun ch hp => by simp at hp)
            rintro _ ⟨⟩; refine zal 7 (Am (At rfl) (hd 26 rfl)) rfl <| zal 8 (Am (Ap rfl rfl) (hd 34 rfl)) rfl <| zal 9 (Cs rfl rfl (hd 35 rfl)) rfl ?_
            refine A0 12 ?_ rfl (by kernel_rfl)
            refine Bf (Ah rfl rfl rfl A2 rfl rfl (zlb rfl)) rfl ?_
            refine A0 13 ?_ rfl (by kernel_rfl)
            refine Bf (Ah rfl rfl rfl A2 rfl rfl (zlb rfl)) rfl <| Bg (by kernel_rfl) <| zsr <| Ac (A8 A7 rfl rfl rfl rfl) (hd 36 rfl) <| A6 (Ah rfl rfl rfl A2 rfl rfl (zlb rfl)) <| Ab <| Ak ?_
            refine ⟨_, _, (.cons (ResV.cell A7 rfl rfl rfl rfl) .nil), (.a1 .b (.a1 .n .a0)), ?_⟩
            exact rfl
        · refine Cw (Ao (id := 3) Bd (by decide) rfl (by decide) rfl) (hd 6 rfl) ?_
          refine A0 5 ?_ rfl (by kernel_rfl)
          refine As Tryd.f24 (Cl false (2 ^ (-n).toNat)) rfl Tryd.func24 rfl rfl (Aa rfl (Aa rfl Ad)) (.cons .b (.cons .n .nil)) (hd 32 rfl) ?_ (fun ch hp => by simp at hp)
          rintro y hy; injection hy with hy; subst hy
          refine A0 6 ?_ rfl (by kernel_rfl)
          refine As Tryd.f38 (B1 v (zs false (2 ^ (-n).toNat)) (by omega) hwl hw0) rfl Tryd.func38 rfl rfl (Aa rfl (Aa rfl Ad)) (.cons (.a1 .b (.a1 .n .a0)) (.cons (.a1 .b (.a1 .n .a0)) .nil)) (hd 33 rfl) ?_ (fun ch hp => by simp at hp)
          rintro _ ⟨⟩; refine zal 7 (Am (At rfl) (hd 26 rfl)) rfl <| zal 8 (Am (Ap rfl rfl) (hd 34 rfl)) rfl <| zal 9 (Cs rfl rfl (hd 35 rfl)) rfl ?_
          refine A0 12 ?_ rfl (by kernel_rfl)
          refine Bf (Ah rfl rfl rfl A2 rfl rfl (zlb rfl)) rfl ?_
          refine A0 13 ?_ rfl (by kernel_rfl)
          refine Bf (Ah rfl rfl rfl A2 rfl rfl (zlb rfl)) rfl <| Bg (by kernel_rfl) <| zsr <| Ac (A8 A7 rfl rfl rfl rfl) (hd 36 rfl) <| A6 (Ah rfl rfl rfl A2 rfl rfl (zlb rfl)) <| Ab <| Ak ?_
          refine ⟨_, _, (.cons (ResV.cell A7 rfl rfl rfl rfl) .nil), (.a1 .b (.a1 .n .a0)), ?_⟩
          exact rfl
      · refine Cw (Ao (id := 3) Bd (by decide) rfl (by decide) rfl) (hd 6 rfl) ?_
        refine A0 4 ?_ rfl (by kernel_rfl)
        refine As Tryd.f37 (hSh) rfl Tryd.func37 rfl rfl (Aa rfl (Aa rfl Ad)) (.cons .n (.cons .i .nil)) (hd 31 rfl) ?_ (fun ch hp => by simp at hp)
        rintro y hy; injection hy with hy; subst hy
        refine A0 5 ?_ rfl (by kernel_rfl)
        refine As Tryd.f24 (Cl false (2 ^ (-n).toNat)) rfl Tryd.func24 rfl rfl (Aa rfl (Aa rfl Ad)) (.cons .b (.cons .n .nil)) (hd 32 rfl) ?_ (fun ch hp => by simp at hp)
        rintro y hy; injection hy with hy; subst hy
        refine A0 6 ?_ rfl (by kernel_rfl)
        refine As Tryd.f38 (B1 v (zs false (2 ^ (-n).toNat)) (by omega) hwl hw0) rfl Tryd.func38 rfl rfl (Aa rfl (Aa rfl Ad)) (.cons (.a1 .b (.a1 .n .a0)) (.cons (.a1 .b (.a1 .n .a0)) .nil)) (hd 33 rfl) ?_ (fun ch hp => by simp at hp)
        rintro _ ⟨⟩; refine zal 7 (Am (At rfl) (hd 26 rfl)) rfl <| zal 8 (Am (Ap rfl rfl) (hd 34 rfl)) rfl <| zal 9 (Cs rfl rfl (hd 35 rfl)) rfl ?_
        refine A0 12 ?_ rfl (by kernel_rfl)
        refine Bf (Ah rfl rfl rfl A2 rfl rfl (zlb rfl)) rfl ?_
        refine A0 13 ?_ rfl (by kernel_rfl)
        refine Bf (Ah rfl rfl rfl A2 rfl rfl (zlb rfl)) rfl <| Bg (by kernel_rfl) <| zsr <| Ac (A8 A7 rfl rfl rfl rfl) (hd 36 rfl) <| A6 (Ah rfl rfl rfl A2 rfl rfl (zlb rfl)) <| Ab <| Ak ?_
        refine ⟨_, _, (.cons (ResV.cell A7 rfl rfl rfl rfl) .nil), (.a1 .b (.a1 .n .a0)), ?_⟩
        exact rfl
    · refine Cw (Ao (id := 2) Bd (by decide) rfl (by decide) rfl) (hd 6 rfl) ?_
      refine Ik 4 10 ?_ ?_ rfl rfl (by kernel_rfl)
      · refine As Tryd.f37 (hSh) rfl Tryd.func37 rfl rfl (Aa rfl (Aa rfl Ad)) (.cons .n (.cons .i .nil)) (hd 31 rfl) ?_ (fun ch hp => by simp at hp)
        rintro y hy; injection hy with hy; subst hy
        refine Ik 5 10 ?_ ?_ rfl rfl (by kernel_rfl)
        · refine As Tryd.f24 (Cl false (2 ^ (-n).toNat)) rfl Tryd.func24 rfl rfl (Aa rfl (Aa rfl Ad)) (.cons .b (.cons .n .nil)) (hd 32 rfl) ?_ (fun ch hp => by simp at hp)
          rintro y hy; injection hy with hy; subst hy
          refine Ik 6 10 ?_ ?_ rfl rfl (by kernel_rfl)
          · refine As Tryd.f38 (B1 v (zs false (2 ^ (-n).toNat)) (by omega) hwl hw0) rfl Tryd.func38 rfl rfl (Aa rfl (Aa rfl Ad)) (.cons (.a1 .b (.a1 .n .a0)) (.cons (.a1 .b (.a1 .n .a0)) .nil)) (hd 33 rfl) ?_ (fun ch hp => by simp at hp)
            rintro _ ⟨⟩; refine zal 7 (Am (At rfl) (hd 26 rfl)) rfl <| zal 8 (Am (Ap rfl rfl) (hd 34 rfl)) rfl <| zal 9 (Cs rfl rfl (hd 35 rfl)) rfl ?_
            refine A0 10 ?_ rfl (by kernel_rfl)
            refine Cw (Ao (id := 3) Bd (by decide) rfl (by decide) rfl) (hd 5 rfl) ?_
            refine A0 12 ?_ rfl (by kernel_rfl)
            refine Bf (Ah rfl rfl rfl A2 rfl rfl (zlb rfl)) rfl ?_
            refine A0 13 ?_ rfl (by kernel_rfl)
            refine Bf (Ah rfl rfl rfl A2 rfl rfl (zlb rfl)) rfl <| Bg (by kernel_rfl) <| zsr <| Ac (A8 A7 rfl rfl rfl rfl) (hd 36 rfl) <| A6 (Ah rfl rfl rfl A2 rfl rfl (zlb rfl)) <| Ab <| Ak ?_
            refine ⟨_, _, (.cons (ResV.cell A7 rfl rfl rfl rfl) .nil), (.a1 .b (.a1 .n .a0)), ?_⟩
            exact rfl
          · refine Cw (Ao (id := 3) Bd (by decide) rfl (by decide) rfl) (hd 5 rfl) ?_
            refine A0 6 ?_ rfl (by kernel_rfl)
            refine As Tryd.f38 (B1 v (zs false (2 ^ (-n).toNat)) (by omega) hwl hw0) rfl Tryd.func38 rfl rfl (Aa rfl (Aa rfl Ad)) (.cons (.a1 .b (.a1 .n .a0)) (.cons (.a1 .b (.a1 .n .a0)) .nil)) (hd 33 rfl) ?_ (fun ch hp => by simp at hp)
            rintro _ ⟨⟩; refine zal 7 (Am (At rfl) (hd 26 rfl)) rfl <| zal 8 (Am (Ap rfl rfl) (hd 34 rfl)) rfl <| zal 9 (Cs rfl rfl (hd 35 rfl)) rfl ?_
            refine A0 12 ?_ rfl (by kernel_rfl)
            refine Bf (Ah rfl rfl rfl A2 rfl rfl (zlb rfl)) rfl ?_
            refine A0 13 ?_ rfl (by kernel_rfl)
            refine Bf (Ah rfl rfl rfl A2 rfl rfl (zlb rfl)) rfl <| Bg (by kernel_rfl) <| zsr <| Ac (A8 A7 rfl rfl rfl rfl) (hd 36 rfl) <| A6 (Ah rfl rfl rfl A2 rfl rfl (zlb rfl)) <| Ab <| Ak ?_
            refine ⟨_, _, (.cons (ResV.cell A7 rfl rfl rfl rfl) .nil), (.a1 .b (.a1 .n .a0)), ?_⟩
            exact rfl
        · refine Cw (Ao (id := 3) Bd (by decide) rfl (by decide) rfl) (hd 5 rfl) ?_
          refine A0 5 ?_ rfl (by kernel_rfl)
          refine As Tryd.f24 (Cl false (2 ^ (-n).toNat)) rfl Tryd.func24 rfl rfl (Aa rfl (Aa rfl Ad)) (.cons .b (.cons .n .nil)) (hd 32 rfl) ?_ (fun ch hp => by simp at hp)
          rintro y hy; injection hy with hy; subst hy
          refine A0 6 ?_ rfl (by kernel_rfl)
          refine As Tryd.f38 (B1 v (zs false (2 ^ (-n).toNat)) (by omega) hwl hw0) rfl Tryd.func38 rfl rfl (Aa rfl (Aa rfl Ad)) (.cons (.a1 .b (.a1 .n .a0)) (.cons (.a1 .b (.a1 .n .a0)) .nil)) (hd 33 rfl) ?_ (fun ch hp => by simp at hp)
          rintro _ ⟨⟩; refine zal 7 (Am (At rfl) (hd 26 rfl)) rfl <| zal 8 (Am (Ap rfl rfl) (hd 34 rfl)) rfl <| zal 9 (Cs rfl rfl (hd 35 rfl)) rfl ?_
          refine A0 12 ?_ rfl (by kernel_rfl)
          refine Bf (Ah rfl rfl rfl A2 rfl rfl (zlb rfl)) rfl ?_
          refine A0 13 ?_ rfl (by kernel_rfl)
          refine Bf (Ah rfl rfl rfl A2 rfl rfl (zlb rfl)) rfl <| Bg (by kernel_rfl) <| zsr <| Ac (A8 A7 rfl rfl rfl rfl) (hd 36 rfl) <| A6 (Ah rfl rfl rfl A2 rfl rfl (zlb rfl)) <| Ab <| Ak ?_
          refine ⟨_, _, (.cons (ResV.cell A7 rfl rfl rfl rfl) .nil), (.a1 .b (.a1 .n .a0)), ?_⟩
          exact rfl
      · refine Cw (Ao (id := 3) Bd (by decide) rfl (by decide) rfl) (hd 5 rfl) ?_
        refine A0 4 ?_ rfl (by kernel_rfl)
        refine As Tryd.f37 (hSh) rfl Tryd.func37 rfl rfl (Aa rfl (Aa rfl Ad)) (.cons .n (.cons .i .nil)) (hd 31 rfl) ?_ (fun ch hp => by simp at hp)
        rintro y hy; injection hy with hy; subst hy
        refine A0 5 ?_ rfl (by kernel_rfl)
        refine As Tryd.f24 (Cl false (2 ^ (-n).toNat)) rfl Tryd.func24 rfl rfl (Aa rfl (Aa rfl Ad)) (.cons .b (.cons .n .nil)) (hd 32 rfl) ?_ (fun ch hp => by simp at hp)
        rintro y hy; injection hy with hy; subst hy
        refine A0 6 ?_ rfl (by kernel_rfl)
        refine As Tryd.f38 (B1 v (zs false (2 ^ (-n).toNat)) (by omega) hwl hw0) rfl Tryd.func38 rfl rfl (Aa rfl (Aa rfl Ad)) (.cons (.a1 .b (.a1 .n .a0)) (.cons (.a1 .b (.a1 .n .a0)) .nil)) (hd 33 rfl) ?_ (fun ch hp => by simp at hp)
        rintro _ ⟨⟩; refine zal 7 (Am (At rfl) (hd 26 rfl)) rfl <| zal 8 (Am (Ap rfl rfl) (hd 34 rfl)) rfl <| zal 9 (Cs rfl rfl (hd 35 rfl)) rfl ?_
        refine A0 12 ?_ rfl (by kernel_rfl)
        refine Bf (Ah rfl rfl rfl A2 rfl rfl (zlb rfl)) rfl ?_
        refine A0 13 ?_ rfl (by kernel_rfl)
        refine Bf (Ah rfl rfl rfl A2 rfl rfl (zlb rfl)) rfl <| Bg (by kernel_rfl) <| zsr <| Ac (A8 A7 rfl rfl rfl rfl) (hd 36 rfl) <| A6 (Ah rfl rfl rfl A2 rfl rfl (zlb rfl)) <| Ab <| Ak ?_
        refine ⟨_, _, (.cons (ResV.cell A7 rfl rfl rfl rfl) .nil), (.a1 .b (.a1 .n .a0)), ?_⟩
        exact rfl
  · refine Cw (Ao (id := 2) Bd (by decide) rfl (by decide) rfl) (hd 5 rfl) ?_
    refine Ik 1 11 ?_ ?_ rfl rfl (by kernel_rfl)
    · refine As Tryd.f20 (hI1) rfl Tryd.func20 rfl rfl (Aa rfl Ad) (.cons .i .nil) (hd 28 rfl) ?_ (fun ch hp => by simp at hp)
      rintro y hy; injection hy with hy; subst hy
      refine Ik 4 11 ?_ ?_ rfl rfl (by kernel_rfl)
      · refine As Tryd.f37 (hSh) rfl Tryd.func37 rfl rfl (Aa rfl (Aa rfl Ad)) (.cons .n (.cons .i .nil)) (hd 31 rfl) ?_ (fun ch hp => by simp at hp)
        rintro y hy; injection hy with hy; subst hy
        refine Ik 5 11 ?_ ?_ rfl rfl (by kernel_rfl)
        · refine As Tryd.f24 (Cl false (2 ^ (-n).toNat)) rfl Tryd.func24 rfl rfl (Aa rfl (Aa rfl Ad)) (.cons .b (.cons .n .nil)) (hd 32 rfl) ?_ (fun ch hp => by simp at hp)
          rintro y hy; injection hy with hy; subst hy
          refine Ik 6 11 ?_ ?_ rfl rfl (by kernel_rfl)
          · refine As Tryd.f38 (B1 v (zs false (2 ^ (-n).toNat)) (by omega) hwl hw0) rfl Tryd.func38 rfl rfl (Aa rfl (Aa rfl Ad)) (.cons (.a1 .b (.a1 .n .a0)) (.cons (.a1 .b (.a1 .n .a0)) .nil)) (hd 33 rfl) ?_ (fun ch hp => by simp at hp)
            rintro _ ⟨⟩; refine zal 7 (Am (At rfl) (hd 26 rfl)) rfl <| zal 8 (Am (Ap rfl rfl) (hd 34 rfl)) rfl <| zal 9 (Cs rfl rfl (hd 35 rfl)) rfl ?_
            refine A0 11 ?_ rfl (by kernel_rfl)
            refine Cw (Ao (id := 3) Bd (by decide) rfl (by decide) rfl) (hd 6 rfl) ?_
            refine A0 12 ?_ rfl (by kernel_rfl)
            refine Bf (Ah rfl rfl rfl A2 rfl rfl (zlb rfl)) rfl ?_
            refine A0 13 ?_ rfl (by kernel_rfl)
            refine Bf (Ah rfl rfl rfl A2 rfl rfl (zlb rfl)) rfl <| Bg (by kernel_rfl) <| zsr <| Ac (A8 A7 rfl rfl rfl rfl) (hd 36 rfl) <| A6 (Ah rfl rfl rfl A2 rfl rfl (zlb rfl)) <| Ab <| Ak ?_
            refine ⟨_, _, (.cons (ResV.cell A7 rfl rfl rfl rfl) .nil), (.a1 .b (.a1 .n .a0)), ?_⟩
            exact rfl
          · refine Cw (Ao (id := 3) Bd (by decide) rfl (by decide) rfl) (hd 6 rfl) ?_
            refine A0 6 ?_ rfl (by kernel_rfl)
            refine As Tryd.f38 (B1 v (zs false (2 ^ (-n).toNat)) (by omega) hwl hw0) rfl Tryd.func38 rfl rfl (Aa rfl (Aa rfl Ad)) (.cons (.a1 .b (.a1 .n .a0)) (.cons (.a1 .b (.a1 .n .a0)) .nil)) (hd 33 rfl) ?_ (fun ch hp => by simp at hp)
            rintro _ ⟨⟩; refine zal 7 (Am (At rfl) (hd 26 rfl)) rfl <| zal 8 (Am (Ap rfl rfl) (hd 34 rfl)) rfl <| zal 9 (Cs rfl rfl (hd 35 rfl)) rfl ?_
            refine A0 12 ?_ rfl (by kernel_rfl)
            refine Bf (Ah rfl rfl rfl A2 rfl rfl (zlb rfl)) rfl ?_
            refine A0 13 ?_ rfl (by kernel_rfl)
            refine Bf (Ah rfl rfl rfl A2 rfl rfl (zlb rfl)) rfl <| Bg (by kernel_rfl) <| zsr <| Ac (A8 A7 rfl rfl rfl rfl) (hd 36 rfl) <| A6 (Ah rfl rfl rfl A2 rfl rfl (zlb rfl)) <| Ab <| Ak ?_
            refine ⟨_, _, (.cons (ResV.cell A7 rfl rfl rfl rfl) .nil), (.a1 .b (.a1 .n .a0)), ?_⟩
            exact rfl
        · refine Cw (Ao (id := 3) Bd (by decide) rfl (by decide) rfl) (hd 6 rfl) ?_
          refine A0 5 ?_ rfl (by kernel_rfl)
          refine As Tryd.f24 (Cl false (2 ^ (-n).toNat)) rfl Tryd.func24 rfl rfl (Aa rfl (Aa rfl Ad)) (.cons .b (.cons .n .nil)) (hd 32 rfl) ?_ (fun ch hp => by simp at hp)
          rintro y hy; injection hy with hy; subst hy
          refine A0 6 ?_ rfl (by kernel_rfl)
          refine As Tryd.f38 (B1 v (zs false (2 ^ (-n).toNat)) (by omega) hwl hw0) rfl Tryd.func38 rfl rfl (Aa rfl (Aa rfl Ad)) (.cons (.a1 .b (.a1 .n .a0)) (.cons (.a1 .b (.a1 .n .a0)) .nil)) (hd 33 rfl) ?_ (fun ch hp => by simp at hp)
          rintro _ ⟨⟩; refine zal 7 (Am (At rfl) (hd 26 rfl)) rfl <| zal 8 (Am (Ap rfl rfl) (hd 34 rfl)) rfl <| zal 9 (Cs rfl rfl (hd 35 rfl)) rfl ?_
          refine A0 12 ?_ rfl (by kernel_rfl)
          refine Bf (Ah rfl rfl rfl A2 rfl rfl (zlb rfl)) rfl ?_
          refine A0 13 ?_ rfl (by kernel_rfl)
          refine Bf (Ah rfl rfl rfl A2 rfl rfl (zlb rfl)) rfl <| Bg (by kernel_rfl) <| zsr <| Ac (A8 A7 rfl rfl rfl rfl) (hd 36 rfl) <| A6 (Ah rfl rfl rfl A2 rfl rfl (zlb rfl)) <| Ab <| Ak ?_
          refine ⟨_, _, (.cons (ResV.cell A7 rfl rfl rfl rfl) .nil), (.a1 .b (.a1 .n .a0)), ?_⟩
          exact rfl
      · refine Cw (Ao (id := 3) Bd (by decide) rfl (by decide) rfl) (hd 6 rfl) ?_
        refine A0 4 ?_ rfl (by kernel_rfl)
        refine As Tryd.f37 (hSh) rfl Tryd.func37 rfl rfl (Aa rfl (Aa rfl Ad)) (.cons .n (.cons .i .nil)) (hd 31 rfl) ?_ (fun ch hp => by simp at hp)
        rintro y hy; injection hy with hy; subst hy
        refine A0 5 ?_ rfl (by kernel_rfl)
        refine As Tryd.f24 (Cl false (2 ^ (-n).toNat)) rfl Tryd.func24 rfl rfl (Aa rfl (Aa rfl Ad)) (.cons .b (.cons .n .nil)) (hd 32 rfl) ?_ (fun ch hp => by simp at hp)
        rintro y hy; injection hy with hy; subst hy
        refine A0 6 ?_ rfl (by kernel_rfl)
        refine As Tryd.f38 (B1 v (zs false (2 ^ (-n).toNat)) (by omega) hwl hw0) rfl Tryd.func38 rfl rfl (Aa rfl (Aa rfl Ad)) (.cons (.a1 .b (.a1 .n .a0)) (.cons (.a1 .b (.a1 .n .a0)) .nil)) (hd 33 rfl) ?_ (fun ch hp => by simp at hp)
        rintro _ ⟨⟩; refine zal 7 (Am (At rfl) (hd 26 rfl)) rfl <| zal 8 (Am (Ap rfl rfl) (hd 34 rfl)) rfl <| zal 9 (Cs rfl rfl (hd 35 rfl)) rfl ?_
        refine A0 12 ?_ rfl (by kernel_rfl)
        refine Bf (Ah rfl rfl rfl A2 rfl rfl (zlb rfl)) rfl ?_
        refine A0 13 ?_ rfl (by kernel_rfl)
        refine Bf (Ah rfl rfl rfl A2 rfl rfl (zlb rfl)) rfl <| Bg (by kernel_rfl) <| zsr <| Ac (A8 A7 rfl rfl rfl rfl) (hd 36 rfl) <| A6 (Ah rfl rfl rfl A2 rfl rfl (zlb rfl)) <| Ab <| Ak ?_
        refine ⟨_, _, (.cons (ResV.cell A7 rfl rfl rfl rfl) .nil), (.a1 .b (.a1 .n .a0)), ?_⟩
        exact rfl
    · refine Cw (Ao (id := 3) Bd (by decide) rfl (by decide) rfl) (hd 6 rfl) ?_
      refine A0 1 ?_ rfl (by kernel_rfl)
      refine As Tryd.f20 (hI1) rfl Tryd.func20 rfl rfl (Aa rfl Ad) (.cons .i .nil) (hd 28 rfl) ?_ (fun ch hp => by simp at hp)
      rintro y hy; injection hy with hy; subst hy
      refine A0 4 ?_ rfl (by kernel_rfl)
      refine As Tryd.f37 (hSh) rfl Tryd.func37 rfl rfl (Aa rfl (Aa rfl Ad)) (.cons .n (.cons .i .nil)) (hd 31 rfl) ?_ (fun ch hp => by simp at hp)
      rintro y hy; injection hy with hy; subst hy
      refine A0 5 ?_ rfl (by kernel_rfl)
      refine As Tryd.f24 (Cl false (2 ^ (-n).toNat)) rfl Tryd.func24 rfl rfl (Aa rfl (Aa rfl Ad)) (.cons .b (.cons .n .nil)) (hd 32 rfl) ?_ (fun ch hp => by simp at hp)
      rintro y hy; injection hy with hy; subst hy
      refine A0 6 ?_ rfl (by kernel_rfl)
      refine As Tryd.f38 (B1 v (zs false (2 ^ (-n).toNat)) (by omega) hwl hw0) rfl Tryd.func38 rfl rfl (Aa rfl (Aa rfl Ad)) (.cons (.a1 .b (.a1 .n .a0)) (.cons (.a1 .b (.a1 .n .a0)) .nil)) (hd 33 rfl) ?_ (fun ch hp => by simp at hp)
      rintro _ ⟨⟩; refine zal 7 (Am (At rfl) (hd 26 rfl)) rfl <| zal 8 (Am (Ap rfl rfl) (hd 34 rfl)) rfl <| zal 9 (Cs rfl rfl (hd 35 rfl)) rfl ?_
      refine A0 12 ?_ rfl (by kernel_rfl)
      refine Bf (Ah rfl rfl rfl A2 rfl rfl (zlb rfl)) rfl ?_
      refine A0 13 ?_ rfl (by kernel_rfl)
      refine Bf (Ah rfl rfl rfl A2 rfl rfl (zlb rfl)) rfl <| Bg (by kernel_rfl) <| zsr <| Ac (A8 A7 rfl rfl rfl rfl) (hd 36 rfl) <| A6 (Ah rfl rfl rfl A2 rfl rfl (zlb rfl)) <| Ab <| Ak ?_
      refine ⟨_, _, (.cons (ResV.cell A7 rfl rfl rfl rfl) .nil), (.a1 .b (.a1 .n .a0)), ?_⟩
      exact rfl
  · refine Cw (Ao (id := 2) Bd (by decide) rfl (by decide) rfl) (hd 6 rfl) ?_
    refine Ik 1 10 ?_ ?_ rfl rfl (by kernel_rfl)
    · refine As Tryd.f20 (hI1) rfl Tryd.func20 rfl rfl (Aa rfl Ad) (.cons .i .nil) (hd 28 rfl) ?_ (fun ch hp => by simp at hp)
      rintro y hy; injection hy with hy; subst hy
      refine Ik 4 10 ?_ ?_ rfl rfl (by kernel_rfl)
      · refine As Tryd.f37 (hSh) rfl Tryd.func37 rfl rfl (Aa rfl (Aa rfl Ad)) (.cons .n (.cons .i .nil)) (hd 31 rfl) ?_ (fun ch hp => by simp at hp)
        rintro y hy; injection hy with hy; subst hy
        refine Ik 5 10 ?_ ?_ rfl rfl (by kernel_rfl)
        · refine As Tryd.f24 (Cl false (2 ^ (-n).toNat)) rfl Tryd.func24 rfl rfl (Aa rfl (Aa rfl Ad)) (.cons .b (.cons .n .nil)) (hd 32 rfl) ?_ (fun ch hp => by simp at hp)
          rintro y hy; injection hy with hy; subst hy
          refine Ik 6 10 ?_ ?_ rfl rfl (by kernel_rfl)
          · refine As Tryd.f38 (B1 v (zs false (2 ^ (-n).toNat)) (by omega) hwl hw0) rfl Tryd.func38 rfl rfl (Aa rfl (Aa rfl Ad)) (.cons (.a1 .b (.a1 .n .a0)) (.cons (.a1 .b (.a1 .n .a0)) .nil)) (hd 33 rfl) ?_ (fun ch hp => by simp at hp)
            rintro _ ⟨⟩; refine zal 7 (Am (At rfl) (hd 26 rfl)) rfl <| zal 8 (Am (Ap rfl rfl) (hd 34 rfl)) rfl <| zal 9 (Cs rfl rfl (hd 35 rfl)) rfl ?_
            refine A0 10 ?_ rfl (by kernel_rfl)
            refine Cw (Ao (id := 3) Bd (by decide) rfl (by decide) rfl) (hd 5 rfl) ?_
            refine A0 12 ?_ rfl (by kernel_rfl)
            refine Bf (Ah rfl rfl rfl A2 rfl rfl (zlb rfl)) rfl ?_
            refine A0 13 ?_ rfl (by kernel_rfl)
            refine Bf (Ah rfl rfl rfl A2 rfl rfl (zlb rfl)) rfl <| Bg (by kernel_rfl) <| zsr <| Ac (A8 A7 rfl rfl rfl rfl) (hd 36 rfl) <| A6 (Ah rfl rfl rfl A2 rfl rfl (zlb rfl)) <| Ab <| Ak ?_
            refine ⟨_, _, (.cons (ResV.cell A7 rfl rfl rfl rfl) .nil), (.a1 .b (.a1 .n .a0)), ?_⟩
            exact rfl
          · refine Cw (Ao (id := 3) Bd (by decide) rfl (by decide) rfl) (hd 5 rfl) ?_
            refine A0 6 ?_ rfl (by kernel_rfl)
            refine As Tryd.f38 (B1 v (zs false (2 ^ (-n).toNat)) (by omega) hwl hw0) rfl Tryd.func38 rfl rfl (Aa rfl (Aa rfl Ad)) (.cons (.a1 .b (.a1 .n .a0)) (.cons (.a1 .b (.a1 .n .a0)) .nil)) (hd 33 rfl) ?_ (fun ch hp => by simp at hp)
            rintro _ ⟨⟩; refine zal 7 (Am (At rfl) (hd 26 rfl)) rfl <| zal 8 (Am (Ap rfl rfl) (hd 34 rfl)) rfl <| zal 9 (Cs rfl rfl (hd 35 rfl)) rfl ?_
            refine A0 12 ?_ rfl (by kernel_rfl)
            refine Bf (Ah rfl rfl rfl A2 rfl rfl (zlb rfl)) rfl ?_
            refine A0 13 ?_ rfl (by kernel_rfl)
            refine Bf (Ah rfl rfl rfl A2 rfl rfl (zlb rfl)) rfl <| Bg (by kernel_rfl) <| zsr <| Ac (A8 A7 rfl rfl rfl rfl) (hd 36 rfl) <| A6 (Ah rfl rfl rfl A2 rfl rfl (zlb rfl)) <| Ab <| Ak ?_
            refine ⟨_, _, (.cons (ResV.cell A7 rfl rfl rfl rfl) .nil), (.a1 .b (.a1 .n .a0)), ?_⟩
            exact rfl
        · refine Cw (Ao (id := 3) Bd (by decide) rfl (by decide) rfl) (hd 5 rfl) ?_
          refine A0 5 ?_ rfl (by kernel_rfl)
          refine As Tryd.f24 (Cl false (2 ^ (-n).toNat)) rfl Tryd.func24 rfl rfl (Aa rfl (Aa rfl Ad)) (.cons .b (.cons .n .nil)) (hd 32 rfl) ?_ (fun ch hp => by simp at hp)
          rintro y hy; injection hy with hy; subst hy
          refine A0 6 ?_ rfl (by kernel_rfl)
          refine As Tryd.f38 (B1 v (zs false (2 ^ (-n).toNat)) (by omega) hwl hw0) rfl Tryd.func38 rfl rfl (Aa rfl (Aa rfl Ad)) (.cons (.a1 .b (.a1 .n .a0)) (.cons (.a1 .b (.a1 .n .a0)) .nil)) (hd 33 rfl) ?_ (fun ch hp => by simp at hp)
          rintro _ ⟨⟩; refine zal 7 (Am (At rfl) (hd 26 rfl)) rfl <| zal 8 (Am (Ap rfl rfl) (hd 34 rfl)) rfl <| zal 9 (Cs rfl rfl (hd 35 rfl)) rfl ?_
          refine A0 12 ?_ rfl (by kernel_rfl)
          refine Bf (Ah rfl rfl rfl A2 rfl rfl (zlb rfl)) rfl ?_
          refine A0 13 ?_ rfl (by kernel_rfl)
          refine Bf (Ah rfl rfl rfl A2 rfl rfl (zlb rfl)) rfl <| Bg (by kernel_rfl) <| zsr <| Ac (A8 A7 rfl rfl rfl rfl) (hd 36 rfl) <| A6 (Ah rfl rfl rfl A2 rfl rfl (zlb rfl)) <| Ab <| Ak ?_
          refine ⟨_, _, (.cons (ResV.cell A7 rfl rfl rfl rfl) .nil), (.a1 .b (.a1 .n .a0)), ?_⟩
          exact rfl
      · refine Cw (Ao (id := 3) Bd (by decide) rfl (by decide) rfl) (hd 5 rfl) ?_
        refine A0 4 ?_ rfl (by kernel_rfl)
        refine As Tryd.f37 (hSh) rfl Tryd.func37 rfl rfl (Aa rfl (Aa rfl Ad)) (.cons .n (.cons .i .nil)) (hd 31 rfl) ?_ (fun ch hp => by simp at hp)
        rintro y hy; injection hy with hy; subst hy
        refine A0 5 ?_ rfl (by kernel_rfl)
        refine As Tryd.f24 (Cl false (2 ^ (-n).toNat)) rfl Tryd.func24 rfl rfl (Aa rfl (Aa rfl Ad)) (.cons .b (.cons .n .nil)) (hd 32 rfl) ?_ (fun ch hp => by simp at hp)
        rintro y hy; injection hy with hy; subst hy
        refine A0 6 ?_ rfl (by kernel_rfl)
        refine As Tryd.f38 (B1 v (zs false (2 ^ (-n).toNat)) (by omega) hwl hw0) rfl Tryd.func38 rfl rfl (Aa rfl (Aa rfl Ad)) (.cons (.a1 .b (.a1 .n .a0)) (.cons (.a1 .b (.a1 .n .a0)) .nil)) (hd 33 rfl) ?_ (fun ch hp => by simp at hp)
        rintro _ ⟨⟩; refine zal 7 (Am (At rfl) (hd 26 rfl)) rfl <| zal 8 (Am (Ap rfl rfl) (hd 34 rfl)) rfl <| zal 9 (Cs rfl rfl (hd 35 rfl)) rfl ?_
        refine A0 12 ?_ rfl (by kernel_rfl)
        refine Bf (Ah rfl rfl rfl A2 rfl rfl (zlb rfl)) rfl ?_
        refine A0 13 ?_ rfl (by kernel_rfl)
        refine Bf (Ah rfl rfl rfl A2 rfl rfl (zlb rfl)) rfl <| Bg (by kernel_rfl) <| zsr <| Ac (A8 A7 rfl rfl rfl rfl) (hd 36 rfl) <| A6 (Ah rfl rfl rfl A2 rfl rfl (zlb rfl)) <| Ab <| Ak ?_
        refine ⟨_, _, (.cons (ResV.cell A7 rfl rfl rfl rfl) .nil), (.a1 .b (.a1 .n .a0)), ?_⟩
        exact rfl
    · refine Cw (Ao (id := 3) Bd (by decide) rfl (by decide) rfl) (hd 5 rfl) ?_
      refine A0 1 ?_ rfl (by kernel_rfl)
      refine As Tryd.f20 (hI1) rfl Tryd.func20 rfl rfl (Aa rfl Ad) (.cons .i .nil) (hd 28 rfl) ?_ (fun ch hp => by simp at hp)
      rintro y hy; injection hy with hy; subst hy
      refine A0 4 ?_ rfl (by kernel_rfl)
      refine As Tryd.f37 (hSh) rfl Tryd.func37 rfl rfl (Aa rfl (Aa rfl Ad)) (.cons .n (.cons .i .nil)) (hd 31 rfl) ?_ (fun ch hp => by simp at hp)
      rintro y hy; injection hy with hy; subst hy
      refine A0 5 ?_ rfl (by kernel_rfl)
      refine As Tryd.f24 (Cl false (2 ^ (-n).toNat)) rfl Tryd.func24 rfl rfl (Aa rfl (Aa rfl Ad)) (.cons .b (.cons .n .nil)) (hd 32 rfl) ?_ (fun ch hp => by simp at hp)
      rintro y hy; injection hy with hy; subst hy
      refine A0 6 ?_ rfl (by kernel_rfl)
      refine As Tryd.f38 (B1 v (zs false (2 ^ (-n).toNat)) (by omega) hwl hw0) rfl Tryd.func38 rfl rfl (Aa rfl (Aa rfl Ad)) (.cons (.a1 .b (.a1 .n .a0)) (.cons (.a1 .b (.a1 .n .a0)) .nil)) (hd 33 rfl) ?_ (fun ch hp => by simp at hp)
      rintro _ ⟨⟩; refine zal 7 (Am (At rfl) (hd 26 rfl)) rfl <| zal 8 (Am (Ap rfl rfl) (hd 34 rfl)) rfl <| zal 9 (Cs rfl rfl (hd 35 rfl)) rfl ?_
      refine A0 12 ?_ rfl (by kernel_rfl)
      refine Bf (Ah rfl rfl rfl A2 rfl rfl (zlb rfl)) rfl ?_
      refine A0 13 ?_ rfl (by kernel_rfl)
      refine Bf (Ah rfl rfl rfl A2 rfl rfl (zlb rfl)) rfl <| Bg (by kernel_rfl) <| zsr <| Ac (A8 A7 rfl rfl rfl rfl) (hd 36 rfl) <| A6 (Ah rfl rfl rfl A2 rfl rfl (zlb rfl)) <| Ab <| Ak ?_
      refine ⟨_, _, (.cons (ResV.cell A7 rfl rfl rfl rfl) .nil), (.a1 .b (.a1 .n .a0)), ?_⟩
      exact rfl
end Go.Proofs.YteopohdkceelkaaDoor.Vc
