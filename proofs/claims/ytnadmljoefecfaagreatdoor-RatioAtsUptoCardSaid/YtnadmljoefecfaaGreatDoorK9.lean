/- The law RatioAts of every input of bulk at most 1048576: it returns true, and the input reads as it did. Texts joined: Rj, Ca, Cc, Cd, Ce, Cga, Ch, Ci, RAts. -/
import Derived.Test.YtnadmljoefecfaaGreatDoorK8
import Derived.Test.YtnadmljoefecfaaGreatDoorRows
import Derived.Test.YtnadmljoefecfaaGreatDoorCards
import Derived.Test.YtnadmljoefecfaaGreatDoorTie
import Derived.WalkKit
import Derived.Deep.DeepHandedRow
import Derived.Lib.LaidTab
import Derived.ProofKit
import Derived.OpenShut
import Derived.Carry
import Derived.JoinedCond
set_option linter.unusedVariables false
set_option linter.unusedSimpArgs false
set_option maxHeartbeats 4000000
namespace Go.Proofs.YtnadmljoefecfaaGreatDoor.Vc
open Go Go.RowKit
def SN (x y : Nat) (n : Int) : Nat := if 0 ≤ n then x * 2 ^ (n.toNat - min n.toNat (tz y)) else x / 2 ^ (min (-n).toNat (tz x))
def SD (x y : Nat) (n : Int) : Nat := if 0 ≤ n then y / 2 ^ (min n.toNat (tz y)) else y * 2 ^ ((-n).toNat - min (-n).toNat (tz x))
theorem Tw {x t : Nat} (h0 : x ≠ 0) (h : t ≤ tz x) : x / 2 ^ t * 2 ^ t = x := Nat.div_mul_cancel ((Acw (by omega)).1 h)
theorem Tv {x t : Nat} (h0 : x ≠ 0) (h : t ≤ tz x) : x / 2 ^ t ≠ 0 := fun e => by
  have h1 := Tw h0 h
  rw [e, Nat.zero_mul] at h1
  exact h0 h1.symm
theorem Aaa {x y : Nat} {n : Int} (hx : x ≠ 0) : SN x y n ≠ 0 := by
  unfold SN
  split
  · have := Nat.pow_pos (n := n.toNat - min n.toNat (tz y)) (show 0 < 2 by decide)
    exact Nat.mul_ne_zero hx (by omega)
  · exact Tv hx (Nat.min_le_right _ _)
theorem Q3 {x y : Nat} {n : Int} (hy : y ≠ 0) : SD x y n ≠ 0 := by
  unfold SD
  split
  · exact Tv hy (Nat.min_le_right _ _)
  · have := Nat.pow_pos (n := (-n).toNat - min (-n).toNat (tz x)) (show 0 < 2 by decide)
    exact Nat.mul_ne_zero hy (by omega)
theorem Sl {x y : Nat} {n : Int} (hy : y ≠ 0) (h : 0 ≤ n) : SN x y n * y = x * 2 ^ n.toNat * SD x y n := by
  unfold SN SD
  rw [if_pos h, if_pos h]
  have h1 := Tw hy (Nat.min_le_right n.toNat (tz y))
  generalize ht : min n.toNat (tz y) = t at h1
  have h2 : n.toNat = (n.toNat - t) + t := by omega
  calc x * 2 ^ (n.toNat - t) * y = x * 2 ^ (n.toNat - t) * (y / 2 ^ t * 2 ^ t) := by rw [h1]
    _ = x * (2 ^ (n.toNat - t) * 2 ^ t) * (y / 2 ^ t) := by ac_rfl
    _ = x * 2 ^ n.toNat * (y / 2 ^ t) := by rw [← Nat.pow_add, ← h2]
theorem Z4 {x y : Nat} {n : Int} (hx : x ≠ 0) (h : n < 0) : SN x y n * (y * 2 ^ (-n).toNat) = x * SD x y n := by
  unfold SN SD
  rw [if_neg (by omega), if_neg (by omega)]
  have h1 := Tw hx (Nat.min_le_right (-n).toNat (tz x))
  generalize ht : min (-n).toNat (tz x) = t at h1
  have h2 : (-n).toNat = (-n).toNat - t + t := by omega
  calc x / 2 ^ t * (y * 2 ^ (-n).toNat) = x / 2 ^ t * (y * (2 ^ ((-n).toNat - t) * 2 ^ t)) := by rw [← Nat.pow_add, ← h2]
    _ = x / 2 ^ t * 2 ^ t * (y * 2 ^ ((-n).toNat - t)) := by ac_rfl
    _ = x * (y * 2 ^ ((-n).toNat - t)) := by rw [h1]
theorem Vs (x : Nat) : x < 2 ^ Aq (x : Int) := by
  have h := Cn.1 (Nat.le_refl (Aq (x : Int)))
  rwa [Int.natAbs_natCast] at h
theorem Abu {x : Nat} (h : x ≠ 0) : 2 ^ (Aq (x : Int) - 1) ≤ x := by
  rcases Nat.lt_or_ge x (2 ^ (Aq (x : Int) - 1)) with h1 | h1
  · have h2 : Aq (x : Int) ≤ Aq (x : Int) - 1 := Cn.2 (by rw [Int.natAbs_natCast]; exact h1)
    have h3 : 0 < Aq (x : Int) := Dy (by rw [Int.natAbs_natCast]; exact h)
    omega
  · exact h1
theorem tiny {x y : Nat} {n : Int} (hx : x ≠ 0) (hy : y ≠ 0) (h : (Aq (x : Int) : Int) + n ≤ (Aq (y : Int) : Int) - 3) : 4 * SN x y n < SD x y n := by
  have a1 := Vs x
  have a2 := Abu hy
  have hly : 0 < Aq (y : Int) := Dy (by rw [Int.natAbs_natCast]; exact hy)
  have hd := Q3 (x := x) (n := n) hy
  rcases Int.lt_or_le n 0 with hn | hn
  · have hc := Z4 (y := y) hx hn
    have b1 : 4 * x < y * 2 ^ (-n).toNat := by
      have e1 : 4 * x < 2 ^ (Aq (x : Int) + 2) := by rw [Nat.pow_add]; omega
      have e2 : 2 ^ (Aq (x : Int) + 2) ≤ 2 ^ (Aq (y : Int) - 1 + (-n).toNat) := Nat.pow_le_pow_right (by decide) (by omega)
      rw [Nat.pow_add 2 (Aq (y : Int) - 1)] at e2
      have e3 := Nat.mul_le_mul_right (2 ^ (-n).toNat) a2
      omega
    refine Nat.lt_of_mul_lt_mul_right (a := y * 2 ^ (-n).toNat) ?_
    have e4 : SD x y n * (4 * x) < SD x y n * (y * 2 ^ (-n).toNat) := Nat.mul_lt_mul_of_pos_left b1 (by omega)
    have e5 : 4 * SN x y n * (y * 2 ^ (-n).toNat) = SD x y n * (4 * x) := by rw [Nat.mul_assoc, hc]; ac_rfl
    omega
  · have hc := Sl (x := x) hy hn
    have b1 : 4 * (x * 2 ^ n.toNat) < y := by
      have hp : 0 < 2 ^ n.toNat := Nat.pow_pos (by decide)
      have e0 : x * 2 ^ n.toNat < 2 ^ (Aq (x : Int) + n.toNat) := by rw [Nat.pow_add]; exact Nat.mul_lt_mul_of_pos_right a1 hp
      have e1 : 2 ^ (Aq (x : Int) + n.toNat + 2) ≤ 2 ^ (Aq (y : Int) - 1) := Nat.pow_le_pow_right (by decide) (by omega)
      rw [Nat.pow_add 2 (Aq (x : Int) + n.toNat) 2] at e1
      omega
    refine Nat.lt_of_mul_lt_mul_right (a := y) ?_
    have e4 : SD x y n * (4 * (x * 2 ^ n.toNat)) < SD x y n * y := Nat.mul_lt_mul_of_pos_left b1 (by omega)
    have e5 : 4 * SN x y n * y = SD x y n * (4 * (x * 2 ^ n.toNat)) := by rw [Nat.mul_assoc, hc]; ac_rfl
    omega
theorem huge {x y : Nat} {n : Int} {M : Nat} (hx : x ≠ 0) (hy : y ≠ 0) (hn : 0 ≤ n) (h : (M : Int) + 1 ≤ (Aq (x : Int) : Int) - (Aq (y : Int) : Int) + n) : 2 ^ M ≤ SN x y n / SD x y n := by
  have a1 := Abu hx
  have a2 := Vs y
  have hlx : 0 < Aq (x : Int) := Dy (by rw [Int.natAbs_natCast]; exact hx)
  have hd := Q3 (x := x) (n := n) hy
  rw [Nat.le_div_iff_mul_le (by omega)]
  have hc := Sl (x := x) hy hn
  refine Nat.le_of_mul_le_mul_right (c := y) ?_ (by omega)
  rw [hc]
  have e1 : 2 ^ (Aq (x : Int) - 1) * 2 ^ n.toNat ≤ x * 2 ^ n.toNat := Nat.mul_le_mul_right _ a1
  have e2 : 2 ^ M * 2 ^ Aq (y : Int) ≤ 2 ^ (Aq (x : Int) - 1) * 2 ^ n.toNat := by
    rw [← Nat.pow_add, ← Nat.pow_add]
    exact Nat.pow_le_pow_right (by decide) (by omega)
  have e3 : 2 ^ M * y ≤ x * 2 ^ n.toNat := Nat.le_trans (Nat.mul_le_mul_left _ (Nat.le_of_lt a2)) (Nat.le_trans e2 e1)
  calc 2 ^ M * SD x y n * y = 2 ^ M * y * SD x y n := by ac_rfl
    _ ≤ x * 2 ^ n.toNat * SD x y n := Nat.mul_le_mul_right _ e3
def grB (k : Nat) (s : Bool) (N D : Nat) : Bool := match k with | 1 => s | 2 => !s | _ => decide (D < 2 * (N % D) ∨ (2 * (N % D) = D ∧ N / D % 2 = 1))
def upB (k : Nat) (s : Bool) (N D : Nat) : Bool := decide (N % D ≠ 0) && grB k s N D
theorem zs_dn {s : Bool} {N : Nat} (h : N ≠ 0) : decide (zs s N < 0) = s := by unfold zs; cases s <;> simp <;> omega
theorem J7 {k : Nat} {s : Bool} {N D : Nat} (hk : k = 1 ∨ k = 2 ∨ k = 3) (hN : N ≠ 0) (hD : D ≠ 0) : wq k (zs s N) (D : Int) = zs s (if upB k s N D = true then N / D + 1 else N / D) := by
  have hD' : (D : Int) ≠ 0 := by omega
  have hng : ng (zs s N) (D : Int) = s := by unfold ng; rw [zs_dn hN, decide_eq_false (show ¬ ((D : Int) < 0) by omega)]; cases s <;> rfl
  have hq : qn (zs s N) (D : Int) = ((N / D : Nat) : Int) := by unfold qn; rw [Nz, Int.natAbs_natCast]; rfl
  have hr : rn (zs s N) (D : Int) = ((N % D : Nat) : Int) := by unfold rn; rw [Nz, Int.natAbs_natCast]; rfl
  have hsg : ∀ m : Nat, sgd s (m : Int) = zs s m := fun m => rfl
  have hg : gro k (zs s N) (D : Int) = grB k s N D := by
    rcases hk with rfl | rfl | rfl
    · exact hng
    · show (!ng _ _) = _; rw [hng]; rfl
    · show decide _ = decide _
      rw [hr, hq, Int.natAbs_natCast, decide_eq_decide]
      omega
  by_cases hu : upB k s N D = true
  · rw [if_pos hu]
    unfold upB at hu
    rw [← hg, Bool.and_eq_true] at hu
    have h1 := (Ji (k := k) hD' (by rw [hr]; have := of_decide_eq_true hu.1; omega) hu.2).1
    rw [hng, hq] at h1
    rw [← h1, ← hsg]; rfl
  · rw [if_neg hu]
    have h1 := (Lt (k := k) hD' (v := zs s N) (by
      rw [hr, ← Bool.not_eq_true]
      by_cases h2 : N % D = 0
      · left; omega
      · right
        intro h3
        apply hu
        unfold upB
        rw [← hg, h3, decide_eq_true h2]; rfl)).1
    rw [hng, hq] at h1
    rw [← h1, ← hsg]
theorem Acl {k : Nat} {s : Bool} {N D : Nat} (hk : k = 1 ∨ k = 2 ∨ k = 3) (hN : N ≠ 0) (h : 2 * N < D) : wq k (zs s N) (D : Int) = wq k (zs s 1) (4 : Int) := by
  rw [J7 hk hN (by omega), show (4 : Int) = ((4 : Nat) : Int) from rfl, J7 hk (by decide) (by decide)]
  have e1 : N / D = 0 := Nat.div_eq_of_lt (by omega)
  have e2 : N % D = N := Nat.mod_eq_of_lt (by omega)
  have e3 : upB k s N D = upB k s 1 4 := by
    unfold upB grB
    rw [e1, e2, decide_eq_true hN]
    rcases hk with rfl | rfl | rfl
    · rfl
    · rfl
    · show (true && decide _) = _
      rw [decide_eq_false (by omega)]; rfl
  rw [e1, e3]
def atV (k : Nat) (s : Bool) (x y : Nat) (n : Int) : Int := wq k (zs s (SN x y n)) (SD x y n : Int)
theorem Nx {k : Nat} {s : Bool} {x y : Nat} {n : Int} (hk : k = 1 ∨ k = 2 ∨ k = 3) (hx : x ≠ 0) (hy : y ≠ 0) (h : (Aq (x : Int) : Int) + n ≤ (Aq (y : Int) : Int) - 3) : atV k s x y n = wq k (zs s 1) 4 :=
  Acl hk (Aaa hx) (by have := tiny hx hy h; omega)
theorem Sp {k : Nat} {s : Bool} {x y : Nat} {n : Int} {M : Nat} (hk : k = 1 ∨ k = 2 ∨ k = 3) (hx : x ≠ 0) (hy : y ≠ 0) (hn : 0 ≤ n) (h : (M : Int) + 1 ≤ (Aq (x : Int) : Int) - (Aq (y : Int) : Int) + n) : M < Aq (atV k s x y n) := by
  have h1 := huge hx hy hn h
  unfold atV
  rw [J7 hk (Aaa hx) (Q3 hy), Jo]
  refine Ae1 ?_
  rw [Int.natAbs_natCast]
  split <;> omega
theorem Oz {x n : Nat} : Aq ((x * 2 ^ n : Nat) : Int) ≤ Aq (x : Int) + n := Vu (by rw [Nat.pow_add]; exact Nat.mul_lt_mul_of_pos_right (Vs x) (Nat.pow_pos (by decide)))
theorem O0 {x n : Nat} : Aq ((x / n : Nat) : Int) ≤ Aq (x : Int) := Cc (by rw [Int.natAbs_natCast, Int.natAbs_natCast]; exact Nat.div_le_self _ _)
theorem Ace {x y : Nat} {n : Int} : Aq ((SN x y n : Nat) : Int) ≤ Aq (x : Int) + n.toNat := by
  unfold SN
  split
  · exact Nat.le_trans Oz (by omega)
  · exact Nat.le_trans O0 (by omega)
theorem Acf {x y : Nat} {n : Int} : Aq ((SD x y n : Nat) : Int) ≤ Aq (y : Int) + (-n).toNat := by
  unfold SD
  split
  · exact Nat.le_trans O0 (by omega)
  · exact Nat.le_trans Oz (by omega)

theorem Ach (v w : Int) (hv : (lm v).length ≤ 8388608) (hqn : Aq (qn v w) ≤ 67108864) (hw : Aq w ≤ 67108864) (h0 : w ≠ 0) : Spec Tryz.prog 102 [.n false .u64 (lm v), .n false .u64 (lm w)] (fun o => o = .ret (.t [.n false .u64 (lm (qn v w)), .n false .u64 (lm (rn v w)), .i .i64 0])) := by
  refine Au [(0, .n false .u64 (lm v)), (1, .n false .u64 (lm w))] rfl Tryz.func102 rfl (zlb rfl) fun Γ hN hds hL hR => ?_
  have hd := Bt 32 hN
  have hlw := Bv hw
  have hlr := Cc (v := rn v w) (w := w) (Ms h0).1
  have hlq := Bv hqn
  have hlR := Bv (v := rn v w) (by omega)
  have hne := Qn h0
  refine zsr <| zas rfl (hd 4 rfl) <| zas rfl (hd 5 rfl) <| zas rfl (hd 6 rfl) <| Aa <| zsr <| zmv rfl (hd 9 rfl) ?_
  refine Ah Tryz.f66 (Lm v (by omega)) rfl Tryz.func66 rfl rfl (Ab rfl Ad) (.cons .n .nil) (hd 10 rfl) ?_ (fun ch hp => by simp at hp)
  rintro _ ⟨⟩; refine zmv rfl (hd 11 rfl) ?_
  refine Ah Tryz.f66 (Lm w (by omega)) rfl Tryz.func66 rfl rfl (Ab rfl Ad) (.cons .n .nil) (hd 12 rfl) ?_ (fun ch hp => by simp at hp)
  rintro _ ⟨⟩; refine zas rfl (hd 0 rfl) <| zas rfl (hd 1 rfl) <| Aa <| Ae <| zsr <| zmv rfl (hd 13 rfl) <| Ac (As Bc rfl) (hd 14 rfl) <| Ac (Bo (Ch rfl rfl) (fun h => hne (List.eq_nil_of_length_eq_zero (by omega)))) (hd 15 rfl) <| Aa <| A1 rfl <| Ai <| Ae ?_; refine Af <| zmv rfl (hd 17 rfl) <| zmv rfl (hd 18 rfl) ?_
  refine Ah Tryz.f107 (Jc v w (by omega) (by omega) h0) rfl Tryz.func107 rfl rfl (Ab rfl (Ab rfl Ad)) (.cons .n (.cons .n .nil)) (hd 19 rfl) ?_ (fun ch hp => by simp at hp)
  rintro _ ⟨⟩; refine zmv rfl (hd 16 rfl) <| Ac (Am rfl rfl) (hd 20 rfl) <| Ac (Am rfl rfl) (hd 21 rfl) <| zas rfl (hd 7 rfl) <| zas rfl (hd 8 rfl) <| Aa <| Ae <| zsr <| zmv rfl (hd 22 rfl) ?_
  refine Ah Tryz.f30 (Di (qn v w) (by omega)) rfl Tryz.func30 rfl rfl (Ab rfl Ad) (.cons .n .nil) (hd 23 rfl) ?_ (fun ch hp => by simp at hp)
  rintro _ ⟨⟩; refine Ac (Bo (Ca rfl rfl) (by omega)) (hd 24 rfl) <| zmv rfl (hd 25 rfl) <| Ay 25 rfl rfl (Ar rfl) (hd 26 rfl) ?_
  refine Dv Tryz.f30 25 rfl rfl (Di (rn v w) (by omega)) rfl Tryz.func30 rfl rfl (Ab rfl Ad) (.cons .n .nil) (hd 27 rfl) ?_ (fun ch hp => by simp at hp)
  rintro _ ⟨⟩; refine Ay 25 rfl rfl (Bo (Ca rfl rfl) (by omega)) (hd 28 rfl) <| Ac (A3 rfl rfl) (hd 29 rfl) <| Aa <| A1 rfl <| Ai <| zsr <| zmv rfl (hd 30 rfl) <| zmv rfl (hd 31 rfl) <| zas rfl (hd 4 rfl) <| zas rfl (hd 5 rfl) <| zas rfl (hd 6 rfl) <| Aa ?_; refine Ao ?_
  refine ⟨_, _, (.cons rfl (.cons rfl (.cons rfl .nil))), (.t1 .n (.t1 .n (.t1 .i .t0))), ?_⟩
  exact rfl

theorem Both_O (v w : Int) (hv : (lm v).length ≤ 8388608) (hqn : 67108864 < Aq (qn v w)) (hql : (lm (qn v w)).length ≤ 8388608) (hw : Aq w ≤ 67108864) (h0 : w ≠ 0) : Spec Tryz.prog 102 [.n false .u64 (lm v), .n false .u64 (lm w)] (fun o => o = .ret (.t [.n false .u64 [], .n false .u64 [], .i .i64 3])) := by
  refine Au [(0, .n false .u64 (lm v)), (1, .n false .u64 (lm w))] rfl Tryz.func102 rfl (zlb rfl) fun Γ hN hds hL hR => ?_
  have hd := Bt 32 hN
  have hlw := Bv hw
  have hne := Qn h0
  refine zsr <| zas rfl (hd 4 rfl) <| zas rfl (hd 5 rfl) <| zas rfl (hd 6 rfl) <| Aa <| zsr <| zmv rfl (hd 9 rfl) ?_
  refine Ah Tryz.f66 (Lm v (by omega)) rfl Tryz.func66 rfl rfl (Ab rfl Ad) (.cons .n .nil) (hd 10 rfl) ?_ (fun ch hp => by simp at hp)
  rintro _ ⟨⟩; refine zmv rfl (hd 11 rfl) ?_
  refine Ah Tryz.f66 (Lm w (by omega)) rfl Tryz.func66 rfl rfl (Ab rfl Ad) (.cons .n .nil) (hd 12 rfl) ?_ (fun ch hp => by simp at hp)
  rintro _ ⟨⟩; refine zas rfl (hd 0 rfl) <| zas rfl (hd 1 rfl) <| Aa <| Ae <| zsr <| zmv rfl (hd 13 rfl) <| Ac (As Bc rfl) (hd 14 rfl) <| Ac (Bo (Ch rfl rfl) (fun h => hne (List.eq_nil_of_length_eq_zero (by omega)))) (hd 15 rfl) <| Aa <| A1 rfl <| Ai <| Ae ?_; refine Af <| zmv rfl (hd 17 rfl) <| zmv rfl (hd 18 rfl) ?_
  refine Ah Tryz.f107 (Jc v w (by omega) (by omega) h0) rfl Tryz.func107 rfl rfl (Ab rfl (Ab rfl Ad)) (.cons .n (.cons .n .nil)) (hd 19 rfl) ?_ (fun ch hp => by simp at hp)
  rintro _ ⟨⟩; refine zmv rfl (hd 16 rfl) <| Ac (Am rfl rfl) (hd 20 rfl) <| Ac (Am rfl rfl) (hd 21 rfl) <| zas rfl (hd 7 rfl) <| zas rfl (hd 8 rfl) <| Aa <| Ae <| zsr <| zmv rfl (hd 22 rfl) ?_
  refine Ah Tryz.f30 (Di (qn v w) (by omega)) rfl Tryz.func30 rfl rfl (Ab rfl Ad) (.cons .n .nil) (hd 23 rfl) ?_ (fun ch hp => by simp at hp)
  rintro _ ⟨⟩; refine Ac (Cq (Ca rfl rfl) (by omega)) (hd 24 rfl) <| zmv rfl (hd 25 rfl) <| Bk 25 rfl rfl rfl (hd 26 rfl) <| Bk 25 rfl rfl rfl (hd 27 rfl) <| Bk 25 rfl rfl rfl (hd 28 rfl) <| Ac (A9 rfl rfl) (hd 29 rfl) <| Aa <| B4 rfl <| zsr <| zas rfl (hd 4 rfl) <| zas rfl (hd 5 rfl) <| zas rfl (hd 6 rfl) ?_; refine Aa <| Ao ?_
  refine ⟨_, _, (.cons rfl (.cons rfl (.cons rfl .nil))), (.t1 (.nil (fr := false) (k := .u64)) (.t1 (.nil (fr := false) (k := .u64)) (.t1 .i .t0))), ?_⟩
  exact rfl

theorem Aah (v w : Int) (hqn : Aq (qn v w) ≤ 67108864) (hw : Aq w ≤ 67108864) (h0 : w ≠ 0) : Spec Tryz.prog 120 [.n false .u64 (lm (qn v w)), .n false .u64 (lm (rn v w)), .n false .u64 (lm w), .b (ng v w), .b (decide (w < 0)), .b (decide (v < 0))] (fun o => o = .ret (.b (gro 3 v w))) := by
  refine Au [(0, .n false .u64 (lm (qn v w))), (1, .n false .u64 (lm (rn v w))), (2, .n false .u64 (lm w)), (3, .b (ng v w)), (4, .b (decide (w < 0))), (5, .b (decide (v < 0)))] rfl Tryz.func120 rfl (zlb rfl) fun Γ hN hds hL hR => ?_
  have hd := Bt 36 hN
  have hlw := Bv hw
  obtain ⟨hx, hr0, hr1, hq0⟩ := E9 (v := v) h0
  have hlr := Cc (v := rn v w) (w := w) (Ms h0).1
  have hlR := Bv (v := rn v w) (by omega)
  have hld := Cc (v := ((w.natAbs : Int) - rn v w)) (w := w) (Ms h0).2
  have hlD := Bv (v := ((w.natAbs : Int) - rn v w)) (by omega)
  have hlq := Bv hqn
  have habs : lm (w.natAbs : Int) = lm w := by unfold lm; rw [Int.natAbs_natCast]
  have hlenw : Aq (w.natAbs : Int) = Aq w := by unfold Aq; rw [Int.natAbs_natCast]
  have hS := Sub_v (w.natAbs : Int) (rn v w) hr0 (by omega) (by omega)
  rw [habs] at hS
  have hcm : Ht ((rn v w).natAbs : Int) ((((w.natAbs : Int) - rn v w)).natAbs : Int) = Ht (rn v w) ((w.natAbs : Int) - rn v w) := by rw [show ((rn v w).natAbs : Int) = rn v w by omega, show ((((w.natAbs : Int) - rn v w)).natAbs : Int) = ((w.natAbs : Int) - rn v w) by omega]
  refine zsr <| zas rfl (hd 12 rfl) <| Aa <| zsr <| zmv rfl (hd 17 rfl) <| zmv rfl (hd 18 rfl) ?_
  refine Ah Tryz.f105 (hS) rfl Tryz.func105 rfl rfl (Ab rfl (Ab rfl Ad)) (.cons .n (.cons .n .nil)) (hd 19 rfl) ?_ (fun ch hp => by simp at hp)
  rintro _ ⟨⟩; refine zmv rfl (hd 16 rfl) <| Ac (Am rfl rfl) (hd 20 rfl) <| Ac (Am rfl rfl) (hd 21 rfl) <| zas rfl (hd 13 rfl) <| zas rfl (hd 14 rfl) <| Aa <| zsr <| zmv rfl (hd 22 rfl) <| zmv rfl (hd 23 rfl) ?_
  refine Ah Tryz.f89 (Po (rn v w) ((w.natAbs : Int) - rn v w) (by omega) (by omega)) rfl Tryz.func89 rfl rfl (Ab rfl (Ab rfl Ad)) (.cons .n (.cons .n .nil)) (hd 24 rfl) ?_ (fun ch hp => by simp at hp)
  rintro _ ⟨⟩; refine zas rfl (hd 15 rfl) <| Aa <| zsr <| zmv rfl (hd 25 rfl) <| Ac (Ca rfl rfl) (hd 26 rfl) <| zmv rfl (hd 27 rfl) ?_
  refine D4 27 rfl (fun h1 => ?_) (fun h1 => ?_)
  · refine Bk 27 rfl rfl rfl (hd 28 rfl) <| Bk 27 rfl rfl rfl (hd 29 rfl) <| Bk 27 rfl rfl rfl (hd 30 rfl) <| In 30 rfl rfl (hd 31 rfl) <| In 30 rfl rfl (hd 32 rfl) <| In 30 rfl rfl (hd 33 rfl) <| Bk 27 rfl rfl rfl (hd 34 rfl) <| Ac (A9 rfl rfl) (hd 35 rfl) <| zas rfl (hd 12 rfl) <| Aa <| Ao ?_
    refine ⟨_, _, (.cons rfl .nil), .b, ?_⟩
    show Out.ret (V.b _) = Out.ret (V.b _)
    congr 2
    show _ = decide ((w.natAbs : Int) < 2 * rn v w ∨ (2 * rn v w = w.natAbs ∧ qn v w % 2 = 1))
    rw [hcm] at *
    unfold Ht at *
    first | (refine (decide_eq_true ?_).symm; (repeat' split at *) <;> omega) | (refine (decide_eq_false ?_).symm; (repeat' split at *) <;> omega) | (rw [decide_eq_decide]; (repeat' split at *) <;> omega)
  · refine Ay 27 rfl rfl (Ar rfl) (hd 28 rfl) <| Ay 27 rfl rfl (Ch rfl rfl) (hd 29 rfl) <| Ay 27 rfl rfl (Ar rfl) (hd 30 rfl) ?_
    refine D4 30 rfl (fun h2 => ?_) (fun h2 => ?_)
    · refine Ay 30 rfl rfl (Ar rfl) (hd 31 rfl) ?_
      refine Dv Tryz.f121 30 rfl rfl (Bit0_v (qn v w) (by omega)) rfl Tryz.func121 rfl rfl (Ab rfl (Ab rfl Ad)) (.cons .n (.cons .i .nil)) (hd 32 rfl) ?_ (fun ch hp => by simp at hp)
      rintro _ ⟨⟩; refine Ay 30 rfl rfl (Ch rfl rfl) (hd 33 rfl) <| Ay 27 rfl rfl (A9 rfl rfl) (hd 34 rfl) <| Ac (A3 rfl rfl) (hd 35 rfl) <| zas rfl (hd 12 rfl) <| Aa <| Ao ?_
      refine ⟨_, _, (.cons rfl .nil), .b, ?_⟩
      show Out.ret (V.b _) = Out.ret (V.b _)
      congr 2
      show _ = decide ((w.natAbs : Int) < 2 * rn v w ∨ (2 * rn v w = w.natAbs ∧ qn v w % 2 = 1))
      rw [hcm] at *
      unfold Ht at *
      first | (refine (decide_eq_true ?_).symm; (repeat' split at *) <;> omega) | (refine (decide_eq_false ?_).symm; (repeat' split at *) <;> omega) | (rw [decide_eq_decide]; (repeat' split at *) <;> omega)
    · refine Bk 30 rfl rfl rfl (hd 31 rfl) <| Bk 30 rfl rfl rfl (hd 32 rfl) <| Bk 30 rfl rfl rfl (hd 33 rfl) <| Ay 27 rfl rfl (A3 rfl rfl) (hd 34 rfl) <| Ac (A3 rfl rfl) (hd 35 rfl) <| zas rfl (hd 12 rfl) <| Aa <| Ao ?_
      refine ⟨_, _, (.cons rfl .nil), .b, ?_⟩
      show Out.ret (V.b _) = Out.ret (V.b _)
      congr 2
      show _ = decide ((w.natAbs : Int) < 2 * rn v w ∨ (2 * rn v w = w.natAbs ∧ qn v w % 2 = 1))
      rw [hcm] at *
      unfold Ht at *
      first | (refine (decide_eq_true ?_).symm; (repeat' split at *) <;> omega) | (refine (decide_eq_false ?_).symm; (repeat' split at *) <;> omega) | (rw [decide_eq_decide]; (repeat' split at *) <;> omega)

theorem Add1_O (v : Int) (h0 : 0 ≤ v) (hv : Aq v ≤ 67108864) (ho : 67108864 < Aq (v + 1)) : Spec Tryz.prog 104 [.n false .u64 (lm v), .n false .u64 [1]] (fun o => o = .ret (.t [.n false .u64 [], .i .i64 3])) := by
  have hlv := Bv hv
  have ev : vl (lm v) = v := by rw [S2]; omega
  have u1 : Az [1] := Ts (by decide) (by decide)
  have hd : vl (N9 (lm v) [1]) = v + 1 := by rw [Tk, ev]; rfl
  have hc := Tb (a := (swL (trm (lm v)) (trm [1])).1) (b := (swL (trm (lm v)) (trm [1])).2) (by unfold swL; split; exact Bz u1; exact Bz (Dc v)) (by unfold swL; split; exact Bz (Dc v); exact Bz u1) (swL (trm (lm v)) (trm [1])).1.length
  have hu : Az (N9 (lm v) [1]) := Eg (Ta _) hc.1 (by omega)
  have e := Fv hu hd
  exact Af9 (lm v) [1] (by omega) (by decide) (Dc v) u1 (by rw [e, Le]; exact ho)
theorem Xo {k : Nat} {v w : Int} (hw : w ≠ 0) : Aq (qn v w) ≤ Aq (wq k v w) := by
  obtain ⟨hx, h0, h1, h2⟩ := E9 (v := v) hw
  by_cases hr : rn v w ≠ 0 ∧ gro k v w = true
  · have h := (Ji hw hr.1 hr.2).1
    rw [← h]
    exact Cc (by rw [Fx]; omega)
  · have h := (Lt (k := k) hw (v := v) (by
      by_cases h1 : rn v w = 0
      · exact .inl h1
      · right; cases h2 : gro k v w
        · rfl
        · exact absurd ⟨h1, h2⟩ hr)).1
    rw [← h]
    exact Cc (by rw [Fx]; exact Nat.le_refl _)

theorem Nm (k : Nat) (F : FuncId) (fnF : Func) (hk : k < 5) (hcell : [V.f 117 [], V.f 118 [], V.f 119 [], V.f 120 [], V.f 122 []][k]? = some (V.f F [])) (hfn : Tryz.prog.funcs[F]? = some fnF) (hfb : fnF.body.isSome = true) (hfx : (fnF.name == "runtime.NumGoroutine") = false) (s t : Bool) (a b : List Int) (v w : Int) (la : a.length < 1099511627776) (lb : b.length < 1099511627776) (ua : Az a) (ub : Az b) (ev : sv s a = v) (ew : sv t b = w) (hv : (lm v).length ≤ 8388608)  (hqw : Aq (wq k v w) ≤ 67108864) (hw : Aq w ≤ 67108864) (h0 : w ≠ 0) (hway : Spec Tryz.prog F [.n false .u64 (lm (qn v w)), .n false .u64 (lm (rn v w)), .n false .u64 (lm w), .b (ng v w), .b (decide (w < 0)), .b (decide (v < 0))] (fun o => o = .ret (.b (gro k v w))))  : SpecM Tryz.prog 69 [.a [.b s, .n false .u64 a], .a [.b t, .n false .u64 b], .i .i64 (k : Int)] [] (fun o G => o = .ret (.t [.a [.b (decide ((wq k v w) < 0)), .o 0 0 0 (lm (wq k v w)).length], .a [.b (decide ((v - wq k v w * w) < 0)), .o 1 0 0 (lm (v - wq k v w * w)).length], .i .i64 0]) ∧ G = [⟨71, 1, 0, true, ints .u64 (lm (wq k v w))⟩, ⟨71, 1, 0, true, ints .u64 (lm (v - wq k v w * w))⟩]) := by
  refine Eb [(0, .a [.b s, .n false .u64 a]), (1, .a [.b t, .n false .u64 b]), (2, .i .i64 (k : Int))] rfl Tryz.func69 rfl (zlb rfl) fun Γ hN hds hL hR => ?_
  have hd := Bt 103 hN
  have hlw := Bv hw
  obtain ⟨hx, hr0, hr1, hq0⟩ := E9 (v := v) h0
  have hqn : Aq (qn v w) ≤ 67108864 := Nat.le_trans (Xo (k := k) h0) hqw
  have hlq := Bv hqn
  have hlr := Cc (v := rn v w) (w := w) (Ms h0).1
  have hlR := Bv (v := rn v w) (by omega)
  have habs : lm (w.natAbs : Int) = lm w := by unfold lm; rw [Int.natAbs_natCast]
  have hlenw : Aq (w.natAbs : Int) = Aq w := by unfold Aq; rw [Int.natAbs_natCast]
  have hS := Sub_v (w.natAbs : Int) (rn v w) hr0 (by omega) (by omega)
  rw [habs] at hS
  have hwl := (Q8 (k := k) (v := v) h0).2
  refine zsr <| A4 (By (id := 0) (n := 2) rfl rfl rfl (by decide) rfl) (hd 3 rfl) <| A4 (By (id := 1) (n := 2) rfl rfl rfl (by decide) rfl) (hd 4 rfl) <| A4 (At (id := 2) A7 (by decide) rfl (by decide) rfl) (hd 6 rfl) <| A4 (At (id := 3) A7 (by decide) rfl (by decide) rfl) (hd 7 rfl) <| zas rfl (hd 8 rfl) <| Aa <| Ae <| Bu (n := 6) _ rfl Cg <| Av 0 [1, 3, 4, 5] (Al (Bm B0 rfl rfl rfl rfl) (hd 16 rfl)) rfl <| Av 2 [3, 4, 5] (Al (Bm B0 rfl rfl rfl rfl) (hd 18 rfl)) rfl ?_
  refine B5 1 ?_ rfl (by kernel_rfl)
  refine Bp Tryz.f101 (L6 s a v la ua ev) rfl Tryz.func101 rfl rfl (Ab rfl Ad) (.cons (.a1 .b (.a1 .n .a0)) .nil) (hd 17 rfl) ?_ (fun ch hp => by simp at hp)
  rintro y hy; injection hy with hy; subst hy
  refine B5 3 ?_ rfl (by kernel_rfl)
  refine Bp Tryz.f101 (L6 t b w lb ub ew) rfl Tryz.func101 rfl rfl (Ab rfl Ad) (.cons (.a1 .b (.a1 .n .a0)) .nil) (hd 19 rfl) ?_ (fun ch hp => by simp at hp)
  rintro y hy; injection hy with hy; subst hy
  refine B5 4 ?_ rfl (by kernel_rfl)
  refine D1 (Ak rfl rfl rfl B8 rfl rfl (zlb rfl)) rfl ?_
  refine B5 5 ?_ rfl (by kernel_rfl)
  refine D1 (Ak rfl rfl rfl B8 rfl rfl (zlb rfl)) rfl <| Bx (by kernel_rfl) <| zsr <| Ac (Bl Cw rfl rfl rfl) (hd 21 rfl) <| Ac (Be D8 rfl rfl rfl) (hd 22 rfl) <| Ac (Bl Cw rfl rfl rfl) (hd 23 rfl) <| Ac (Be D8 rfl rfl rfl) (hd 24 rfl) ?_
  refine Ah Tryz.f102 (Ach v w hv hqn hw h0) rfl Tryz.func102 rfl rfl (Ab rfl (Ab rfl Ad)) (.cons .n (.cons .n .nil)) (hd 25 rfl) ?_ (fun ch hp => by simp at hp)
  rintro _ ⟨⟩; refine zmv rfl (hd 20 rfl) <| Ac (Am rfl rfl) (hd 26 rfl) <| Ac (Am rfl rfl) (hd 27 rfl) <| Ac (Am rfl rfl) (hd 28 rfl) <| zas rfl (hd 9 rfl) <| zas rfl (hd 10 rfl) <| zas rfl (hd 11 rfl) <| Aa <| Ae <| zsr <| zmv rfl (hd 29 rfl) <| Ac (Bo (Ec rfl rfl) (by simp)) (hd 30 rfl) ?_; refine Aa <| A1 rfl <| Ai <| Ae <| Bu (n := 9) _ rfl Cg <| Av 0 [1, 4, 7, 8] (Al (Bl Dm rfl rfl rfl) (hd 34 rfl)) rfl <| zal 1 (Al (Be Ir rfl rfl rfl) (hd 35 rfl)) rfl <| Av 2 [3, 4, 7, 8] (Al (Bl Dm rfl rfl rfl) (hd 36 rfl)) rfl <| zal 3 (Al (Be Ir rfl rfl rfl) (hd 37 rfl)) rfl <| zal 4 (Al (Ba (Vi und4 rfl rfl) (show V.b _ = V.b (ng v w) from rfl)) (hd 38 rfl)) rfl <| zal 5 (Al (Bl Dm rfl rfl rfl) (hd 39 rfl)) rfl <| zal 6 (Al (Be Ir rfl rfl rfl) (hd 40 rfl)) rfl <| zal 7 (Al (Cm rfl) (hd 12 rfl)) rfl ?_; refine zal 8 (Al (Cm rfl) (hd 13 rfl)) rfl <| Bx (by kernel_rfl) ?_
  refine Ce (G := Int × Int × Bool) (fun g => sgd (ng v w) g.1 = (wq k v w) ∧ sgd g.2.2 g.2.1 = (v - wq k v w * w) ∧ 0 ≤ g.1 ∧ 0 ≤ g.2.1) (fun g => [(9, .n false .u64 (lm g.1)), (10, .n false .u64 (lm g.2.1)), (13, .b g.2.2), (8, .u), (11, .u), (41, .u), (42, .u), (43, .u), (44, .u), (45, .u), (46, .u), (47, .u), (48, .u), (49, .u), (50, .u), (51, .u), (52, .u), (53, .u), (54, .u), (55, .u), (56, .u), (57, .u), (58, .u), (59, .u), (60, .u), (61, .u), (62, .u), (63, .u), (64, .u), (65, .u), (66, .u), (67, .u), (68, .u), (69, .u), (70, .u), (71, .u), (72, .u), (73, .u), (74, .u), (75, .u), (76, .u), (77, .u), (78, .u)]) ?_ ?_
  · refine Ae <| Bu (n := 18) _ rfl Cg <| Av 0 [1, 2, 3, 4, 5, 6, 7, 8, 9, 10, 11, 12, 13, 14, 15, 16, 17] (Al (Ar rfl) (hd 41 rfl)) rfl ?_
    refine B5 1 ?_ rfl (by kernel_rfl)
    refine Bp Tryz.f30 (Di (rn v w) (by omega)) rfl Tryz.func30 rfl rfl (Ab rfl Ad) (.cons .n .nil) (hd 42 rfl) ?_ (fun ch hp => by simp at hp)
    rintro _ ⟨⟩; refine Av 2 [3, 4, 5, 6, 7, 8, 9, 10, 11, 12, 13, 14, 15, 16, 17] (Al (Ca rfl rfl) (hd 43 rfl)) rfl <| zal 3 (Al (Ar rfl) (hd 44 rfl)) rfl ?_
    refine Abw 44 rfl (fun h2 => ?_) (fun h2 => ?_)
    · have hrn : rn v w ≠ 0 := fun e => by have := Vv.2 e; omega
      refine Av 5 [6, 16, 17] (G7 44 rfl rfl (Ar rfl) (hd 46 rfl)) rfl <| Av 7 [16, 17] (G7 44 rfl rfl (Ar rfl) (hd 48 rfl)) rfl <| Av 8 [16, 17] (G7 44 rfl rfl (Ar rfl) (hd 49 rfl)) rfl <| Av 9 [10, 16, 17] (G7 44 rfl rfl (Bl Cw rfl rfl rfl) (hd 50 rfl)) rfl <| Av 10 [16, 17] (G7 44 rfl rfl (Be D8 rfl rfl rfl) (hd 51 rfl)) rfl <| Av 11 [16, 17] (G7 44 rfl rfl (Ar rfl) (hd 52 rfl)) rfl <| Av 12 [13, 16, 17] (G7 44 rfl rfl (Bl Dm rfl rfl rfl) (hd 53 rfl)) rfl <| Av 13 [16, 17] (G7 44 rfl rfl (Be Ir rfl rfl rfl) (hd 54 rfl)) rfl <| Av 14 [15, 16, 17] (G7 44 rfl rfl (Bl Dm rfl rfl rfl) (hd 55 rfl)) rfl <| Av 15 [16, 17] (G7 44 rfl rfl (Be Ir rfl rfl rfl) (hd 56 rfl)) rfl ?_
      refine B5 4 ?_ rfl (by kernel_rfl)
      refine Gc Tryz.f103 44 rfl rfl (Aag) rfl Tryz.func103 rfl rfl Ad .nil (hd 45 rfl) ?_ (fun ch hp => by simp at hp)
      rintro _ ⟨⟩; refine Av 6 [16, 17] (G7 44 rfl rfl (Abp (i := k) Tr Abk rfl rfl rfl hk hcell) (hd 47 rfl)) rfl ?_
      refine B5 16 ?_ rfl (by kernel_rfl)
      refine Gc fnF 44 rfl rfl hway rfl hfn hfb hfx (Ab rfl (Ab rfl (Ab rfl (Ab rfl (Ab rfl (Ab rfl Ad)))))) (.cons .n (.cons .n (.cons .n (.cons .b (.cons .b (.cons .b .nil)))))) (hd 57 rfl) ?_ (fun ch hp => by simp at hp)
      rintro _ ⟨⟩; refine zal 17 (Al (A9 rfl rfl) (hd 58 rfl)) rfl <| Bx (by kernel_rfl) ?_
      refine Fm rfl (fun h3 => ?_) (fun h3 => ?_)
      · have hg : gro k v w = true := h3
        refine Ae <| zsr <| zmv rfl (hd 60 rfl) ?_
        refine Ah Tryz.f35 (Xj) rfl Tryz.func35 rfl rfl (Ab rfl Ad) (.cons .i .nil) (hd 61 rfl) ?_ (fun ch hp => by simp at hp)
        rintro y hy; injection hy with hy; subst hy
        refine Ah Tryz.f104 (Add1_v (qn v w) hq0 (by have h9 := (Ji (k := k) h0 hrn hg).1; have h8 : Aq (qn v w + 1) ≤ Aq (wq k v w) := Cc (by rw [← h9, Fx]; exact Nat.le_refl _); omega)) rfl Tryz.func104 rfl rfl (Ab rfl (Ab rfl Ad)) (.cons .n (.cons .n .nil)) (hd 62 rfl) ?_ (fun ch hp => by simp at hp)
        rintro _ ⟨⟩; refine zmv rfl (hd 59 rfl) <| Ac (Am rfl rfl) (hd 63 rfl) <| Ac (Am rfl rfl) (hd 64 rfl) <| zas rfl (hd 9 rfl) <| zas rfl (hd 11 rfl) <| Aa <| zsr <| zmv rfl (hd 65 rfl) <| Ac (Bo (Ec rfl rfl) (by simp)) (hd 66 rfl) <| Aa <| A1 rfl <| Ai ?_; refine zsr <| Ac (Bl Cw rfl rfl rfl) (hd 71 rfl) <| Ac (Be D8 rfl rfl rfl) (hd 72 rfl) <| zmv rfl (hd 73 rfl) ?_
        refine Ah Tryz.f105 (hS) rfl Tryz.func105 rfl rfl (Ab rfl (Ab rfl Ad)) (.cons .n (.cons .n .nil)) (hd 74 rfl) ?_ (fun ch hp => by simp at hp)
        rintro _ ⟨⟩; refine zmv rfl (hd 70 rfl) <| Ac (Am rfl rfl) (hd 75 rfl) <| Ac (Am rfl rfl) (hd 76 rfl) <| zas rfl (hd 10 rfl) <| Aa <| Af <| zmv rfl (hd 77 rfl) <| Ac (E1 rfl) (hd 78 rfl) <| zas rfl (hd 13 rfl) <| Aa ?_
        refine ⟨(qn v w + 1, (w.natAbs : Int) - rn v w, !decide (v < 0)), ?_, rfl, A5 40 rfl rfl ?_⟩
        · have hy := Ji (k := k) h0 hrn hg
          exact ⟨hy.1, hy.2, by show 0 ≤ qn v w + 1; omega, by show 0 ≤ (w.natAbs : Int) - rn v w; omega⟩
        · exact (.cons rfl (.cons rfl (.cons rfl (.v9 (.v9 (.v9 (.v9 .nil)))))))
      · have hg : gro k v w = false := h3
        refine Ai ?_
        refine ⟨(qn v w, rn v w, decide (v < 0)), ?_, rfl, A5 19 rfl rfl ?_⟩
        · have hy := Lt (k := k) h0 (by first | exact .inl hrn | exact .inr hg)
          exact ⟨hy.1, hy.2, hq0, hr0⟩
        · exact (.cons rfl (.cons rfl (.cons rfl (.v9 (.v9 (.v9 (.v9 .nil)))))))
    · have hrn : rn v w = 0 := Vv.1 (by omega)
      refine Av 5 [6, 16, 17] (Lc 44 rfl rfl rfl (hd 46 rfl)) rfl <| Av 7 [16, 17] (Lc 44 rfl rfl rfl (hd 48 rfl)) rfl <| Av 8 [16, 17] (Lc 44 rfl rfl rfl (hd 49 rfl)) rfl <| Av 9 [10, 16, 17] (Lc 44 rfl rfl rfl (hd 50 rfl)) rfl <| Av 10 [16, 17] (Lc 44 rfl rfl rfl (hd 51 rfl)) rfl <| Av 11 [16, 17] (Lc 44 rfl rfl rfl (hd 52 rfl)) rfl <| Av 12 [13, 16, 17] (Lc 44 rfl rfl rfl (hd 53 rfl)) rfl <| Av 13 [16, 17] (Lc 44 rfl rfl rfl (hd 54 rfl)) rfl <| Av 14 [15, 16, 17] (Lc 44 rfl rfl rfl (hd 55 rfl)) rfl <| Av 15 [16, 17] (Lc 44 rfl rfl rfl (hd 56 rfl)) rfl <| Av 4 [6, 16, 17] (Lc 44 rfl rfl rfl (hd 45 rfl)) rfl <| Av 6 [16, 17] (Lc 44 rfl rfl rfl (hd 47 rfl)) rfl <| zal 16 (Lc 44 rfl rfl rfl (hd 57 rfl)) rfl ?_; refine zal 17 (Al (A3 rfl rfl) (hd 58 rfl)) rfl <| Bx (by kernel_rfl) <| A1 rfl <| Ai ?_
      refine ⟨(qn v w, rn v w, decide (v < 0)), ?_, rfl, A5 19 rfl rfl ?_⟩
      · have hy := Lt (k := k) h0 (by first | exact .inl hrn | exact .inr hg)
        exact ⟨hy.1, hy.2, hq0, hr0⟩
      · exact (.cons rfl (.cons rfl (.cons rfl (.v9 (.v9 (.v9 (.v9 .nil)))))))
  · rintro ⟨q, r, rs⟩ ⟨hc1, hc2, hc3, hc4⟩
    dsimp only at hc1 hc2 hc3 hc4
    have hq1 : Aq q ≤ 67108864 := by have := Cc (v := q) (w := (wq k v w)) (by rw [← hc1, Fx]; exact Nat.le_refl _); omega
    have hr2 : Aq r ≤ 67108864 := by have := Cc (v := r) (w := (v - wq k v w * w)) (by rw [← hc2, Fx]; exact Nat.le_refl _); omega
    have hql := Bv hq1
    have hrl := Bv hr2
    refine zsr <| zmv rfl (hd 80 rfl) <| zmv rfl (hd 81 rfl) ?_
    refine Fb Tryz.f106 (Og (ng v w) (lm q) (wq k v w) (by omega) (Dc q) (by rw [Aaw hc3]; exact hc1) (by omega)) (fun o G ⟨_, h⟩ => h ▸ An A8 Ax) rfl Tryz.func106 rfl rfl (Ab rfl (Ab rfl (Ab rfl Ad))) (.cons .b (.cons .n (.cons .i .nil))) (hd 82 rfl) ?_ (fun ch G hp => by simp at hp)
    rintro y G ⟨hy, rfl⟩; injection hy with hy; subst hy
    show JO _ _ _ _ ((82, .t [.a [.b (decide ((wq k v w) < 0)), .o 4 0 0 (lm (wq k v w)).length], .i .i64 0]) :: _) _ _
    refine zmv rfl (hd 79 rfl) <| Ac (Am rfl rfl) (hd 83 rfl) <| Ac (Am rfl rfl) (hd 84 rfl) <| A4 (At (id := 5) A7 (by decide) rfl (by decide) rfl) (hd 14 rfl) <| A6 (Ak rfl rfl rfl B8 rfl rfl (zlb rfl)) <| zas rfl (hd 11 rfl) <| Aa <| Ae <| zsr <| zmv rfl (hd 85 rfl) <| Ac (Bo (Ec rfl rfl) (by simp)) (hd 86 rfl) <| Aa ?_; refine A1 rfl <| Ai <| zsr <| zmv rfl (hd 91 rfl) <| zmv rfl (hd 92 rfl) ?_
    refine Fb Tryz.f106 (Og rs (lm r) (v - wq k v w * w) (by omega) (Dc r) (by rw [Aaw hc4]; exact hc2) (by omega)) (fun o G ⟨_, h⟩ => h ▸ An A8 Ax) rfl Tryz.func106 rfl rfl (Ab rfl (Ab rfl (Ab rfl Ad))) (.cons .b (.cons .n (.cons .i .nil))) (hd 93 rfl) ?_ (fun ch G hp => by simp at hp)
    rintro y G ⟨hy, rfl⟩; injection hy with hy; subst hy
    show JO _ _ _ _ ((93, .t [.a [.b (decide ((v - wq k v w * w) < 0)), .o 6 0 0 (lm (v - wq k v w * w)).length], .i .i64 0]) :: _) _ _
    refine zmv rfl (hd 90 rfl) <| Ac (Am rfl rfl) (hd 94 rfl) <| Ac (Am rfl rfl) (hd 95 rfl) <| A4 (At (id := 7) A7 (by decide) rfl (by decide) rfl) (hd 15 rfl) <| A6 (Ak rfl rfl rfl B8 rfl rfl (zlb rfl)) <| zas rfl (hd 11 rfl) <| Aa <| Ae <| zsr <| zmv rfl (hd 96 rfl) <| Ac (Bo (Ec rfl rfl) (by simp)) (hd 97 rfl) <| Aa ?_; refine A1 rfl <| Ai <| Ae <| Bu (n := 5) _ rfl Cg <| zal 0 (Al (Bm B0 rfl rfl rfl rfl) (hd 101 rfl)) rfl ?_
    refine O8 1 2 ?_ ?_ rfl rfl (by kernel_rfl)
    · refine Ae4 (Bm B0 rfl rfl rfl rfl) (hd 102 rfl) ?_
      refine B5 2 ?_ rfl (by kernel_rfl)
      refine D1 (Ak rfl rfl rfl B8 rfl rfl (zlb rfl)) rfl ?_
      refine B5 3 ?_ rfl (by kernel_rfl)
      refine D1 (Ak rfl rfl rfl B8 rfl rfl (zlb rfl)) rfl <| zal 4 (Al (Cm rfl) (hd 8 rfl)) rfl <| Bx (by kernel_rfl) <| Ao ?_
      refine ⟨[4, 6], _, (.t [.a [.b (decide ((wq k v w) < 0)), .o 0 0 0 (lm (wq k v w)).length], .a [.b (decide ((v - wq k v w * w) < 0)), .o 1 0 0 (lm (v - wq k v w * w)).length], .i .i64 0]), (.cons (ResV.cell B0 rfl rfl rfl rfl) (.cons (ResV.cell B0 rfl rfl rfl rfl) (.cons rfl .nil))), rfl, rfl, (by decide), (by first | exact An A8 (An A8 Ax) | exact An rfl (An rfl Ax)), ?_⟩
      exact ⟨rfl, rfl⟩
    · refine D1 (Ak rfl rfl rfl B8 rfl rfl (zlb rfl)) rfl <| zal 1 (Al (Bm B0 rfl rfl rfl rfl) (hd 102 rfl)) rfl ?_
      refine B5 3 ?_ rfl (by kernel_rfl)
      refine D1 (Ak rfl rfl rfl B8 rfl rfl (zlb rfl)) rfl <| zal 4 (Al (Cm rfl) (hd 8 rfl)) rfl <| Bx (by kernel_rfl) <| Ao ?_
      refine ⟨[4, 6], _, (.t [.a [.b (decide ((wq k v w) < 0)), .o 0 0 0 (lm (wq k v w)).length], .a [.b (decide ((v - wq k v w * w) < 0)), .o 1 0 0 (lm (v - wq k v w * w)).length], .i .i64 0]), (.cons (ResV.cell B0 rfl rfl rfl rfl) (.cons (ResV.cell B0 rfl rfl rfl rfl) (.cons rfl .nil))), rfl, rfl, (by decide), (by first | exact An A8 (An A8 Ax) | exact An rfl (An rfl Ax)), ?_⟩
      exact ⟨rfl, rfl⟩

theorem Af4 (s t : Bool) (a b : List Int) (v w : Int) (la : a.length < 1099511627776) (lb : b.length < 1099511627776) (ua : Az a) (ub : Az b) (ev : sv s a = v) (ew : sv t b = w) (hv : (lm v).length ≤ 8388608)  (hqw : Aq (wq 1 v w) ≤ 67108864) (hw : Aq w ≤ 67108864) (h0 : w ≠ 0) : SpecM Tryz.prog 26 [.a [.b s, .n false .u64 a], .a [.b t, .n false .u64 b]] [] (fun o G => o = .ret (.t [.a [.b (decide ((wq 1 v w) < 0)), .o 0 0 0 (lm (wq 1 v w)).length], .a [.b (decide ((v - wq 1 v w * w) < 0)), .o 1 0 0 (lm (v - wq 1 v w * w)).length], .i .i64 0]) ∧ G = [⟨71, 1, 0, true, ints .u64 (lm (wq 1 v w))⟩, ⟨71, 1, 0, true, ints .u64 (lm (v - wq 1 v w * w))⟩]) := by
  refine Eb [(0, .a [.b s, .n false .u64 a]), (1, .a [.b t, .n false .u64 b])] rfl Tryz.func26 rfl (zlb rfl) fun Γ hN hds hL hR => ?_
  have hd := Bt 13 hN
  have hqn : Aq (qn v w) ≤ 67108864 := Nat.le_trans (Xo (k := 1) h0) hqw
  refine zsr <| A4 (By (id := 0) (n := 2) rfl rfl rfl (by decide) rfl) (hd 2 rfl) <| A4 (By (id := 1) (n := 2) rfl rfl rfl (by decide) rfl) (hd 3 rfl) <| A4 (At (id := 2) A7 (by decide) rfl (by decide) rfl) (hd 4 rfl) <| A4 (At (id := 3) A7 (by decide) rfl (by decide) rfl) (hd 5 rfl) <| zas rfl (hd 6 rfl) <| Aa <| zsr <| Ac (Bm B0 rfl rfl rfl rfl) (hd 7 rfl) <| Ac (Bm B0 rfl rfl rfl rfl) (hd 8 rfl) ?_
  refine Fb Tryz.f69 (Nm 1 _ Tryz.f118 (by decide) rfl Tryz.func118 rfl rfl s t a b v w la lb ua ub ev ew hv hqw hw h0 (Aaj v w)) (fun o G ⟨_, h⟩ => h ▸ An A8 (An A8 Ax)) rfl Tryz.func69 rfl rfl (Ab rfl (Ab rfl (Ab rfl Ad))) (.cons (.a1 .b (.a1 .n .a0)) (.cons (.a1 .b (.a1 .n .a0)) (.cons .i .nil))) (hd 9 rfl) ?_ (fun ch G hp => by simp at hp)
  rintro y G ⟨hy, rfl⟩; injection hy with hy; subst hy
  show JO _ _ _ _ ((9, .t [.a [.b (decide ((wq 1 v w) < 0)), .o 4 0 0 (lm (wq 1 v w)).length], .a [.b (decide ((v - wq 1 v w * w) < 0)), .o 5 0 0 (lm (v - wq 1 v w * w)).length], .i .i64 0]) :: _) _ _
  refine Ac (Am rfl rfl) (hd 10 rfl) <| Ac (Am rfl rfl) (hd 11 rfl) <| Ac (Am rfl rfl) (hd 12 rfl) <| A6 (Ak rfl rfl rfl B8 rfl rfl (zlb rfl)) <| A6 (Ak rfl rfl rfl B8 rfl rfl (zlb rfl)) <| zas rfl (hd 6 rfl) <| Aa <| Ao ?_
  refine ⟨[4, 5], _, (.t [.a [.b (decide ((wq 1 v w) < 0)), .o 0 0 0 (lm (wq 1 v w)).length], .a [.b (decide ((v - wq 1 v w * w) < 0)), .o 1 0 0 (lm (v - wq 1 v w * w)).length], .i .i64 0]), (.cons (ResV.cell B0 rfl rfl rfl rfl) (.cons (ResV.cell B0 rfl rfl rfl rfl) (.cons rfl .nil))), rfl, rfl, (by decide), (by first | exact An A8 (An A8 Ax) | exact An rfl (An rfl Ax)), ?_⟩
  exact ⟨rfl, rfl⟩

theorem Ceil_F (s t : Bool) (a b : List Int) (v w : Int) (la : a.length < 1099511627776) (lb : b.length < 1099511627776) (ua : Az a) (ub : Az b) (ev : sv s a = v) (ew : sv t b = w) (hv : (lm v).length ≤ 8388608)  (hqw : Aq (wq 2 v w) ≤ 67108864) (hw : Aq w ≤ 67108864) (h0 : w ≠ 0) : SpecM Tryz.prog 27 [.a [.b s, .n false .u64 a], .a [.b t, .n false .u64 b]] [] (fun o G => o = .ret (.t [.a [.b (decide ((wq 2 v w) < 0)), .o 0 0 0 (lm (wq 2 v w)).length], .a [.b (decide ((v - wq 2 v w * w) < 0)), .o 1 0 0 (lm (v - wq 2 v w * w)).length], .i .i64 0]) ∧ G = [⟨71, 1, 0, true, ints .u64 (lm (wq 2 v w))⟩, ⟨71, 1, 0, true, ints .u64 (lm (v - wq 2 v w * w))⟩]) := by
  refine Eb [(0, .a [.b s, .n false .u64 a]), (1, .a [.b t, .n false .u64 b])] rfl Tryz.func27 rfl (zlb rfl) fun Γ hN hds hL hR => ?_
  have hd := Bt 13 hN
  have hqn : Aq (qn v w) ≤ 67108864 := Nat.le_trans (Xo (k := 2) h0) hqw
  refine zsr <| A4 (By (id := 0) (n := 2) rfl rfl rfl (by decide) rfl) (hd 2 rfl) <| A4 (By (id := 1) (n := 2) rfl rfl rfl (by decide) rfl) (hd 3 rfl) <| A4 (At (id := 2) A7 (by decide) rfl (by decide) rfl) (hd 4 rfl) <| A4 (At (id := 3) A7 (by decide) rfl (by decide) rfl) (hd 5 rfl) <| zas rfl (hd 6 rfl) <| Aa <| zsr <| Ac (Bm B0 rfl rfl rfl rfl) (hd 7 rfl) <| Ac (Bm B0 rfl rfl rfl rfl) (hd 8 rfl) ?_
  refine Fb Tryz.f69 (Nm 2 _ Tryz.f119 (by decide) rfl Tryz.func119 rfl rfl s t a b v w la lb ua ub ev ew hv hqw hw h0 (Aai v w)) (fun o G ⟨_, h⟩ => h ▸ An A8 (An A8 Ax)) rfl Tryz.func69 rfl rfl (Ab rfl (Ab rfl (Ab rfl Ad))) (.cons (.a1 .b (.a1 .n .a0)) (.cons (.a1 .b (.a1 .n .a0)) (.cons .i .nil))) (hd 9 rfl) ?_ (fun ch G hp => by simp at hp)
  rintro y G ⟨hy, rfl⟩; injection hy with hy; subst hy
  show JO _ _ _ _ ((9, .t [.a [.b (decide ((wq 2 v w) < 0)), .o 4 0 0 (lm (wq 2 v w)).length], .a [.b (decide ((v - wq 2 v w * w) < 0)), .o 5 0 0 (lm (v - wq 2 v w * w)).length], .i .i64 0]) :: _) _ _
  refine Ac (Am rfl rfl) (hd 10 rfl) <| Ac (Am rfl rfl) (hd 11 rfl) <| Ac (Am rfl rfl) (hd 12 rfl) <| A6 (Ak rfl rfl rfl B8 rfl rfl (zlb rfl)) <| A6 (Ak rfl rfl rfl B8 rfl rfl (zlb rfl)) <| zas rfl (hd 6 rfl) <| Aa <| Ao ?_
  refine ⟨[4, 5], _, (.t [.a [.b (decide ((wq 2 v w) < 0)), .o 0 0 0 (lm (wq 2 v w)).length], .a [.b (decide ((v - wq 2 v w * w) < 0)), .o 1 0 0 (lm (v - wq 2 v w * w)).length], .i .i64 0]), (.cons (ResV.cell B0 rfl rfl rfl rfl) (.cons (ResV.cell B0 rfl rfl rfl rfl) (.cons rfl .nil))), rfl, rfl, (by decide), (by first | exact An A8 (An A8 Ax) | exact An rfl (An rfl Ax)), ?_⟩
  exact ⟨rfl, rfl⟩

theorem Near_F (s t : Bool) (a b : List Int) (v w : Int) (la : a.length < 1099511627776) (lb : b.length < 1099511627776) (ua : Az a) (ub : Az b) (ev : sv s a = v) (ew : sv t b = w) (hv : (lm v).length ≤ 8388608)  (hqw : Aq (wq 3 v w) ≤ 67108864) (hw : Aq w ≤ 67108864) (h0 : w ≠ 0) : SpecM Tryz.prog 28 [.a [.b s, .n false .u64 a], .a [.b t, .n false .u64 b]] [] (fun o G => o = .ret (.t [.a [.b (decide ((wq 3 v w) < 0)), .o 0 0 0 (lm (wq 3 v w)).length], .a [.b (decide ((v - wq 3 v w * w) < 0)), .o 1 0 0 (lm (v - wq 3 v w * w)).length], .i .i64 0]) ∧ G = [⟨71, 1, 0, true, ints .u64 (lm (wq 3 v w))⟩, ⟨71, 1, 0, true, ints .u64 (lm (v - wq 3 v w * w))⟩]) := by
  refine Eb [(0, .a [.b s, .n false .u64 a]), (1, .a [.b t, .n false .u64 b])] rfl Tryz.func28 rfl (zlb rfl) fun Γ hN hds hL hR => ?_
  have hd := Bt 13 hN
  have hqn : Aq (qn v w) ≤ 67108864 := Nat.le_trans (Xo (k := 3) h0) hqw
  refine zsr <| A4 (By (id := 0) (n := 2) rfl rfl rfl (by decide) rfl) (hd 2 rfl) <| A4 (By (id := 1) (n := 2) rfl rfl rfl (by decide) rfl) (hd 3 rfl) <| A4 (At (id := 2) A7 (by decide) rfl (by decide) rfl) (hd 4 rfl) <| A4 (At (id := 3) A7 (by decide) rfl (by decide) rfl) (hd 5 rfl) <| zas rfl (hd 6 rfl) <| Aa <| zsr <| Ac (Bm B0 rfl rfl rfl rfl) (hd 7 rfl) <| Ac (Bm B0 rfl rfl rfl rfl) (hd 8 rfl) ?_
  refine Fb Tryz.f69 (Nm 3 _ Tryz.f120 (by decide) rfl Tryz.func120 rfl rfl s t a b v w la lb ua ub ev ew hv hqw hw h0 (Aah v w hqn hw h0)) (fun o G ⟨_, h⟩ => h ▸ An A8 (An A8 Ax)) rfl Tryz.func69 rfl rfl (Ab rfl (Ab rfl (Ab rfl Ad))) (.cons (.a1 .b (.a1 .n .a0)) (.cons (.a1 .b (.a1 .n .a0)) (.cons .i .nil))) (hd 9 rfl) ?_ (fun ch G hp => by simp at hp)
  rintro y G ⟨hy, rfl⟩; injection hy with hy; subst hy
  show JO _ _ _ _ ((9, .t [.a [.b (decide ((wq 3 v w) < 0)), .o 4 0 0 (lm (wq 3 v w)).length], .a [.b (decide ((v - wq 3 v w * w) < 0)), .o 5 0 0 (lm (v - wq 3 v w * w)).length], .i .i64 0]) :: _) _ _
  refine Ac (Am rfl rfl) (hd 10 rfl) <| Ac (Am rfl rfl) (hd 11 rfl) <| Ac (Am rfl rfl) (hd 12 rfl) <| A6 (Ak rfl rfl rfl B8 rfl rfl (zlb rfl)) <| A6 (Ak rfl rfl rfl B8 rfl rfl (zlb rfl)) <| zas rfl (hd 6 rfl) <| Aa <| Ao ?_
  refine ⟨[4, 5], _, (.t [.a [.b (decide ((wq 3 v w) < 0)), .o 0 0 0 (lm (wq 3 v w)).length], .a [.b (decide ((v - wq 3 v w * w) < 0)), .o 1 0 0 (lm (v - wq 3 v w * w)).length], .i .i64 0]), (.cons (ResV.cell B0 rfl rfl rfl rfl) (.cons (ResV.cell B0 rfl rfl rfl rfl) (.cons rfl .nil))), rfl, rfl, (by decide), (by first | exact An A8 (An A8 Ax) | exact An rfl (An rfl Ax)), ?_⟩
  exact ⟨rfl, rfl⟩

theorem Rt (x : Nat) (h0 : x ≠ 0) (hx : (Aj B32 x).length < 1073741824) : Spec Tryz.prog 81 [.n false .u64 (Aj B32 x)] (fun o => o = .ret (.i .i64 ((tz x : Nat) : Int))) :=
  (Tail_s x h0 hx).mono fun o ⟨t, ho, ht⟩ => by
    have h1 := (Acw (n := t) (x := x) (by omega)).2 ht.1
    have h2 : ¬ t + 1 ≤ tz x := fun hc => by
      obtain ⟨m, hm⟩ := (Acw (by omega)).1 hc
      have h3 : x / 2 ^ t = 2 * m := by rw [hm, Nat.pow_succ, Nat.mul_assoc, Nat.mul_div_cancel_left _ (Nat.pow_pos (by decide))]
      have := ht.2
      omega
    rw [ho, show t = tz x by omega]

theorem Yh (s : Bool) (y : Nat) (n : Int) : Spec Tryz.prog 41 [(.a [.b s, .n false .u64 (Aj B32 0), .n false .u64 (Aj B32 y)]), .i .i64 n] (fun o => o = .ret (.a [.b s, .n false .u64 (Aj B32 0), .n false .u64 (Aj B32 y)])) := by
  refine Au [(0, (.a [.b s, .n false .u64 (Aj B32 0), .n false .u64 (Aj B32 y)])), (1, .i .i64 n)] rfl Tryz.func41 rfl (zlb rfl) fun Γ hN hds hL hR => ?_
  have hd := Bt 56 hN
  have hZe : Spec Tryz.prog 36 [.n false .u64 (Aj B32 0)] (fun o => o = .ret (.b true)) := by have h := Fp (Aj B32 0); rwa [decide_eq_true (by rw [Ct]; rfl)] at h
  refine zsr <| A4 (By (id := 0) (n := 3) rfl rfl rfl (by decide) rfl) (hd 2 rfl) <| A4 (At (id := 1) Dh (by decide) rfl (by decide) rfl) (hd 4 rfl) <| Aa <| Ae <| zsr <| Ac (Bl Da rfl rfl rfl) (hd 7 rfl) <| Ac (Be Eo rfl rfl rfl) (hd 8 rfl) ?_
  refine Ah Tryz.f36 (hZe) rfl Tryz.func36 rfl rfl (Ab rfl Ad) (.cons .n .nil) (hd 9 rfl) ?_ (fun ch hp => by simp at hp)
  rintro _ ⟨⟩; refine Aa <| B4 rfl <| zsr <| Ac (Bm Dp rfl rfl rfl rfl) (hd 10 rfl) <| A6 (Ak rfl rfl rfl Fw rfl rfl (zlb rfl)) <| Aa <| Ao ?_
  refine ⟨_, _, (.cons (ResV.cell Dp rfl rfl rfl rfl) .nil), (.a1 .b (.a1 .n (.a1 .n .a0))), ?_⟩
  exact rfl

theorem Yi (s : Bool) (x y : Nat) (n : Int) (hx : x ≠ 0) (hy : y ≠ 0) (hdx : (Aj B32 x).length ≤ 8388608) (hdy : (Aj B32 y).length ≤ 8388608) (hn0 : 0 ≤ n) (hn : n ≤ 268435456) : Spec Tryz.prog 41 [(.a [.b s, .n false .u64 (Aj B32 x), .n false .u64 (Aj B32 y)]), .i .i64 n] (fun o => o = .ret (.a [.b s, .n false .u64 (Aj B32 (SN x y n)), .n false .u64 (Aj B32 (SD x y n))])) := by
  refine Au [(0, (.a [.b s, .n false .u64 (Aj B32 x), .n false .u64 (Aj B32 y)])), (1, .i .i64 n)] rfl Tryz.func41 rfl (zlb rfl) fun Γ hN hds hL hR => ?_
  have hd := Bt 56 hN
  have hZe : Spec Tryz.prog 36 [.n false .u64 (Aj B32 x)] (fun o => o = .ret (.b false)) := by have h := Fp (Aj B32 x); rwa [decide_eq_false (by have := @dl0 x; omega)] at h
  have hTl := Rt y hy (by omega)
  have hSh : Spec Tryz.prog 78 [.n false .u64 (Aj B32 x), .i .i64 ((n.toNat - min n.toNat (tz y) : Nat) : Int)] (fun o => o = .ret (.n false .u64 (Aj B32 (SN x y n)))) := by have h := Q2 x (n.toNat - min n.toNat (tz y)) (by omega) (by omega); unfold SN; rwa [if_pos hn0]
  have hSr : Spec Tryz.prog 82 [.n false .u64 (Aj B32 y), .i .i64 ((min n.toNat (tz y) : Nat) : Int)] (fun o => o = .ret (.n false .u64 (Aj B32 (SD x y n)))) := by have h := Shr_s y (min n.toNat (tz y)) (by omega) (by omega); unfold SD; rwa [if_pos hn0]
  refine zsr <| A4 (By (id := 0) (n := 3) rfl rfl rfl (by decide) rfl) (hd 2 rfl) <| A4 (At (id := 1) Dh (by decide) rfl (by decide) rfl) (hd 4 rfl) <| Aa <| Ae <| zsr <| Ac (Bl Da rfl rfl rfl) (hd 7 rfl) <| Ac (Be Eo rfl rfl rfl) (hd 8 rfl) ?_
  refine Ah Tryz.f36 (hZe) rfl Tryz.func36 rfl rfl (Ab rfl Ad) (.cons .n .nil) (hd 9 rfl) ?_ (fun ch hp => by simp at hp)
  rintro _ ⟨⟩; refine Aa <| A1 rfl <| Ai <| Ae <| zsr <| zmv rfl (hd 11 rfl) <| Ac (Cq (Eh rfl rfl) (by omega)) (hd 12 rfl) <| Aa <| B4 rfl <| zsr <| Ac (Bl Dz rfl rfl rfl) (hd 13 rfl) ?_; refine Ac (Be Eo rfl rfl rfl) (hd 14 rfl) ?_
  refine Ah Tryz.f81 (hTl) rfl Tryz.func81 rfl rfl (Ab rfl Ad) (.cons .n .nil) (hd 15 rfl) ?_ (fun ch hp => by simp at hp)
  rintro _ ⟨⟩; refine zas rfl (hd 5 rfl) <| Aa ?_
  refine Ce (G := Unit) (fun _ => True) (fun _ => [(5, .i .i64 ((min n.toNat (tz y) : Nat) : Int)), (16, .u), (17, .u), (18, .u), (19, .u)]) ?_ ?_
  · refine zsr <| zmv rfl (hd 16 rfl) <| zmv rfl (hd 17 rfl) <| Ac (Ca rfl rfl) (hd 18 rfl) <| Aa ?_
    refine Bg rfl (fun h3 => ?_) (fun h3 => ?_)
    · refine Af <| zmv rfl (hd 19 rfl) <| zas rfl (hd 5 rfl) <| Aa ?_
      refine ⟨(), ?_, rfl, A5 5 rfl rfl ?_⟩
      · trivial
      · exact (.cons (by show some (V.i _ _) = some (V.i _ _); congr 2; omega) (.u (.u (.u (.u .nil)))))
    · refine Ai ?_
      refine ⟨(), ?_, rfl, A5 3 rfl rfl ?_⟩
      · trivial
      · exact (.cons (by show some (V.i _ _) = some (V.i _ _); congr 2; omega) (.u (.u (.u (.u .nil)))))
  · rintro _ _; refine Ae <| Bu (n := 14) _ rfl Cg <| Av 0 [1, 12, 13] (Al (Bl Ew rfl rfl rfl) (hd 20 rfl)) rfl <| zal 1 (Al (Be Ir rfl rfl rfl) (hd 21 rfl)) rfl <| Av 2 [3, 7, 11, 12, 13] (Al (Bl Da rfl rfl rfl) (hd 22 rfl)) rfl <| Av 3 [7, 11, 12, 13] (Al (Be Eo rfl rfl rfl) (hd 23 rfl)) rfl <| Av 4 [6, 7, 11, 12, 13] (Al (Ar rfl) (hd 24 rfl)) rfl <| Av 5 [6, 7, 11, 12, 13] (Al (Ar rfl) (hd 25 rfl)) rfl <| Av 6 [7, 11, 12, 13] (Al (Bd rfl rfl (r := ((n.toNat - min n.toNat (tz y) : Nat) : Int)) (by rw [Ag (by omega) (by omega)]; omega)) (hd 26 rfl)) rfl <| Av 8 [9, 11, 12, 13] (Al (Bl Dz rfl rfl rfl) (hd 28 rfl)) rfl <| Av 9 [11, 12, 13] (Al (Be Eo rfl rfl rfl) (hd 29 rfl)) rfl <| Av 10 [11, 12, 13] (Al (Ar rfl) (hd 30 rfl)) rfl ?_
    refine B5 7 ?_ rfl (by kernel_rfl)
    refine Bp Tryz.f78 (hSh) rfl Tryz.func78 rfl rfl (Ab rfl (Ab rfl Ad)) (.cons .n (.cons .i .nil)) (hd 27 rfl) ?_ (fun ch hp => by simp at hp)
    rintro y hy; injection hy with hy; subst hy
    refine B5 11 ?_ rfl (by kernel_rfl)
    refine Bp Tryz.f82 (hSr) rfl Tryz.func82 rfl rfl (Ab rfl (Ab rfl Ad)) (.cons .n (.cons .i .nil)) (hd 31 rfl) ?_ (fun ch hp => by simp at hp)
    rintro _ ⟨⟩; refine zal 12 (Al (Bn (is := [0, 1, 2]) (xs := [.tmp 21, .tmp 27, .tmp 31]) Dh Gw rfl (Ab rfl (Ab rfl (Ab rfl Ad))) rfl (by first | (simp [B9, cellsV]; done) | (simp [B9, cellsV, old]; done)) (B7 rfl) rfl) (hd 32 rfl)) rfl ?_
    refine B5 13 ?_ rfl (by kernel_rfl)
    refine D1 (Ak rfl rfl rfl Fw rfl rfl (zlb rfl)) rfl <| Bx (by kernel_rfl) <| Ao ?_
    refine ⟨_, _, (.cons (ResV.cell Dp rfl rfl rfl rfl) .nil), (.a1 .b (.a1 .n (.a1 .n .a0))), ?_⟩
    exact rfl

theorem Yj (s : Bool) (x y : Nat) (n : Int) (hx : x ≠ 0) (hy : y ≠ 0) (hdx : (Aj B32 x).length ≤ 8388608) (hdy : (Aj B32 y).length ≤ 8388608) (hn0 : n < 0) (hn : -268435456 ≤ n) : Spec Tryz.prog 41 [(.a [.b s, .n false .u64 (Aj B32 x), .n false .u64 (Aj B32 y)]), .i .i64 n] (fun o => o = .ret (.a [.b s, .n false .u64 (Aj B32 (SN x y n)), .n false .u64 (Aj B32 (SD x y n))])) := by
  refine Au [(0, (.a [.b s, .n false .u64 (Aj B32 x), .n false .u64 (Aj B32 y)])), (1, .i .i64 n)] rfl Tryz.func41 rfl (zlb rfl) fun Γ hN hds hL hR => ?_
  have hd := Bt 56 hN
  have hZe : Spec Tryz.prog 36 [.n false .u64 (Aj B32 x)] (fun o => o = .ret (.b false)) := by have h := Fp (Aj B32 x); rwa [decide_eq_false (by have := @dl0 x; omega)] at h
  have hTl := Rt x hx (by omega)
  have hSh : Spec Tryz.prog 78 [.n false .u64 (Aj B32 y), .i .i64 (((-n).toNat - min (-n).toNat (tz x) : Nat) : Int)] (fun o => o = .ret (.n false .u64 (Aj B32 (SD x y n)))) := by have h := Q2 y ((-n).toNat - min (-n).toNat (tz x)) (by omega) (by omega); unfold SD; rwa [if_neg (by omega)]
  have hSr : Spec Tryz.prog 82 [.n false .u64 (Aj B32 x), .i .i64 ((min (-n).toNat (tz x) : Nat) : Int)] (fun o => o = .ret (.n false .u64 (Aj B32 (SN x y n)))) := by have h := Shr_s x (min (-n).toNat (tz x)) (by omega) (by omega); unfold SN; rwa [if_neg (by omega)]
  refine zsr <| A4 (By (id := 0) (n := 3) rfl rfl rfl (by decide) rfl) (hd 2 rfl) <| A4 (At (id := 1) Dh (by decide) rfl (by decide) rfl) (hd 4 rfl) <| Aa <| Ae <| zsr <| Ac (Bl Da rfl rfl rfl) (hd 7 rfl) <| Ac (Be Eo rfl rfl rfl) (hd 8 rfl) ?_
  refine Ah Tryz.f36 (hZe) rfl Tryz.func36 rfl rfl (Ab rfl Ad) (.cons .n .nil) (hd 9 rfl) ?_ (fun ch hp => by simp at hp)
  rintro _ ⟨⟩; refine Aa <| A1 rfl <| Ai <| Ae <| zsr <| zmv rfl (hd 11 rfl) <| Ac (Bo (Eh rfl rfl) (by omega)) (hd 12 rfl) <| Aa <| A1 rfl <| Ai <| Ae <| Af ?_; refine Ac (Bl Da rfl rfl rfl) (hd 33 rfl) <| Ac (Be Eo rfl rfl rfl) (hd 34 rfl) ?_
  refine Ah Tryz.f81 (hTl) rfl Tryz.func81 rfl rfl (Ab rfl Ad) (.cons .n .nil) (hd 35 rfl) ?_ (fun ch hp => by simp at hp)
  rintro _ ⟨⟩; refine zas rfl (hd 6 rfl) <| Aa ?_
  refine Ce (G := Unit) (fun _ => True) (fun _ => [(6, .i .i64 ((min (-n).toNat (tz x) : Nat) : Int)), (36, .u), (37, .u), (38, .u), (39, .u), (40, .u), (41, .u)]) ?_ ?_
  · refine zsr <| zmv rfl (hd 36 rfl) <| zmv rfl (hd 37 rfl) <| Ac (I4 rfl (r := -n) (by rw [Ag (by omega) (by omega)]; omega)) (hd 38 rfl) <| Ac (Ca rfl rfl) (hd 39 rfl) <| Aa ?_
    refine Bg rfl (fun h3 => ?_) (fun h3 => ?_)
    · refine Af <| zmv rfl (hd 40 rfl) <| Ac (I4 rfl (r := -n) (by rw [Ag (by omega) (by omega)]; omega)) (hd 41 rfl) <| zas rfl (hd 6 rfl) <| Aa ?_
      refine ⟨(), ?_, rfl, A5 7 rfl rfl ?_⟩
      · trivial
      · exact (.cons (by show some (V.i _ _) = some (V.i _ _); congr 2; omega) (.v5 (.u .nil)))
    · refine Ai ?_
      refine ⟨(), ?_, rfl, A5 4 rfl rfl ?_⟩
      · trivial
      · exact (.cons (by show some (V.i _ _) = some (V.i _ _); congr 2; omega) (.v5 (.u .nil)))
  · rintro _ _; refine Ae <| Bu (n := 15) _ rfl Cg <| Av 0 [1, 13, 14] (Al (Bl Ew rfl rfl rfl) (hd 42 rfl)) rfl <| zal 1 (Al (Be Ir rfl rfl rfl) (hd 43 rfl)) rfl <| Av 2 [3, 5, 12, 13, 14] (Al (Bl Da rfl rfl rfl) (hd 44 rfl)) rfl <| Av 3 [5, 12, 13, 14] (Al (Be Eo rfl rfl rfl) (hd 45 rfl)) rfl <| Av 4 [5, 12, 13, 14] (Al (Ar rfl) (hd 46 rfl)) rfl <| Av 6 [7, 12, 13, 14] (Al (Bl Dz rfl rfl rfl) (hd 48 rfl)) rfl <| Av 7 [12, 13, 14] (Al (Be Eo rfl rfl rfl) (hd 49 rfl)) rfl <| Av 8 [9, 11, 12, 13, 14] (Al (Ar rfl) (hd 50 rfl)) rfl <| Av 9 [11, 12, 13, 14] (Al (I4 rfl (r := -n) (by rw [Ag (by omega) (by omega)]; omega)) (hd 51 rfl)) rfl <| Av 10 [11, 12, 13, 14] (Al (Ar rfl) (hd 52 rfl)) rfl <| Av 11 [12, 13, 14] (Al (Bd rfl rfl (r := (((-n).toNat - min (-n).toNat (tz x) : Nat) : Int)) (by rw [Ag (by omega) (by omega)]; omega)) (hd 53 rfl)) rfl ?_
    refine B5 5 ?_ rfl (by kernel_rfl)
    refine Bp Tryz.f82 (hSr) rfl Tryz.func82 rfl rfl (Ab rfl (Ab rfl Ad)) (.cons .n (.cons .i .nil)) (hd 47 rfl) ?_ (fun ch hp => by simp at hp)
    rintro y hy; injection hy with hy; subst hy
    refine B5 12 ?_ rfl (by kernel_rfl)
    refine Bp Tryz.f78 (hSh) rfl Tryz.func78 rfl rfl (Ab rfl (Ab rfl Ad)) (.cons .n (.cons .i .nil)) (hd 54 rfl) ?_ (fun ch hp => by simp at hp)
    rintro _ ⟨⟩; refine zal 13 (Al (Bn (is := [0, 1, 2]) (xs := [.tmp 43, .tmp 47, .tmp 54]) Dh Gw rfl (Ab rfl (Ab rfl (Ab rfl Ad))) rfl (by first | (simp [B9, cellsV]; done) | (simp [B9, cellsV, old]; done)) (B7 rfl) rfl) (hd 55 rfl)) rfl ?_
    refine B5 14 ?_ rfl (by kernel_rfl)
    refine D1 (Ak rfl rfl rfl Fw rfl rfl (zlb rfl)) rfl <| Bx (by kernel_rfl) <| Ao ?_
    refine ⟨_, _, (.cons (ResV.cell Dp rfl rfl rfl rfl) .nil), (.a1 .b (.a1 .n (.a1 .n .a0))), ?_⟩
    exact rfl

theorem cmp3 (a b : Nat) : (Ht (a : Int) (b : Int) = 1 ∧ b < a) ∨ (Ht (a : Int) (b : Int) = 0 ∧ a = b) ∨ (Ht (a : Int) (b : Int) = -1 ∧ a < b) := by
  unfold Ht
  repeat' split
  all_goals omega
theorem N7 {k : Nat} {s : Bool} {N D : Nat} (h : N % D = 0) : upB k s N D = false := by unfold upB; rw [h]; rfl
theorem Aas {s : Bool} {N D : Nat} (h : N % D ≠ 0) : upB 1 s N D = s := by unfold upB; rw [decide_eq_true h, Bool.true_and]; rfl
theorem Aar {s : Bool} {N D : Nat} (h : N % D ≠ 0) : upB 2 s N D = !s := by unfold upB; rw [decide_eq_true h, Bool.true_and]; rfl
theorem Rb {s : Bool} {N D : Nat} (h : N % D ≠ 0) : upB 3 s N D = decide (D < 2 * (N % D) ∨ (2 * (N % D) = D ∧ N / D % 2 = 1)) := by unfold upB; rw [decide_eq_true h, Bool.true_and]; rfl
theorem dl_two {x : Nat} : (Aj B32 (2 * x)).length ≤ (Aj B32 x).length + 1 := by
  have h1 : (Aj B32 (2 * x)).length ≤ (Aj B32 x).length + 1 := E0 (by decide) _ _ (by
    have h2 : x < B32 ^ (Aj B32 x).length := Gh (by decide) x
    rw [Nat.pow_succ]
    have h3 : 2 ≤ B32 := by decide
    calc 2 * x < 2 * B32 ^ (Aj B32 x).length := by omega
      _ = B32 ^ (Aj B32 x).length * 2 := Nat.mul_comm _ _
      _ ≤ B32 ^ (Aj B32 x).length * B32 := Nat.mul_le_mul_left _ h3)
  exact h1
theorem Ls {s : Bool} {n : Nat} (h : s = true) : decide (zs s n < 0) = !decide (((Aj B32 n).length : Int) = 0) := by
  subst h
  have h1 := @Jd n
  unfold zs
  by_cases h0 : n = 0
  · rw [decide_eq_true (h1.2 h0), h0]; rfl
  · rw [decide_eq_false (fun h => h0 (h1.1 h))]
    simp only [if_true, Bool.not_false]
    exact decide_eq_true (by omega)
theorem Sr {s : Bool} {n : Nat} (h : s = false) : decide (zs s n < 0) = false := by
  subst h
  exact decide_eq_false (by unfold zs; simp)

theorem Yn (s : Bool) (N D : Nat) (hN : N ≠ 0) (hD : D ≠ 0) (hdn : (Aj B32 N).length ≤ 16777216) (hdd : (Aj B32 D).length ≤ 16777216) : Spec Tryz.prog 40 [(.a [.b s, .n false .u64 (Aj B32 N), .n false .u64 (Aj B32 D)]), .i .i64 0] (fun o => o = .ret (.a [.b (decide (zs s (if (upB 1 s N D) = true then N / D + 1 else N / D) < 0)), .n false .u64 (Aj B32 (if (upB 1 s N D) = true then N / D + 1 else N / D))])) := by
  refine Au [(0, (.a [.b s, .n false .u64 (Aj B32 N), .n false .u64 (Aj B32 D)])), (1, .i .i64 0)] rfl Tryz.func40 rfl (zlb rfl) fun Γ hN hds hL hR => ?_
  have hd := Bt 60 hN
  have hDv := K6 N D (by omega) (by omega) (by omega)
  have hlr : (Aj B32 (N % D)).length ≤ (Aj B32 D).length := Hq (Nat.le_of_lt (Nat.mod_lt _ (by omega)))
  have hlq : (Aj B32 (N / D)).length ≤ (Aj B32 N).length := Hq (Nat.div_le_self _ _)
  have h01 := @Jd (N % D)
  have hI1 : Spec Tryz.prog 59 [.i .i64 1] (fun o => o = .ret (.n false .u64 (Aj B32 1))) := by have h := Rv ((1 : Nat) : Int) (by decide) (by decide); rw [Ru (v := 1) (by decide)] at h; exact h
  have hAd := Rx (N / D) 1 (by omega) (by decide +kernel)
  refine zsr <| A4 (By (id := 0) (n := 3) rfl rfl rfl (by decide) rfl) (hd 2 rfl) <| A4 (At (id := 1) C0 (by decide) rfl (by decide) rfl) (hd 4 rfl) <| Aa <| zsr <| Ac (Bl Da rfl rfl rfl) (hd 10 rfl) <| Ac (Be Eo rfl rfl rfl) (hd 11 rfl) <| Ac (Bl Dz rfl rfl rfl) (hd 12 rfl) <| Ac (Be Eo rfl rfl rfl) (hd 13 rfl) ?_
  refine Ah Tryz.f77 (hDv) rfl Tryz.func77 rfl rfl (Ab rfl (Ab rfl Ad)) (.cons .n (.cons .n .nil)) (hd 14 rfl) ?_ (fun ch hp => by simp at hp)
  rintro _ ⟨⟩; refine zmv rfl (hd 9 rfl) <| Ac (Am rfl rfl) (hd 15 rfl) <| Ac (Am rfl rfl) (hd 16 rfl) <| zas rfl (hd 5 rfl) <| zas rfl (hd 6 rfl) <| Aa <| zsr <| zas rfl (hd 7 rfl) <| Aa ?_
  refine Ce (G := Unit) (fun _ => True) (fun _ => [(7, .b (upB 1 s N D)), (8, .u), (17, .u), (18, .u), (19, .u), (20, .u), (21, .u), (22, .u), (23, .u), (24, .u), (25, .u), (26, .u), (27, .u), (28, .u), (29, .u), (30, .u), (31, .u), (32, .u), (33, .u), (34, .u), (35, .u), (36, .u), (37, .u), (38, .u), (39, .u), (40, .u), (41, .u), (42, .u), (43, .u), (44, .u), (45, .u), (46, .u)]) ?_ ?_
  · refine Ap <| zsr <| zmv rfl (hd 34 rfl) ?_
    refine Ah Tryz.f36 (Fp (Aj B32 (N % D))) rfl Tryz.func36 rfl rfl (Ab rfl Ad) (.cons .n .nil) (hd 35 rfl) ?_ (fun ch hp => by simp at hp)
    rintro _ ⟨⟩; refine zas rfl (hd 33 rfl) <| Aa ?_
    refine Bg rfl (fun h1 => ?_) (fun h1 => ?_)
    · have hr0 : N % D = 0 := h01.1 h1
      refine Ai ?_
      refine ⟨(), ?_, rfl, A5 3 rfl rfl ?_⟩
      · trivial
      · exact (.cons (by show some (V.b _) = some (V.b _); first | rw [N7 hr0] | rw [Aas hr0]) (.v9 (.v9 (.v9 (.u .nil)))))
    · have hr0 : N % D ≠ 0 := fun h => h1 (h01.2 h)
      refine zsr <| zmv rfl (hd 37 rfl) <| Ac (Cq (Ch rfl rfl) rfl) (hd 38 rfl) <| zas rfl (hd 36 rfl) <| Aa <| B4 rfl <| Af <| Ac (Bl Ew rfl rfl rfl) (hd 39 rfl) <| Ac (Be Ir rfl rfl rfl) (hd 40 rfl) <| zas rfl (hd 7 rfl) <| Aa ?_
      refine ⟨(), ?_, rfl, A5 9 rfl rfl ?_⟩
      · trivial
      · exact (.cons (by show some (V.b _) = some (V.b _); first | rw [N7 hr0] | rw [Aas hr0]) (.v9 (.v9 (.v9 (.u .nil)))))
  · rintro _ _
    refine Ce (G := Unit) (fun _ => True) (fun _ => [(5, .n false .u64 (Aj B32 (if (upB 1 s N D) = true then N / D + 1 else N / D))), (47, .u), (48, .u), (49, .u), (50, .u)]) ?_ ?_
    · refine zsr <| zmv rfl (hd 47 rfl) <| Aa ?_
      refine Fm rfl (fun h3 => ?_) (fun h3 => ?_)
      · have hup := h3
        refine Af <| zmv rfl (hd 48 rfl) ?_
        refine Ah Tryz.f59 (hI1) rfl Tryz.func59 rfl rfl (Ab rfl Ad) (.cons .i .nil) (hd 49 rfl) ?_ (fun ch hp => by simp at hp)
        rintro y hy; injection hy with hy; subst hy
        refine Ah Tryz.f80 (hAd) rfl Tryz.func80 rfl rfl (Ab rfl (Ab rfl Ad)) (.cons .n (.cons .n .nil)) (hd 50 rfl) ?_ (fun ch hp => by simp at hp)
        rintro _ ⟨⟩; refine zas rfl (hd 5 rfl) <| Aa ?_
        refine ⟨(), ?_, rfl, A5 5 rfl rfl ?_⟩
        · trivial
        · exact (.cons (by show some (V.n _ _ _) = some (V.n _ _ _); rw [hup]; rfl) (.u (.u (.u (.u .nil)))))
      · have hup := h3
        refine Ai ?_
        refine ⟨(), ?_, rfl, A5 1 rfl rfl ?_⟩
        · trivial
        · exact (.cons (by show some (V.n _ _ _) = some (V.n _ _ _); rw [hup]; rfl) (.u (.u (.u (.u .nil)))))
    · rintro _ _; refine zsr <| Ac (Bl Ew rfl rfl rfl) (hd 51 rfl) <| Ac (Be Ir rfl rfl rfl) (hd 52 rfl) <| zmv rfl (hd 53 rfl) ?_
      refine H4 53 rfl (fun h4 => ?_) (fun h4 => ?_)
      · refine Ay 53 rfl rfl (Ar rfl) (hd 54 rfl) ?_
        refine Dv Tryz.f36 53 rfl rfl (Fp (Aj B32 (if (upB 1 s N D) = true then N / D + 1 else N / D))) rfl Tryz.func36 rfl rfl (Ab rfl Ad) (.cons .n .nil) (hd 55 rfl) ?_ (fun ch hp => by simp at hp)
        rintro _ ⟨⟩; refine Ay 53 rfl rfl (E1 rfl) (hd 56 rfl) <| Ac (A9 rfl rfl) (hd 57 rfl) <| zmv rfl (hd 58 rfl) <| Ac (Bn (is := [0, 1]) (xs := [.tmp 57, .tmp 58]) C0 Ek rfl (Ab rfl (Ab rfl Ad)) rfl (by first | (simp [B9, cellsV]; done) | (simp [B9, cellsV, old]; done)) (B7 rfl) rfl) (hd 59 rfl) <| A6 (Ak rfl rfl rfl D6 rfl rfl (zlb rfl)) <| Aa <| Ao ?_
        refine ⟨_, _, (.cons (ResV.cell Ef rfl rfl rfl rfl) .nil), (.a1 .b (.a1 .n .a0)), ?_⟩
        first | rw [Ls (by assumption)] | rw [Sr (by assumption)]
      · refine Bk 53 rfl rfl rfl (hd 54 rfl) <| Bk 53 rfl rfl rfl (hd 55 rfl) <| Bk 53 rfl rfl rfl (hd 56 rfl) <| Ac (A3 rfl rfl) (hd 57 rfl) <| zmv rfl (hd 58 rfl) <| Ac (Bn (is := [0, 1]) (xs := [.tmp 57, .tmp 58]) C0 Ek rfl (Ab rfl (Ab rfl Ad)) rfl (by first | (simp [B9, cellsV]; done) | (simp [B9, cellsV, old]; done)) (B7 rfl) rfl) (hd 59 rfl) <| A6 (Ak rfl rfl rfl D6 rfl rfl (zlb rfl)) <| Aa <| Ao ?_
        refine ⟨_, _, (.cons (ResV.cell Ef rfl rfl rfl rfl) .nil), (.a1 .b (.a1 .n .a0)), ?_⟩
        first | rw [Ls (by assumption)] | rw [Sr (by assumption)]

theorem Ym (s : Bool) (N D : Nat) (hN : N ≠ 0) (hD : D ≠ 0) (hdn : (Aj B32 N).length ≤ 16777216) (hdd : (Aj B32 D).length ≤ 16777216) : Spec Tryz.prog 40 [(.a [.b s, .n false .u64 (Aj B32 N), .n false .u64 (Aj B32 D)]), .i .i64 1] (fun o => o = .ret (.a [.b (decide (zs s (if (upB 2 s N D) = true then N / D + 1 else N / D) < 0)), .n false .u64 (Aj B32 (if (upB 2 s N D) = true then N / D + 1 else N / D))])) := by
  refine Au [(0, (.a [.b s, .n false .u64 (Aj B32 N), .n false .u64 (Aj B32 D)])), (1, .i .i64 1)] rfl Tryz.func40 rfl (zlb rfl) fun Γ hN hds hL hR => ?_
  have hd := Bt 60 hN
  have hDv := K6 N D (by omega) (by omega) (by omega)
  have hlr : (Aj B32 (N % D)).length ≤ (Aj B32 D).length := Hq (Nat.le_of_lt (Nat.mod_lt _ (by omega)))
  have hlq : (Aj B32 (N / D)).length ≤ (Aj B32 N).length := Hq (Nat.div_le_self _ _)
  have h01 := @Jd (N % D)
  have hI1 : Spec Tryz.prog 59 [.i .i64 1] (fun o => o = .ret (.n false .u64 (Aj B32 1))) := by have h := Rv ((1 : Nat) : Int) (by decide) (by decide); rw [Ru (v := 1) (by decide)] at h; exact h
  have hAd := Rx (N / D) 1 (by omega) (by decide +kernel)
  refine zsr <| A4 (By (id := 0) (n := 3) rfl rfl rfl (by decide) rfl) (hd 2 rfl) <| A4 (At (id := 1) C0 (by decide) rfl (by decide) rfl) (hd 4 rfl) <| Aa <| zsr <| Ac (Bl Da rfl rfl rfl) (hd 10 rfl) <| Ac (Be Eo rfl rfl rfl) (hd 11 rfl) <| Ac (Bl Dz rfl rfl rfl) (hd 12 rfl) <| Ac (Be Eo rfl rfl rfl) (hd 13 rfl) ?_
  refine Ah Tryz.f77 (hDv) rfl Tryz.func77 rfl rfl (Ab rfl (Ab rfl Ad)) (.cons .n (.cons .n .nil)) (hd 14 rfl) ?_ (fun ch hp => by simp at hp)
  rintro _ ⟨⟩; refine zmv rfl (hd 9 rfl) <| Ac (Am rfl rfl) (hd 15 rfl) <| Ac (Am rfl rfl) (hd 16 rfl) <| zas rfl (hd 5 rfl) <| zas rfl (hd 6 rfl) <| Aa <| zsr <| zas rfl (hd 7 rfl) <| Aa ?_
  refine Ce (G := Unit) (fun _ => True) (fun _ => [(7, .b (upB 2 s N D)), (8, .u), (17, .u), (18, .u), (19, .u), (20, .u), (21, .u), (22, .u), (23, .u), (24, .u), (25, .u), (26, .u), (27, .u), (28, .u), (29, .u), (30, .u), (31, .u), (32, .u), (33, .u), (34, .u), (35, .u), (36, .u), (37, .u), (38, .u), (39, .u), (40, .u), (41, .u), (42, .u), (43, .u), (44, .u), (45, .u), (46, .u)]) ?_ ?_
  · refine Ap <| zsr <| zmv rfl (hd 34 rfl) ?_
    refine Ah Tryz.f36 (Fp (Aj B32 (N % D))) rfl Tryz.func36 rfl rfl (Ab rfl Ad) (.cons .n .nil) (hd 35 rfl) ?_ (fun ch hp => by simp at hp)
    rintro _ ⟨⟩; refine zas rfl (hd 33 rfl) <| Aa ?_
    refine Bg rfl (fun h1 => ?_) (fun h1 => ?_)
    · have hr0 : N % D = 0 := h01.1 h1
      refine Ai ?_
      refine ⟨(), ?_, rfl, A5 3 rfl rfl ?_⟩
      · trivial
      · exact (.cons (by show some (V.b _) = some (V.b _); first | rw [N7 hr0] | rw [Aar hr0]) (.v9 (.v9 (.v9 (.u .nil)))))
    · have hr0 : N % D ≠ 0 := fun h => h1 (h01.2 h)
      refine zsr <| zmv rfl (hd 37 rfl) <| Ac (Bo (Ch rfl rfl) (by decide)) (hd 38 rfl) <| zas rfl (hd 36 rfl) <| Aa <| A1 rfl <| zsr <| zmv rfl (hd 42 rfl) <| Ac (Cq (Ch rfl rfl) rfl) (hd 43 rfl) <| zas rfl (hd 41 rfl) <| Aa ?_; refine B4 rfl <| Af <| Ac (Bl Ew rfl rfl rfl) (hd 44 rfl) <| Ac (Be Ir rfl rfl rfl) (hd 45 rfl) <| Ac (E1 rfl) (hd 46 rfl) <| zas rfl (hd 7 rfl) <| Aa ?_
      refine ⟨(), ?_, rfl, A5 13 rfl rfl ?_⟩
      · trivial
      · exact (.cons (by show some (V.b _) = some (V.b _); first | rw [N7 hr0] | rw [Aar hr0]) (.v9 (.v9 (.v9 (.u .nil)))))
  · rintro _ _
    refine Ce (G := Unit) (fun _ => True) (fun _ => [(5, .n false .u64 (Aj B32 (if (upB 2 s N D) = true then N / D + 1 else N / D))), (47, .u), (48, .u), (49, .u), (50, .u)]) ?_ ?_
    · refine zsr <| zmv rfl (hd 47 rfl) <| Aa ?_
      refine Fm rfl (fun h4 => ?_) (fun h4 => ?_)
      · have hup := h4
        refine Af <| zmv rfl (hd 48 rfl) ?_
        refine Ah Tryz.f59 (hI1) rfl Tryz.func59 rfl rfl (Ab rfl Ad) (.cons .i .nil) (hd 49 rfl) ?_ (fun ch hp => by simp at hp)
        rintro y hy; injection hy with hy; subst hy
        refine Ah Tryz.f80 (hAd) rfl Tryz.func80 rfl rfl (Ab rfl (Ab rfl Ad)) (.cons .n (.cons .n .nil)) (hd 50 rfl) ?_ (fun ch hp => by simp at hp)
        rintro _ ⟨⟩; refine zas rfl (hd 5 rfl) <| Aa ?_
        refine ⟨(), ?_, rfl, A5 5 rfl rfl ?_⟩
        · trivial
        · exact (.cons (by show some (V.n _ _ _) = some (V.n _ _ _); rw [hup]; rfl) (.u (.u (.u (.u .nil)))))
      · have hup := h4
        refine Ai ?_
        refine ⟨(), ?_, rfl, A5 1 rfl rfl ?_⟩
        · trivial
        · exact (.cons (by show some (V.n _ _ _) = some (V.n _ _ _); rw [hup]; rfl) (.u (.u (.u (.u .nil)))))
    · rintro _ _; refine zsr <| Ac (Bl Ew rfl rfl rfl) (hd 51 rfl) <| Ac (Be Ir rfl rfl rfl) (hd 52 rfl) <| zmv rfl (hd 53 rfl) ?_
      refine H4 53 rfl (fun h5 => ?_) (fun h5 => ?_)
      · refine Ay 53 rfl rfl (Ar rfl) (hd 54 rfl) ?_
        refine Dv Tryz.f36 53 rfl rfl (Fp (Aj B32 (if (upB 2 s N D) = true then N / D + 1 else N / D))) rfl Tryz.func36 rfl rfl (Ab rfl Ad) (.cons .n .nil) (hd 55 rfl) ?_ (fun ch hp => by simp at hp)
        rintro _ ⟨⟩; refine Ay 53 rfl rfl (E1 rfl) (hd 56 rfl) <| Ac (A9 rfl rfl) (hd 57 rfl) <| zmv rfl (hd 58 rfl) <| Ac (Bn (is := [0, 1]) (xs := [.tmp 57, .tmp 58]) C0 Ek rfl (Ab rfl (Ab rfl Ad)) rfl (by first | (simp [B9, cellsV]; done) | (simp [B9, cellsV, old]; done)) (B7 rfl) rfl) (hd 59 rfl) <| A6 (Ak rfl rfl rfl D6 rfl rfl (zlb rfl)) <| Aa <| Ao ?_
        refine ⟨_, _, (.cons (ResV.cell Ef rfl rfl rfl rfl) .nil), (.a1 .b (.a1 .n .a0)), ?_⟩
        first | rw [Ls (by assumption)] | rw [Sr (by assumption)]
      · refine Bk 53 rfl rfl rfl (hd 54 rfl) <| Bk 53 rfl rfl rfl (hd 55 rfl) <| Bk 53 rfl rfl rfl (hd 56 rfl) <| Ac (A3 rfl rfl) (hd 57 rfl) <| zmv rfl (hd 58 rfl) <| Ac (Bn (is := [0, 1]) (xs := [.tmp 57, .tmp 58]) C0 Ek rfl (Ab rfl (Ab rfl Ad)) rfl (by first | (simp [B9, cellsV]; done) | (simp [B9, cellsV, old]; done)) (B7 rfl) rfl) (hd 59 rfl) <| A6 (Ak rfl rfl rfl D6 rfl rfl (zlb rfl)) <| Aa <| Ao ?_
        refine ⟨_, _, (.cons (ResV.cell Ef rfl rfl rfl rfl) .nil), (.a1 .b (.a1 .n .a0)), ?_⟩
        first | rw [Ls (by assumption)] | rw [Sr (by assumption)]

theorem Yl (s : Bool) (N D : Nat) (hN : N ≠ 0) (hD : D ≠ 0) (hdn : (Aj B32 N).length ≤ 16777216) (hdd : (Aj B32 D).length ≤ 16777216) : Spec Tryz.prog 40 [(.a [.b s, .n false .u64 (Aj B32 N), .n false .u64 (Aj B32 D)]), .i .i64 2] (fun o => o = .ret (.a [.b (decide (zs s (if (upB 3 s N D) = true then N / D + 1 else N / D) < 0)), .n false .u64 (Aj B32 (if (upB 3 s N D) = true then N / D + 1 else N / D))])) := by
  refine Au [(0, (.a [.b s, .n false .u64 (Aj B32 N), .n false .u64 (Aj B32 D)])), (1, .i .i64 2)] rfl Tryz.func40 rfl (zlb rfl) fun Γ hN hds hL hR => ?_
  have hd := Bt 60 hN
  have hDv := K6 N D (by omega) (by omega) (by omega)
  have hlr : (Aj B32 (N % D)).length ≤ (Aj B32 D).length := Hq (Nat.le_of_lt (Nat.mod_lt _ (by omega)))
  have hlq : (Aj B32 (N / D)).length ≤ (Aj B32 N).length := Hq (Nat.div_le_self _ _)
  have h01 := @Jd (N % D)
  have hI1 : Spec Tryz.prog 59 [.i .i64 1] (fun o => o = .ret (.n false .u64 (Aj B32 1))) := by have h := Rv ((1 : Nat) : Int) (by decide) (by decide); rw [Ru (v := 1) (by decide)] at h; exact h
  have hSh : Spec Tryz.prog 78 [.n false .u64 (Aj B32 (N % D)), .i .i64 1] (fun o => o = .ret (.n false .u64 (Aj B32 (2 * (N % D))))) := by have h := Q2 (N % D) 1 (by omega) (by decide); rw [show N % D * 2 ^ 1 = 2 * (N % D) by omega] at h; exact h
  have hl2 : (Aj B32 (2 * (N % D))).length ≤ (Aj B32 (N % D)).length + 1 := dl_two
  have hc3 := cmp3 (2 * (N % D)) D
  have hCm := Ok (2 * (N % D)) D (by omega) (by omega)
  have hBt : Spec Tryz.prog 79 [.n false .u64 (Aj B32 (N / D)), .i .i64 0] (fun o => o = .ret (.i .i64 ((N / D % 2 : Nat) : Int))) := by have h := Bit_s (N / D) 0 (by omega) (by decide); rw [Nat.pow_zero, Nat.div_one] at h; exact h
  have hAd := Rx (N / D) 1 (by omega) (by decide +kernel)
  refine zsr <| A4 (By (id := 0) (n := 3) rfl rfl rfl (by decide) rfl) (hd 2 rfl) <| A4 (At (id := 1) C0 (by decide) rfl (by decide) rfl) (hd 4 rfl) <| Aa <| zsr <| Ac (Bl Da rfl rfl rfl) (hd 10 rfl) <| Ac (Be Eo rfl rfl rfl) (hd 11 rfl) <| Ac (Bl Dz rfl rfl rfl) (hd 12 rfl) <| Ac (Be Eo rfl rfl rfl) (hd 13 rfl) ?_
  refine Ah Tryz.f77 (hDv) rfl Tryz.func77 rfl rfl (Ab rfl (Ab rfl Ad)) (.cons .n (.cons .n .nil)) (hd 14 rfl) ?_ (fun ch hp => by simp at hp)
  rintro _ ⟨⟩; refine zmv rfl (hd 9 rfl) <| Ac (Am rfl rfl) (hd 15 rfl) <| Ac (Am rfl rfl) (hd 16 rfl) <| zas rfl (hd 5 rfl) <| zas rfl (hd 6 rfl) <| Aa <| zsr <| zas rfl (hd 7 rfl) <| Aa ?_
  refine Ce (G := Unit) (fun _ => True) (fun _ => [(7, .b (upB 3 s N D)), (8, .u), (17, .u), (18, .u), (19, .u), (20, .u), (21, .u), (22, .u), (23, .u), (24, .u), (25, .u), (26, .u), (27, .u), (28, .u), (29, .u), (30, .u), (31, .u), (32, .u), (33, .u), (34, .u), (35, .u), (36, .u), (37, .u), (38, .u), (39, .u), (40, .u), (41, .u), (42, .u), (43, .u), (44, .u), (45, .u), (46, .u)]) ?_ ?_
  · refine Ap <| zsr <| zmv rfl (hd 34 rfl) ?_
    refine Ah Tryz.f36 (Fp (Aj B32 (N % D))) rfl Tryz.func36 rfl rfl (Ab rfl Ad) (.cons .n .nil) (hd 35 rfl) ?_ (fun ch hp => by simp at hp)
    rintro _ ⟨⟩; refine zas rfl (hd 33 rfl) <| Aa ?_
    refine Bg rfl (fun h1 => ?_) (fun h1 => ?_)
    · have hr0 : N % D = 0 := h01.1 h1
      refine Ai ?_
      refine ⟨(), ?_, rfl, A5 3 rfl rfl ?_⟩
      · trivial
      · exact (.cons (by show some (V.b _) = some (V.b _); first | rw [N7 hr0] | (rw [Rb hr0]; refine congrArg (fun z => some (V.b z)) ?_; rcases hc3 with ⟨e9, h9⟩ | ⟨e9, h9⟩ | ⟨e9, h9⟩ <;> first | (exfalso; omega) | (symm; apply decide_eq_true; omega) | (symm; apply decide_eq_false; omega) | (rw [decide_eq_decide]; omega))) (.v9 (.v9 (.v9 (.u .nil)))))
    · have hr0 : N % D ≠ 0 := fun h => h1 (h01.2 h)
      refine zsr <| zmv rfl (hd 37 rfl) <| Ac (Bo (Ch rfl rfl) (by decide)) (hd 38 rfl) <| zas rfl (hd 36 rfl) <| Aa <| A1 rfl <| zsr <| zmv rfl (hd 42 rfl) <| Ac (Bo (Ch rfl rfl) (by decide)) (hd 43 rfl) <| zas rfl (hd 41 rfl) <| Aa ?_; refine A1 rfl <| Ae <| Bu (n := 6) _ rfl Cg <| Av 0 [1, 4, 5] (Al (Ar rfl) (hd 17 rfl)) rfl <| Av 2 [3, 4, 5] (Al (Bl Dz rfl rfl rfl) (hd 19 rfl)) rfl <| zal 3 (Al (Be Eo rfl rfl rfl) (hd 20 rfl)) rfl ?_
      refine B5 1 ?_ rfl (by kernel_rfl)
      refine Bp Tryz.f78 (hSh) rfl Tryz.func78 rfl rfl (Ab rfl (Ab rfl Ad)) (.cons .n (.cons .i .nil)) (hd 18 rfl) ?_ (fun ch hp => by simp at hp)
      rintro y hy; injection hy with hy; subst hy
      refine B5 4 ?_ rfl (by kernel_rfl)
      refine Bp Tryz.f21 (hCm) rfl Tryz.func21 rfl rfl (Ab rfl (Ab rfl Ad)) (.cons .n (.cons .n .nil)) (hd 21 rfl) ?_ (fun ch hp => by simp at hp)
      rintro _ ⟨⟩; refine zal 5 (Al (Cm rfl) (hd 8 rfl)) rfl <| Bx (by kernel_rfl) <| Af <| zmv rfl (hd 22 rfl) <| Ac (Ca rfl rfl) (hd 23 rfl) <| zmv rfl (hd 24 rfl) ?_
      refine D4 24 rfl (fun h4 => ?_) (fun h4 => ?_)
      · refine Bk 24 rfl rfl rfl (hd 25 rfl) <| Bk 24 rfl rfl rfl (hd 26 rfl) <| Bk 24 rfl rfl rfl (hd 27 rfl) <| In 27 rfl rfl (hd 28 rfl) <| In 27 rfl rfl (hd 29 rfl) <| In 27 rfl rfl (hd 30 rfl) <| Bk 24 rfl rfl rfl (hd 31 rfl) <| Ac (A9 rfl rfl) (hd 32 rfl) <| zas rfl (hd 7 rfl) <| Aa ?_
        refine ⟨(), ?_, rfl, A5 28 rfl rfl ?_⟩
        · trivial
        · exact (.cons (by show some (V.b _) = some (V.b _); first | rw [N7 hr0] | (rw [Rb hr0]; refine congrArg (fun z => some (V.b z)) ?_; rcases hc3 with ⟨e9, h9⟩ | ⟨e9, h9⟩ | ⟨e9, h9⟩ <;> first | (exfalso; omega) | (symm; apply decide_eq_true; omega) | (symm; apply decide_eq_false; omega) | (rw [decide_eq_decide]; omega))) (.v9 (.v9 (.v9 (.u .nil)))))
      · refine Ay 24 rfl rfl (Ar rfl) (hd 25 rfl) <| Ay 24 rfl rfl (Ch rfl rfl) (hd 26 rfl) <| Ay 24 rfl rfl (Ar rfl) (hd 27 rfl) ?_
        refine D4 27 rfl (fun h5 => ?_) (fun h5 => ?_)
        · refine Ay 27 rfl rfl (Ar rfl) (hd 28 rfl) ?_
          refine Dv Tryz.f79 27 rfl rfl (hBt) rfl Tryz.func79 rfl rfl (Ab rfl (Ab rfl Ad)) (.cons .n (.cons .i .nil)) (hd 29 rfl) ?_ (fun ch hp => by simp at hp)
          rintro _ ⟨⟩; refine Ay 27 rfl rfl (Ch rfl rfl) (hd 30 rfl) <| Ay 24 rfl rfl (A9 rfl rfl) (hd 31 rfl) <| Ac (A3 rfl rfl) (hd 32 rfl) <| zas rfl (hd 7 rfl) <| Aa ?_
          refine ⟨(), ?_, rfl, A5 29 rfl rfl ?_⟩
          · trivial
          · exact (.cons (by show some (V.b _) = some (V.b _); first | rw [N7 hr0] | (rw [Rb hr0]; refine congrArg (fun z => some (V.b z)) ?_; rcases hc3 with ⟨e9, h9⟩ | ⟨e9, h9⟩ | ⟨e9, h9⟩ <;> first | (exfalso; omega) | (symm; apply decide_eq_true; omega) | (symm; apply decide_eq_false; omega) | (rw [decide_eq_decide]; omega))) (.v9 (.v9 (.v9 (.u .nil)))))
        · refine Bk 27 rfl rfl rfl (hd 28 rfl) <| Bk 27 rfl rfl rfl (hd 29 rfl) <| Bk 27 rfl rfl rfl (hd 30 rfl) <| Ay 24 rfl rfl (A3 rfl rfl) (hd 31 rfl) <| Ac (A3 rfl rfl) (hd 32 rfl) <| zas rfl (hd 7 rfl) <| Aa ?_
          refine ⟨(), ?_, rfl, A5 29 rfl rfl ?_⟩
          · trivial
          · exact (.cons (by show some (V.b _) = some (V.b _); first | rw [N7 hr0] | (rw [Rb hr0]; refine congrArg (fun z => some (V.b z)) ?_; rcases hc3 with ⟨e9, h9⟩ | ⟨e9, h9⟩ | ⟨e9, h9⟩ <;> first | (exfalso; omega) | (symm; apply decide_eq_true; omega) | (symm; apply decide_eq_false; omega) | (rw [decide_eq_decide]; omega))) (.v9 (.v9 (.v9 (.u .nil)))))
  · rintro _ _
    refine Ce (G := Unit) (fun _ => True) (fun _ => [(5, .n false .u64 (Aj B32 (if (upB 3 s N D) = true then N / D + 1 else N / D))), (47, .u), (48, .u), (49, .u), (50, .u)]) ?_ ?_
    · refine zsr <| zmv rfl (hd 47 rfl) <| Aa ?_
      refine Fm rfl (fun h6 => ?_) (fun h6 => ?_)
      · have hup := h6
        refine Af <| zmv rfl (hd 48 rfl) ?_
        refine Ah Tryz.f59 (hI1) rfl Tryz.func59 rfl rfl (Ab rfl Ad) (.cons .i .nil) (hd 49 rfl) ?_ (fun ch hp => by simp at hp)
        rintro y hy; injection hy with hy; subst hy
        refine Ah Tryz.f80 (hAd) rfl Tryz.func80 rfl rfl (Ab rfl (Ab rfl Ad)) (.cons .n (.cons .n .nil)) (hd 50 rfl) ?_ (fun ch hp => by simp at hp)
        rintro _ ⟨⟩; refine zas rfl (hd 5 rfl) <| Aa ?_
        refine ⟨(), ?_, rfl, A5 5 rfl rfl ?_⟩
        · trivial
        · exact (.cons (by show some (V.n _ _ _) = some (V.n _ _ _); rw [hup]; rfl) (.u (.u (.u (.u .nil)))))
      · have hup := h6
        refine Ai ?_
        refine ⟨(), ?_, rfl, A5 1 rfl rfl ?_⟩
        · trivial
        · exact (.cons (by show some (V.n _ _ _) = some (V.n _ _ _); rw [hup]; rfl) (.u (.u (.u (.u .nil)))))
    · rintro _ _; refine zsr <| Ac (Bl Ew rfl rfl rfl) (hd 51 rfl) <| Ac (Be Ir rfl rfl rfl) (hd 52 rfl) <| zmv rfl (hd 53 rfl) ?_
      refine H4 53 rfl (fun h7 => ?_) (fun h7 => ?_)
      · refine Ay 53 rfl rfl (Ar rfl) (hd 54 rfl) ?_
        refine Dv Tryz.f36 53 rfl rfl (Fp (Aj B32 (if (upB 3 s N D) = true then N / D + 1 else N / D))) rfl Tryz.func36 rfl rfl (Ab rfl Ad) (.cons .n .nil) (hd 55 rfl) ?_ (fun ch hp => by simp at hp)
        rintro _ ⟨⟩; refine Ay 53 rfl rfl (E1 rfl) (hd 56 rfl) <| Ac (A9 rfl rfl) (hd 57 rfl) <| zmv rfl (hd 58 rfl) <| Ac (Bn (is := [0, 1]) (xs := [.tmp 57, .tmp 58]) C0 Ek rfl (Ab rfl (Ab rfl Ad)) rfl (by first | (simp [B9, cellsV]; done) | (simp [B9, cellsV, old]; done)) (B7 rfl) rfl) (hd 59 rfl) <| A6 (Ak rfl rfl rfl D6 rfl rfl (zlb rfl)) <| Aa <| Ao ?_
        refine ⟨_, _, (.cons (ResV.cell Ef rfl rfl rfl rfl) .nil), (.a1 .b (.a1 .n .a0)), ?_⟩
        first | rw [Ls (by assumption)] | rw [Sr (by assumption)]
      · refine Bk 53 rfl rfl rfl (hd 54 rfl) <| Bk 53 rfl rfl rfl (hd 55 rfl) <| Bk 53 rfl rfl rfl (hd 56 rfl) <| Ac (A3 rfl rfl) (hd 57 rfl) <| zmv rfl (hd 58 rfl) <| Ac (Bn (is := [0, 1]) (xs := [.tmp 57, .tmp 58]) C0 Ek rfl (Ab rfl (Ab rfl Ad)) rfl (by first | (simp [B9, cellsV]; done) | (simp [B9, cellsV, old]; done)) (B7 rfl) rfl) (hd 59 rfl) <| A6 (Ak rfl rfl rfl D6 rfl rfl (zlb rfl)) <| Aa <| Ao ?_
        refine ⟨_, _, (.cons (ResV.cell Ef rfl rfl rfl rfl) .nil), (.a1 .b (.a1 .n .a0)), ?_⟩
        first | rw [Ls (by assumption)] | rw [Sr (by assumption)]

theorem Yk (D : Nat) (m : Int) (hD : D ≠ 0) (hdd : (Aj B32 D).length ≤ 16777216) : Spec Tryz.prog 40 [(.a [.b false, .n false .u64 (Aj B32 0), .n false .u64 (Aj B32 D)]), .i .i64 m] (fun o => o = .ret (.a [.b false, .n false .u64 (Aj B32 0)])) := by
  refine Au [(0, (.a [.b false, .n false .u64 (Aj B32 0), .n false .u64 (Aj B32 D)])), (1, .i .i64 m)] rfl Tryz.func40 rfl (zlb rfl) fun Γ hN hds hL hR => ?_
  have hd := Bt 60 hN
  have hDv := K6 0 D (by rw [Ct]; decide) (by omega) (by omega)
  rw [Nat.zero_div, Nat.zero_mod] at hDv
  have hZ0 : Spec Tryz.prog 36 [.n false .u64 (Aj B32 0)] (fun o => o = .ret (.b true)) := by have h := Fp (Aj B32 0); rwa [Ct] at h ⊢
  refine zsr <| A4 (By (id := 0) (n := 3) rfl rfl rfl (by decide) rfl) (hd 2 rfl) <| A4 (At (id := 1) C0 (by decide) rfl (by decide) rfl) (hd 4 rfl) <| Aa <| zsr <| Ac (Bl Da rfl rfl rfl) (hd 10 rfl) <| Ac (Be Eo rfl rfl rfl) (hd 11 rfl) <| Ac (Bl Dz rfl rfl rfl) (hd 12 rfl) <| Ac (Be Eo rfl rfl rfl) (hd 13 rfl) ?_
  refine Ah Tryz.f77 (hDv) rfl Tryz.func77 rfl rfl (Ab rfl (Ab rfl Ad)) (.cons .n (.cons .n .nil)) (hd 14 rfl) ?_ (fun ch hp => by simp at hp)
  rintro _ ⟨⟩; refine zmv rfl (hd 9 rfl) <| Ac (Am rfl rfl) (hd 15 rfl) <| Ac (Am rfl rfl) (hd 16 rfl) <| zas rfl (hd 5 rfl) <| zas rfl (hd 6 rfl) <| Aa <| zsr <| zas rfl (hd 7 rfl) <| Aa <| Ae <| Ap <| Ae ?_; refine Af <| zmv rfl (hd 34 rfl) ?_
  refine Ah Tryz.f36 (hZ0) rfl Tryz.func36 rfl rfl (Ab rfl Ad) (.cons .n .nil) (hd 35 rfl) ?_ (fun ch hp => by simp at hp)
  rintro _ ⟨⟩; refine zas rfl (hd 33 rfl) <| Aa <| B4 rfl <| Ai <| Ae <| zsr <| zmv rfl (hd 47 rfl) <| Aa <| A1 rfl <| Ai <| Ae <| Af ?_; refine Ac (Bl Ew rfl rfl rfl) (hd 51 rfl) <| Ac (Be Ir rfl rfl rfl) (hd 52 rfl) <| zmv rfl (hd 53 rfl) <| Bk 53 rfl rfl rfl (hd 54 rfl) <| Bk 53 rfl rfl rfl (hd 55 rfl) <| Bk 53 rfl rfl rfl (hd 56 rfl) <| Ac (A3 rfl rfl) (hd 57 rfl) <| zmv rfl (hd 58 rfl) <| Ac (Bn (is := [0, 1]) (xs := [.tmp 57, .tmp 58]) C0 Ek rfl (Ab rfl (Ab rfl Ad)) rfl (by first | (simp [B9, cellsV]; done) | (simp [B9, cellsV, old]; done)) (B7 rfl) rfl) (hd 59 rfl) <| A6 (Ak rfl rfl rfl D6 rfl rfl (zlb rfl)) <| Aa <| Ao ?_
  refine ⟨_, _, (.cons (ResV.cell Ef rfl rfl rfl rfl) .nil), (.a1 .b (.a1 .n .a0)), ?_⟩
  exact rfl

theorem rAt_z (y : Nat) (n m : Int) (hy : y ≠ 0) (ly : Aq (y : Int) ≤ 67108864) : Spec Tryz.prog 8 [(.a [.b false, .n false .u64 (Aj B32 0), .n false .u64 (Aj B32 y)]), .i .i64 n, .i .i64 m] (fun o => o = .ret (.t [(.a [.b false, .n false .u64 (Aj B32 0)]), .b true])) := by
  refine Au [(0, (.a [.b false, .n false .u64 (Aj B32 0), .n false .u64 (Aj B32 y)])), (1, .i .i64 n), (2, .i .i64 m)] rfl Tryz.func8 rfl (zlb rfl) fun Γ hN hds hL hR => ?_
  have hd := Bt 57 hN
  have dy := Nj ly
  have hLy : Spec Tryz.prog 39 [.n false .u64 (Aj B32 y)] (fun o => o = .ret (.i .i64 (Aq (y : Int)))) := by have h := Q5 (y : Int) (by rw [dgN]; omega); rwa [dgN] at h
  have hSg : Spec Tryz.prog 38 [(.a [.b false, .n false .u64 (Aj B32 0), .n false .u64 (Aj B32 y)])] (fun o => o = .ret (.i .i64 0)) := by have h := Oj false 0 (Aj B32 y); rwa [show Aa4 (zs false 0) = 0 from rfl] at h
  have hL0 : Spec Tryz.prog 39 [.n false .u64 (Aj B32 0)] (fun o => o = .ret (.i .i64 0)) := by have h := Q5 0 (by rw [dg_0]; decide); rw [dg_0] at h; rw [Ct]; exact h
  refine zsr <| A4 (By (id := 0) (n := 3) rfl rfl rfl (by decide) rfl) (hd 3 rfl) <| A4 (At (id := 1) C0 (by decide) rfl (by decide) rfl) (hd 6 rfl) <| zas rfl (hd 7 rfl) <| Aa <| Ae <| Ae <| Bu (n := 15) _ rfl Cg <| Av 0 [1, 2, 3, 4, 5, 6, 7, 8, 9, 10, 11, 12, 13, 14] (Al (Bm Dp rfl rfl rfl rfl) (hd 10 rfl)) rfl ?_
  refine B5 1 ?_ rfl (by kernel_rfl)
  refine Bp Tryz.f38 (hSg) rfl Tryz.func38 rfl rfl (Ab rfl Ad) (.cons (.a1 .b (.a1 .n (.a1 .n .a0))) .nil) (hd 11 rfl) ?_ (fun ch hp => by simp at hp)
  rintro _ ⟨⟩; refine Av 2 [3, 4, 5, 6, 7, 8, 9, 10, 11, 12, 13, 14] (Al (Bo (Ec rfl rfl) (fun h => h rfl)) (hd 12 rfl)) rfl <| zal 3 (Al (Ar rfl) (hd 13 rfl)) rfl <| Av 4 [5, 6, 9, 10, 12, 13, 14] (Lc 13 rfl rfl rfl (hd 14 rfl)) rfl <| Av 5 [6, 9, 10, 12, 13, 14] (Lc 13 rfl rfl rfl (hd 15 rfl)) rfl <| Av 7 [8, 9, 10, 12, 13, 14] (Lc 13 rfl rfl rfl (hd 17 rfl)) rfl <| Av 8 [9, 10, 12, 13, 14] (Lc 13 rfl rfl rfl (hd 18 rfl)) rfl <| Av 11 [12, 13, 14] (Lc 13 rfl rfl rfl (hd 21 rfl)) rfl <| Av 6 [9, 10, 12, 13, 14] (Lc 13 rfl rfl rfl (hd 16 rfl)) rfl <| Av 9 [10, 12, 13, 14] (Lc 13 rfl rfl rfl (hd 19 rfl)) rfl <| Av 10 [12, 13, 14] (Lc 13 rfl rfl rfl (hd 20 rfl)) rfl <| Av 12 [13, 14] (Lc 13 rfl rfl rfl (hd 22 rfl)) rfl <| zal 13 (Lc 13 rfl rfl rfl (hd 23 rfl)) rfl <| zal 14 (Al (A3 rfl rfl) (hd 24 rfl)) rfl ?_; refine Bx (by kernel_rfl) <| A1 rfl <| Ai <| Ae <| Bu (n := 10) _ rfl Cg <| Av 0 [1, 2, 5, 6, 7, 8, 9] (Al (Bl Da rfl rfl rfl) (hd 26 rfl)) rfl <| Av 1 [2, 5, 6, 7, 8, 9] (Al (Be Eo rfl rfl rfl) (hd 27 rfl)) rfl <| Av 3 [4, 5, 6, 7, 8, 9] (Al (Bl Dz rfl rfl rfl) (hd 29 rfl)) rfl <| Av 4 [5, 6, 7, 8, 9] (Al (Be Eo rfl rfl rfl) (hd 30 rfl)) rfl ?_
  refine B5 2 ?_ rfl (by kernel_rfl)
  refine Bp Tryz.f39 (hL0) rfl Tryz.func39 rfl rfl (Ab rfl Ad) (.cons .n .nil) (hd 28 rfl) ?_ (fun ch hp => by simp at hp)
  rintro y hy; injection hy with hy; subst hy
  refine B5 5 ?_ rfl (by kernel_rfl)
  refine Bp Tryz.f39 (hLy) rfl Tryz.func39 rfl rfl (Ab rfl Ad) (.cons .n .nil) (hd 31 rfl) ?_ (fun ch hp => by simp at hp)
  rintro _ ⟨⟩; refine Av 6 [7, 8, 9] (Al (Bd rfl rfl (r := -(Aq (y : Int) : Int)) (by rw [Ag (by omega) (by omega)] <;> omega)) (hd 32 rfl)) rfl <| zal 7 (Al (I4 rfl (r := (Aq (y : Int) : Int)) (by rw [Ag (by omega) (by omega)] <;> omega)) (hd 33 rfl)) rfl <| zal 8 (Al (Bd rfl rfl (r := (Aq (y : Int) : Int) - 4) (by rw [Ag (by omega) (by omega)] <;> omega)) (hd 34 rfl)) rfl <| zal 9 (Al (Cm rfl) (hd 8 rfl)) rfl <| Bx (by kernel_rfl) <| Ae <| zsr <| Ac (Bm Dp rfl rfl rfl rfl) (hd 35 rfl) ?_
  refine Ah Tryz.f38 (hSg) rfl Tryz.func38 rfl rfl (Ab rfl Ad) (.cons (.a1 .b (.a1 .n (.a1 .n .a0))) .nil) (hd 36 rfl) ?_ (fun ch hp => by simp at hp)
  rintro _ ⟨⟩; refine Ac (Bo (Ec rfl rfl) (fun h => h rfl)) (hd 37 rfl) <| zmv rfl (hd 38 rfl) <| Bk 38 rfl rfl rfl (hd 39 rfl) <| Bk 38 rfl rfl rfl (hd 40 rfl) <| Bk 38 rfl rfl rfl (hd 41 rfl) <| Ac (A3 rfl rfl) (hd 42 rfl) <| Aa <| A1 rfl <| Ai <| Ae <| zsr <| Ac (Bm Dp rfl rfl rfl rfl) (hd 44 rfl) ?_
  refine Ah Tryz.f38 (hSg) rfl Tryz.func38 rfl rfl (Ab rfl Ad) (.cons (.a1 .b (.a1 .n (.a1 .n .a0))) .nil) (hd 45 rfl) ?_ (fun ch hp => by simp at hp)
  rintro _ ⟨⟩; refine Ac (Cq (Ch rfl rfl) rfl) (hd 46 rfl) <| Aa <| B4 rfl <| Af <| zas rfl (hd 1 rfl) <| Aa <| zsr <| Ac (Bm Dp rfl rfl rfl rfl) (hd 47 rfl) <| zmv rfl (hd 48 rfl) ?_
  refine Ah Tryz.f41 (Yh false y 0) rfl Tryz.func41 rfl rfl (Ab rfl (Ab rfl Ad)) (.cons (.a1 .b (.a1 .n (.a1 .n .a0))) (.cons .i .nil)) (hd 49 rfl) ?_ (fun ch hp => by simp at hp)
  rintro _ ⟨⟩; refine zmv rfl (hd 50 rfl) ?_
  refine Ah Tryz.f40 (Yk y m hy (by omega)) rfl Tryz.func40 rfl rfl (Ab rfl (Ab rfl Ad)) (.cons (.a1 .b (.a1 .n (.a1 .n .a0))) (.cons .i .nil)) (hd 51 rfl) ?_ (fun ch hp => by simp at hp)
  rintro _ ⟨⟩; refine A4 (At (id := 2) C0 (by decide) rfl (by decide) rfl) (hd 9 rfl) <| A6 (Ak rfl rfl rfl D6 rfl rfl (zlb rfl)) <| Aa <| Ae <| Bu (n := 7) _ rfl Cg <| zal 0 (Al (Bm Ef rfl rfl rfl rfl) (hd 52 rfl)) rfl <| Av 1 [2, 3, 4, 5, 6] (Al (Bl Li rfl rfl rfl) (hd 53 rfl)) rfl <| Av 2 [3, 4, 5, 6] (Al (Be Eo rfl rfl rfl) (hd 54 rfl)) rfl ?_
  refine B5 3 ?_ rfl (by kernel_rfl)
  refine Bp Tryz.f39 (hL0) rfl Tryz.func39 rfl rfl (Ab rfl Ad) (.cons .n .nil) (hd 55 rfl) ?_ (fun ch hp => by simp at hp)
  rintro y hy; injection hy with hy; subst hy
  refine O8 4 5 ?_ ?_ rfl rfl (by kernel_rfl)
  · refine Ae4 (Cq (J5 rfl rfl) (by decide)) (hd 56 rfl) ?_
    refine B5 5 ?_ rfl (by kernel_rfl)
    refine D1 (Ak rfl rfl rfl D6 rfl rfl (zlb rfl)) rfl <| zal 6 (Al (Cm rfl) (hd 7 rfl)) rfl <| Bx (by kernel_rfl) <| Ao ?_
    refine ⟨_, _, (.cons (ResV.cell Ef rfl rfl rfl rfl) (.cons rfl .nil)), (.t1 (.a1 .b (.a1 .n .a0)) (.t1 .b .t0)), ?_⟩
    exact rfl
  · refine D1 (Ak rfl rfl rfl D6 rfl rfl (zlb rfl)) rfl <| zal 4 (Al (Cq (J5 rfl rfl) (by decide)) (hd 56 rfl)) rfl <| zal 6 (Al (Cm rfl) (hd 7 rfl)) rfl <| Bx (by kernel_rfl) <| Ao ?_
    refine ⟨_, _, (.cons (ResV.cell Ef rfl rfl rfl rfl) (.cons rfl .nil)), (.t1 (.a1 .b (.a1 .n .a0)) (.t1 .b .t0)), ?_⟩
    exact rfl

theorem rAt_o (s : Bool) (x y : Nat) (n m : Int) (hx : x ≠ 0) (hy : y ≠ 0) (lx : Aq (x : Int) ≤ 67108864) (ly : Aq (y : Int) ≤ 67108864) (hn8 : -1099511627776 ≤ n) (hn9 : n ≤ 1099511627776) (hov : (Aq (x : Int) : Int) - (Aq (y : Int) : Int) + n > 67108866) : Spec Tryz.prog 8 [(.a [.b s, .n false .u64 (Aj B32 x), .n false .u64 (Aj B32 y)]), .i .i64 n, .i .i64 m] (fun o => o = .ret (.t [.a [.b false, .n false .u64 []], .b false])) := by
  refine Au [(0, (.a [.b s, .n false .u64 (Aj B32 x), .n false .u64 (Aj B32 y)])), (1, .i .i64 n), (2, .i .i64 m)] rfl Tryz.func8 rfl (zlb rfl) fun Γ hN hds hL hR => ?_
  have hd := Bt 57 hN
  have dx := Nj lx
  have dy := Nj ly
  have hLx : Spec Tryz.prog 39 [.n false .u64 (Aj B32 x)] (fun o => o = .ret (.i .i64 (Aq (x : Int)))) := by have h := Q5 (x : Int) (by rw [dgN]; omega); rwa [dgN] at h
  have hLy : Spec Tryz.prog 39 [.n false .u64 (Aj B32 y)] (fun o => o = .ret (.i .i64 (Aq (y : Int)))) := by have h := Q5 (y : Int) (by rw [dgN]; omega); rwa [dgN] at h
  have hs0 : Aa4 (zs s x) ≠ 0 := fun h => hx (Agc.1 (Aa3.1 h))
  refine zsr <| A4 (By (id := 0) (n := 3) rfl rfl rfl (by decide) rfl) (hd 3 rfl) <| A4 (At (id := 1) C0 (by decide) rfl (by decide) rfl) (hd 6 rfl) <| zas rfl (hd 7 rfl) <| Aa <| Ae <| Ae <| Bu (n := 15) _ rfl Cg <| Av 0 [1, 2, 3, 4, 5, 6, 7, 8, 9, 10, 11, 12, 13, 14] (Al (Bm Dp rfl rfl rfl rfl) (hd 10 rfl)) rfl ?_
  refine B5 1 ?_ rfl (by kernel_rfl)
  refine Bp Tryz.f38 (Oj s x (Aj B32 y)) rfl Tryz.func38 rfl rfl (Ab rfl Ad) (.cons (.a1 .b (.a1 .n (.a1 .n .a0))) .nil) (hd 11 rfl) ?_ (fun ch hp => by simp at hp)
  rintro _ ⟨⟩; refine Av 2 [3, 4, 5, 6, 7, 8, 9, 10, 11, 12, 13, 14] (Al (Cq (Ec rfl rfl) hs0) (hd 12 rfl)) rfl <| zal 3 (Al (Ar rfl) (hd 13 rfl)) rfl <| Av 4 [5, 6, 9, 10, 12, 13, 14] (G7 13 rfl rfl (Bl Da rfl rfl rfl) (hd 14 rfl)) rfl <| Av 5 [6, 9, 10, 12, 13, 14] (G7 13 rfl rfl (Be Eo rfl rfl rfl) (hd 15 rfl)) rfl <| Av 7 [8, 9, 10, 12, 13, 14] (G7 13 rfl rfl (Bl Dz rfl rfl rfl) (hd 17 rfl)) rfl <| Av 8 [9, 10, 12, 13, 14] (G7 13 rfl rfl (Be Eo rfl rfl rfl) (hd 18 rfl)) rfl <| Av 11 [12, 13, 14] (G7 13 rfl rfl (Ar rfl) (hd 21 rfl)) rfl ?_
  refine B5 6 ?_ rfl (by kernel_rfl)
  refine Gc Tryz.f39 13 rfl rfl (hLx) rfl Tryz.func39 rfl rfl (Ab rfl Ad) (.cons .n .nil) (hd 16 rfl) ?_ (fun ch hp => by simp at hp)
  rintro y hy; injection hy with hy; subst hy
  refine B5 9 ?_ rfl (by kernel_rfl)
  refine Gc Tryz.f39 13 rfl rfl (hLy) rfl Tryz.func39 rfl rfl (Ab rfl Ad) (.cons .n .nil) (hd 19 rfl) ?_ (fun ch hp => by simp at hp)
  rintro _ ⟨⟩; refine Av 10 [12, 13, 14] (G7 13 rfl rfl (Bd rfl rfl (r := (Aq (x : Int) : Int) - (Aq (y : Int) : Int)) (by rw [Ag (by omega) (by omega)] <;> omega)) (hd 20 rfl)) rfl <| Av 12 [13, 14] (G7 13 rfl rfl (Aw rfl rfl (r := (Aq (x : Int) : Int) - (Aq (y : Int) : Int) + n) (by rw [Ag (by omega) (by omega)] <;> omega)) (hd 22 rfl)) rfl <| zal 13 (G7 13 rfl rfl (Cq (Ca rfl rfl) hov) (hd 23 rfl)) rfl <| zal 14 (Al (A9 rfl rfl) (hd 24 rfl)) rfl <| Bx (by kernel_rfl) <| B4 rfl <| zsr <| Ac (Bn (is := []) (xs := []) (pls := []) C0 Ys rfl Ad rfl trivial (B7 rfl) rfl) (hd 25 rfl) <| A6 (Ak rfl rfl rfl D6 rfl rfl (zlb rfl)) <| zas rfl (hd 7 rfl) <| Aa <| Ao ?_
  refine ⟨_, _, (.cons (ResV.cell Ef rfl rfl rfl rfl) (.cons rfl .nil)), (.t1 (.a1 .b (.a1 (.nil (fr := false) (k := .u64)) .a0)) (.t1 .b .t0)), ?_⟩
  exact rfl

theorem rAt_g (s : Bool) (x y : Nat) (n m : Int) (hx : x ≠ 0) (hy : y ≠ 0) (lx : Aq (x : Int) ≤ 67108864) (ly : Aq (y : Int) ≤ 67108864) (hn8 : -1099511627776 ≤ n) (hn9 : n ≤ 1099511627776) (hov : ¬ (Aq (x : Int) : Int) - (Aq (y : Int) : Int) + n > 67108866) (n1 : Int) (hn1 : n1 = if n < ((Aq (y : Int) : Int) - (Aq (x : Int) : Int) - 4) then ((Aq (y : Int) : Int) - (Aq (x : Int) : Int) - 4) else n) (N D Q : Nat) (b : Bool) (hSc : Spec Tryz.prog 41 [(.a [.b s, .n false .u64 (Aj B32 x), .n false .u64 (Aj B32 y)]), .i .i64 n1] (fun o => o = .ret (.a [.b s, .n false .u64 (Aj B32 N), .n false .u64 (Aj B32 D)]))) (hRo : Spec Tryz.prog 40 [(.a [.b s, .n false .u64 (Aj B32 N), .n false .u64 (Aj B32 D)]), .i .i64 m] (fun o => o = .ret (.a [.b b, .n false .u64 (Aj B32 Q)]))) (hQ : (Aj B32 Q).length ≤ 16777216) : Spec Tryz.prog 8 [(.a [.b s, .n false .u64 (Aj B32 x), .n false .u64 (Aj B32 y)]), .i .i64 n, .i .i64 m] (fun o => o = .ret (.t [(.a [.b b, .n false .u64 (Aj B32 Q)]), .b (decide ((Aq (Q : Int) : Int) ≤ 67108864))])) := by
  refine Au [(0, (.a [.b s, .n false .u64 (Aj B32 x), .n false .u64 (Aj B32 y)])), (1, .i .i64 n), (2, .i .i64 m)] rfl Tryz.func8 rfl (zlb rfl) fun Γ hN hds hL hR => ?_
  have hd := Bt 57 hN
  have dx := Nj lx
  have dy := Nj ly
  have hLx : Spec Tryz.prog 39 [.n false .u64 (Aj B32 x)] (fun o => o = .ret (.i .i64 (Aq (x : Int)))) := by have h := Q5 (x : Int) (by rw [dgN]; omega); rwa [dgN] at h
  have hLy : Spec Tryz.prog 39 [.n false .u64 (Aj B32 y)] (fun o => o = .ret (.i .i64 (Aq (y : Int)))) := by have h := Q5 (y : Int) (by rw [dgN]; omega); rwa [dgN] at h
  have hs0 : Aa4 (zs s x) ≠ 0 := fun h => hx (Agc.1 (Aa3.1 h))
  have hLq : Spec Tryz.prog 39 [.n false .u64 (Aj B32 Q)] (fun o => o = .ret (.i .i64 (Aq (Q : Int)))) := by have h := Q5 (Q : Int) (by rw [dgN]; omega); rwa [dgN] at h
  refine zsr <| A4 (By (id := 0) (n := 3) rfl rfl rfl (by decide) rfl) (hd 3 rfl) <| A4 (At (id := 1) C0 (by decide) rfl (by decide) rfl) (hd 6 rfl) <| zas rfl (hd 7 rfl) <| Aa <| Ae <| Ae <| Bu (n := 15) _ rfl Cg <| Av 0 [1, 2, 3, 4, 5, 6, 7, 8, 9, 10, 11, 12, 13, 14] (Al (Bm Dp rfl rfl rfl rfl) (hd 10 rfl)) rfl ?_
  refine B5 1 ?_ rfl (by kernel_rfl)
  refine Bp Tryz.f38 (Oj s x (Aj B32 y)) rfl Tryz.func38 rfl rfl (Ab rfl Ad) (.cons (.a1 .b (.a1 .n (.a1 .n .a0))) .nil) (hd 11 rfl) ?_ (fun ch hp => by simp at hp)
  rintro _ ⟨⟩; refine Av 2 [3, 4, 5, 6, 7, 8, 9, 10, 11, 12, 13, 14] (Al (Cq (Ec rfl rfl) hs0) (hd 12 rfl)) rfl <| zal 3 (Al (Ar rfl) (hd 13 rfl)) rfl <| Av 4 [5, 6, 9, 10, 12, 13, 14] (G7 13 rfl rfl (Bl Da rfl rfl rfl) (hd 14 rfl)) rfl <| Av 5 [6, 9, 10, 12, 13, 14] (G7 13 rfl rfl (Be Eo rfl rfl rfl) (hd 15 rfl)) rfl <| Av 7 [8, 9, 10, 12, 13, 14] (G7 13 rfl rfl (Bl Dz rfl rfl rfl) (hd 17 rfl)) rfl <| Av 8 [9, 10, 12, 13, 14] (G7 13 rfl rfl (Be Eo rfl rfl rfl) (hd 18 rfl)) rfl <| Av 11 [12, 13, 14] (G7 13 rfl rfl (Ar rfl) (hd 21 rfl)) rfl ?_
  refine B5 6 ?_ rfl (by kernel_rfl)
  refine Gc Tryz.f39 13 rfl rfl (hLx) rfl Tryz.func39 rfl rfl (Ab rfl Ad) (.cons .n .nil) (hd 16 rfl) ?_ (fun ch hp => by simp at hp)
  rintro y hy; injection hy with hy; subst hy
  refine B5 9 ?_ rfl (by kernel_rfl)
  refine Gc Tryz.f39 13 rfl rfl (hLy) rfl Tryz.func39 rfl rfl (Ab rfl Ad) (.cons .n .nil) (hd 19 rfl) ?_ (fun ch hp => by simp at hp)
  rintro _ ⟨⟩; refine Av 10 [12, 13, 14] (G7 13 rfl rfl (Bd rfl rfl (r := (Aq (x : Int) : Int) - (Aq (y : Int) : Int)) (by rw [Ag (by omega) (by omega)] <;> omega)) (hd 20 rfl)) rfl <| Av 12 [13, 14] (G7 13 rfl rfl (Aw rfl rfl (r := (Aq (x : Int) : Int) - (Aq (y : Int) : Int) + n) (by rw [Ag (by omega) (by omega)] <;> omega)) (hd 22 rfl)) rfl <| zal 13 (G7 13 rfl rfl (Bo (Ca rfl rfl) hov) (hd 23 rfl)) rfl <| zal 14 (Al (A9 rfl rfl) (hd 24 rfl)) rfl <| Bx (by kernel_rfl) <| A1 rfl <| Ai <| Ae <| Bu (n := 10) _ rfl Cg <| Av 0 [1, 2, 5, 6, 7, 8, 9] (Al (Bl Da rfl rfl rfl) (hd 26 rfl)) rfl <| Av 1 [2, 5, 6, 7, 8, 9] (Al (Be Eo rfl rfl rfl) (hd 27 rfl)) rfl <| Av 3 [4, 5, 6, 7, 8, 9] (Al (Bl Dz rfl rfl rfl) (hd 29 rfl)) rfl <| Av 4 [5, 6, 7, 8, 9] (Al (Be Eo rfl rfl rfl) (hd 30 rfl)) rfl ?_
  refine B5 2 ?_ rfl (by kernel_rfl)
  refine Bp Tryz.f39 (hLx) rfl Tryz.func39 rfl rfl (Ab rfl Ad) (.cons .n .nil) (hd 28 rfl) ?_ (fun ch hp => by simp at hp)
  rintro y hy; injection hy with hy; subst hy
  refine B5 5 ?_ rfl (by kernel_rfl)
  refine Bp Tryz.f39 (hLy) rfl Tryz.func39 rfl rfl (Ab rfl Ad) (.cons .n .nil) (hd 31 rfl) ?_ (fun ch hp => by simp at hp)
  rintro _ ⟨⟩; refine Av 6 [7, 8, 9] (Al (Bd rfl rfl (r := (Aq (x : Int) : Int) - (Aq (y : Int) : Int)) (by rw [Ag (by omega) (by omega)] <;> omega)) (hd 32 rfl)) rfl <| zal 7 (Al (I4 rfl (r := (Aq (y : Int) : Int) - (Aq (x : Int) : Int)) (by rw [Ag (by omega) (by omega)] <;> omega)) (hd 33 rfl)) rfl <| zal 8 (Al (Bd rfl rfl (r := ((Aq (y : Int) : Int) - (Aq (x : Int) : Int) - 4)) (by rw [Ag (by omega) (by omega)] <;> omega)) (hd 34 rfl)) rfl <| zal 9 (Al (Cm rfl) (hd 8 rfl)) rfl <| Bx (by kernel_rfl) ?_
  refine Ce (G := Unit) (fun _ => True) (fun _ => [(1, .i .i64 n1), (35, .u), (36, .u), (37, .u), (38, .u), (39, .u), (40, .u), (41, .u), (42, .u), (43, .u)]) ?_ ?_
  · refine zsr <| Ac (Bm Dp rfl rfl rfl rfl) (hd 35 rfl) ?_
    refine Ah Tryz.f38 (Oj s x (Aj B32 y)) rfl Tryz.func38 rfl rfl (Ab rfl Ad) (.cons (.a1 .b (.a1 .n (.a1 .n .a0))) .nil) (hd 36 rfl) ?_ (fun ch hp => by simp at hp)
    rintro _ ⟨⟩; refine Ac (Cq (Ec rfl rfl) hs0) (hd 37 rfl) <| zmv rfl (hd 38 rfl) <| Ay 38 rfl rfl (Ar rfl) (hd 39 rfl) <| Ay 38 rfl rfl (Ar rfl) (hd 40 rfl) <| Ay 38 rfl rfl (Br rfl rfl) (hd 41 rfl) <| Ac (A9 rfl rfl) (hd 42 rfl) <| Aa ?_
    refine Bg rfl (fun h2 => ?_) (fun h2 => ?_)
    · refine Af <| zmv rfl (hd 43 rfl) <| zas rfl (hd 1 rfl) <| Aa ?_
      refine ⟨(), ?_, rfl, A5 10 rfl rfl ?_⟩
      · trivial
      · exact (.cons (by show some (V.i _ _) = some (V.i _ _); first | rw [hn1, if_pos (by assumption)] | rw [hn1, if_neg (by assumption)]) (.v5 (.u (.u (.u (.u .nil))))))
    · refine Ai ?_
      refine ⟨(), ?_, rfl, A5 8 rfl rfl ?_⟩
      · trivial
      · exact (.cons (by show some (V.i _ _) = some (V.i _ _); first | rw [hn1, if_pos (by assumption)] | rw [hn1, if_neg (by assumption)]) (.v5 (.u (.u (.u (.u .nil))))))
  · rintro _ _; refine Ae <| zsr <| Ac (Bm Dp rfl rfl rfl rfl) (hd 44 rfl) ?_
    refine Ah Tryz.f38 (Oj s x (Aj B32 y)) rfl Tryz.func38 rfl rfl (Ab rfl Ad) (.cons (.a1 .b (.a1 .n (.a1 .n .a0))) .nil) (hd 45 rfl) ?_ (fun ch hp => by simp at hp)
    rintro _ ⟨⟩; refine Ac (Bo (Ch rfl rfl) hs0) (hd 46 rfl) <| Aa <| A1 rfl <| Ai <| zsr <| Ac (Bm Dp rfl rfl rfl rfl) (hd 47 rfl) <| zmv rfl (hd 48 rfl) ?_
    refine Ah Tryz.f41 (hSc) rfl Tryz.func41 rfl rfl (Ab rfl (Ab rfl Ad)) (.cons (.a1 .b (.a1 .n (.a1 .n .a0))) (.cons .i .nil)) (hd 49 rfl) ?_ (fun ch hp => by simp at hp)
    rintro _ ⟨⟩; refine zmv rfl (hd 50 rfl) ?_
    refine Ah Tryz.f40 (hRo) rfl Tryz.func40 rfl rfl (Ab rfl (Ab rfl Ad)) (.cons (.a1 .b (.a1 .n (.a1 .n .a0))) (.cons .i .nil)) (hd 51 rfl) ?_ (fun ch hp => by simp at hp)
    rintro _ ⟨⟩; refine A4 (At (id := 2) C0 (by decide) rfl (by decide) rfl) (hd 9 rfl) <| A6 (Ak rfl rfl rfl D6 rfl rfl (zlb rfl)) <| Aa <| Ae <| Bu (n := 7) _ rfl Cg <| zal 0 (Al (Bm Ef rfl rfl rfl rfl) (hd 52 rfl)) rfl <| Av 1 [2, 3, 4, 5, 6] (Al (Bl Li rfl rfl rfl) (hd 53 rfl)) rfl <| Av 2 [3, 4, 5, 6] (Al (Be Eo rfl rfl rfl) (hd 54 rfl)) rfl ?_
    refine B5 3 ?_ rfl (by kernel_rfl)
    refine Bp Tryz.f39 (hLq) rfl Tryz.func39 rfl rfl (Ab rfl Ad) (.cons .n .nil) (hd 55 rfl) ?_ (fun ch hp => by simp at hp)
    rintro y hy; injection hy with hy; subst hy
    refine O8 4 5 ?_ ?_ rfl rfl (by kernel_rfl)
    · refine Ae4 (J5 rfl rfl) (hd 56 rfl) ?_
      refine B5 5 ?_ rfl (by kernel_rfl)
      refine D1 (Ak rfl rfl rfl D6 rfl rfl (zlb rfl)) rfl <| zal 6 (Al (Cm rfl) (hd 7 rfl)) rfl <| Bx (by kernel_rfl) <| Ao ?_
      refine ⟨_, _, (.cons (ResV.cell Ef rfl rfl rfl rfl) (.cons rfl .nil)), (.t1 (.a1 .b (.a1 .n .a0)) (.t1 .b .t0)), ?_⟩
      exact rfl
    · refine D1 (Ak rfl rfl rfl D6 rfl rfl (zlb rfl)) rfl <| zal 4 (Al (J5 rfl rfl) (hd 56 rfl)) rfl <| zal 6 (Al (Cm rfl) (hd 7 rfl)) rfl <| Bx (by kernel_rfl) <| Ao ?_
      refine ⟨_, _, (.cons (ResV.cell Ef rfl rfl rfl rfl) (.cons rfl .nil)), (.t1 (.a1 .b (.a1 .n .a0)) (.t1 .b .t0)), ?_⟩
      exact rfl

theorem Nl (k : Int) (s t : Bool) (a b : List Int) (v w : Int) (la : a.length < 1099511627776) (lb : b.length < 1099511627776) (ua : Az a) (ub : Az b) (ev : sv s a = v) (ew : sv t b = w) (hv : (lm v).length ≤ 8388608)  (hqn : 67108864 < Aq (qn v w)) (hql : (lm (qn v w)).length ≤ 8388608) (hw : Aq w ≤ 67108864) (h0 : w ≠ 0) : Spec Tryz.prog 69 [.a [.b s, .n false .u64 a], .a [.b t, .n false .u64 b], .i .i64 k] (fun o => o = .ret (.t [(.a [.b false, .n false .u64 []]), (.a [.b false, .n false .u64 []]), .i .i64 3])) := by
  refine Au [(0, .a [.b s, .n false .u64 a]), (1, .a [.b t, .n false .u64 b]), (2, .i .i64 k)] rfl Tryz.func69 rfl (zlb rfl) fun Γ hN hds hL hR => ?_
  have hd := Bt 103 hN
  have hlw := Bv hw
  refine zsr <| A4 (By (id := 0) (n := 2) rfl rfl rfl (by decide) rfl) (hd 3 rfl) <| A4 (By (id := 1) (n := 2) rfl rfl rfl (by decide) rfl) (hd 4 rfl) <| A4 (At (id := 2) A7 (by decide) rfl (by decide) rfl) (hd 6 rfl) <| A4 (At (id := 3) A7 (by decide) rfl (by decide) rfl) (hd 7 rfl) <| zas rfl (hd 8 rfl) <| Aa <| Ae <| Bu (n := 6) _ rfl Cg <| Av 0 [1, 3, 4, 5] (Al (Bm B0 rfl rfl rfl rfl) (hd 16 rfl)) rfl <| Av 2 [3, 4, 5] (Al (Bm B0 rfl rfl rfl rfl) (hd 18 rfl)) rfl ?_
  refine B5 1 ?_ rfl (by kernel_rfl)
  refine Bp Tryz.f101 (L6 s a v la ua ev) rfl Tryz.func101 rfl rfl (Ab rfl Ad) (.cons (.a1 .b (.a1 .n .a0)) .nil) (hd 17 rfl) ?_ (fun ch hp => by simp at hp)
  rintro y hy; injection hy with hy; subst hy
  refine B5 3 ?_ rfl (by kernel_rfl)
  refine Bp Tryz.f101 (L6 t b w lb ub ew) rfl Tryz.func101 rfl rfl (Ab rfl Ad) (.cons (.a1 .b (.a1 .n .a0)) .nil) (hd 19 rfl) ?_ (fun ch hp => by simp at hp)
  rintro y hy; injection hy with hy; subst hy
  refine B5 4 ?_ rfl (by kernel_rfl)
  refine D1 (Ak rfl rfl rfl B8 rfl rfl (zlb rfl)) rfl ?_
  refine B5 5 ?_ rfl (by kernel_rfl)
  refine D1 (Ak rfl rfl rfl B8 rfl rfl (zlb rfl)) rfl <| Bx (by kernel_rfl) <| zsr <| Ac (Bl Cw rfl rfl rfl) (hd 21 rfl) <| Ac (Be D8 rfl rfl rfl) (hd 22 rfl) <| Ac (Bl Cw rfl rfl rfl) (hd 23 rfl) <| Ac (Be D8 rfl rfl rfl) (hd 24 rfl) ?_
  refine Ah Tryz.f102 (Both_O v w hv hqn hql hw h0) rfl Tryz.func102 rfl rfl (Ab rfl (Ab rfl Ad)) (.cons .n (.cons .n .nil)) (hd 25 rfl) ?_ (fun ch hp => by simp at hp)
  rintro _ ⟨⟩; refine zmv rfl (hd 20 rfl) <| Ac (Am rfl rfl) (hd 26 rfl) <| Ac (Am rfl rfl) (hd 27 rfl) <| Ac (Am rfl rfl) (hd 28 rfl) <| zas rfl (hd 9 rfl) <| zas rfl (hd 10 rfl) <| zas rfl (hd 11 rfl) <| Aa <| Ae <| zsr <| zmv rfl (hd 29 rfl) <| Ac (Cq (Ec rfl rfl) (by decide)) (hd 30 rfl) ?_; refine Aa <| B4 rfl <| zsr <| Ac (Bn (is := []) (xs := []) (pls := []) A7 Gl rfl Ad rfl trivial (B7 rfl) rfl) (hd 31 rfl) <| Ac (Bn (is := []) (xs := []) (pls := []) A7 Gl rfl Ad rfl trivial (B7 rfl) rfl) (hd 32 rfl) <| zmv rfl (hd 33 rfl) <| A6 (Ak rfl rfl rfl B8 rfl rfl (zlb rfl)) <| A6 (Ak rfl rfl rfl B8 rfl rfl (zlb rfl)) <| zas rfl (hd 8 rfl) <| Aa <| Ao ?_
  refine ⟨_, _, (.cons (ResV.cell B0 rfl rfl rfl rfl) (.cons (ResV.cell B0 rfl rfl rfl rfl) (.cons rfl .nil))), (.t1 (.a1 .b (.a1 (.nil (fr := false) (k := .u64)) .a0)) (.t1 (.a1 .b (.a1 (.nil (fr := false) (k := .u64)) .a0)) (.t1 .i .t0))), ?_⟩
  exact rfl

theorem Nk (k : Nat) (F : FuncId) (fnF : Func) (hk : k < 5) (hcell : [V.f 117 [], V.f 118 [], V.f 119 [], V.f 120 [], V.f 122 []][k]? = some (V.f F [])) (hfn : Tryz.prog.funcs[F]? = some fnF) (hfb : fnF.body.isSome = true) (hfx : (fnF.name == "runtime.NumGoroutine") = false) (s t : Bool) (a b : List Int) (v w : Int) (la : a.length < 1099511627776) (lb : b.length < 1099511627776) (ua : Az a) (ub : Az b) (ev : sv s a = v) (ew : sv t b = w) (hv : (lm v).length ≤ 8388608)  (hqn : Aq (qn v w) ≤ 67108864) (hrn : rn v w ≠ 0) (hg : gro k v w = true) (ho : 67108864 < Aq (qn v w + 1)) (hw : Aq w ≤ 67108864) (h0 : w ≠ 0) (hway : Spec Tryz.prog F [.n false .u64 (lm (qn v w)), .n false .u64 (lm (rn v w)), .n false .u64 (lm w), .b (ng v w), .b (decide (w < 0)), .b (decide (v < 0))] (fun o => o = .ret (.b (gro k v w))))  : Spec Tryz.prog 69 [.a [.b s, .n false .u64 a], .a [.b t, .n false .u64 b], .i .i64 (k : Int)] (fun o => o = .ret (.t [(.a [.b false, .n false .u64 []]), (.a [.b false, .n false .u64 []]), .i .i64 3])) := by
  refine Au [(0, .a [.b s, .n false .u64 a]), (1, .a [.b t, .n false .u64 b]), (2, .i .i64 (k : Int))] rfl Tryz.func69 rfl (zlb rfl) fun Γ hN hds hL hR => ?_
  have hd := Bt 103 hN
  have hlw := Bv hw
  obtain ⟨hx, hr0, hr1, hq0⟩ := E9 (v := v) h0
  have hlq := Bv hqn
  have hlr := Cc (v := rn v w) (w := w) (Ms h0).1
  have hlR := Bv (v := rn v w) (by omega)
  refine zsr <| A4 (By (id := 0) (n := 2) rfl rfl rfl (by decide) rfl) (hd 3 rfl) <| A4 (By (id := 1) (n := 2) rfl rfl rfl (by decide) rfl) (hd 4 rfl) <| A4 (At (id := 2) A7 (by decide) rfl (by decide) rfl) (hd 6 rfl) <| A4 (At (id := 3) A7 (by decide) rfl (by decide) rfl) (hd 7 rfl) <| zas rfl (hd 8 rfl) <| Aa <| Ae <| Bu (n := 6) _ rfl Cg <| Av 0 [1, 3, 4, 5] (Al (Bm B0 rfl rfl rfl rfl) (hd 16 rfl)) rfl <| Av 2 [3, 4, 5] (Al (Bm B0 rfl rfl rfl rfl) (hd 18 rfl)) rfl ?_
  refine B5 1 ?_ rfl (by kernel_rfl)
  refine Bp Tryz.f101 (L6 s a v la ua ev) rfl Tryz.func101 rfl rfl (Ab rfl Ad) (.cons (.a1 .b (.a1 .n .a0)) .nil) (hd 17 rfl) ?_ (fun ch hp => by simp at hp)
  rintro y hy; injection hy with hy; subst hy
  refine B5 3 ?_ rfl (by kernel_rfl)
  refine Bp Tryz.f101 (L6 t b w lb ub ew) rfl Tryz.func101 rfl rfl (Ab rfl Ad) (.cons (.a1 .b (.a1 .n .a0)) .nil) (hd 19 rfl) ?_ (fun ch hp => by simp at hp)
  rintro y hy; injection hy with hy; subst hy
  refine B5 4 ?_ rfl (by kernel_rfl)
  refine D1 (Ak rfl rfl rfl B8 rfl rfl (zlb rfl)) rfl ?_
  refine B5 5 ?_ rfl (by kernel_rfl)
  refine D1 (Ak rfl rfl rfl B8 rfl rfl (zlb rfl)) rfl <| Bx (by kernel_rfl) <| zsr <| Ac (Bl Cw rfl rfl rfl) (hd 21 rfl) <| Ac (Be D8 rfl rfl rfl) (hd 22 rfl) <| Ac (Bl Cw rfl rfl rfl) (hd 23 rfl) <| Ac (Be D8 rfl rfl rfl) (hd 24 rfl) ?_
  refine Ah Tryz.f102 (Ach v w hv hqn hw h0) rfl Tryz.func102 rfl rfl (Ab rfl (Ab rfl Ad)) (.cons .n (.cons .n .nil)) (hd 25 rfl) ?_ (fun ch hp => by simp at hp)
  rintro _ ⟨⟩; refine zmv rfl (hd 20 rfl) <| Ac (Am rfl rfl) (hd 26 rfl) <| Ac (Am rfl rfl) (hd 27 rfl) <| Ac (Am rfl rfl) (hd 28 rfl) <| zas rfl (hd 9 rfl) <| zas rfl (hd 10 rfl) <| zas rfl (hd 11 rfl) <| Aa <| Ae <| zsr <| zmv rfl (hd 29 rfl) <| Ac (Bo (Ec rfl rfl) (by simp)) (hd 30 rfl) ?_; refine Aa <| A1 rfl <| Ai <| Ae <| Bu (n := 9) _ rfl Cg <| Av 0 [1, 4, 7, 8] (Al (Bl Dm rfl rfl rfl) (hd 34 rfl)) rfl <| zal 1 (Al (Be Ir rfl rfl rfl) (hd 35 rfl)) rfl <| Av 2 [3, 4, 7, 8] (Al (Bl Dm rfl rfl rfl) (hd 36 rfl)) rfl <| zal 3 (Al (Be Ir rfl rfl rfl) (hd 37 rfl)) rfl <| zal 4 (Al (Ba (Vi und4 rfl rfl) (show V.b _ = V.b (ng v w) from rfl)) (hd 38 rfl)) rfl <| zal 5 (Al (Bl Dm rfl rfl rfl) (hd 39 rfl)) rfl <| zal 6 (Al (Be Ir rfl rfl rfl) (hd 40 rfl)) rfl <| zal 7 (Al (Cm rfl) (hd 12 rfl)) rfl ?_; refine zal 8 (Al (Cm rfl) (hd 13 rfl)) rfl <| Bx (by kernel_rfl) <| Ae <| Ae <| Bu (n := 18) _ rfl Cg <| Av 0 [1, 2, 3, 4, 5, 6, 7, 8, 9, 10, 11, 12, 13, 14, 15, 16, 17] (Al (Ar rfl) (hd 41 rfl)) rfl ?_
  refine B5 1 ?_ rfl (by kernel_rfl)
  refine Bp Tryz.f30 (Di (rn v w) (by omega)) rfl Tryz.func30 rfl rfl (Ab rfl Ad) (.cons .n .nil) (hd 42 rfl) ?_ (fun ch hp => by simp at hp)
  rintro _ ⟨⟩; refine Av 2 [3, 4, 5, 6, 7, 8, 9, 10, 11, 12, 13, 14, 15, 16, 17] (Al (Ca rfl rfl) (hd 43 rfl)) rfl <| zal 3 (Al (Ar rfl) (hd 44 rfl)) rfl ?_
  refine Abw 44 rfl (fun h2 => ?_) (fun h2 => ?_)
  · refine Av 5 [6, 16, 17] (G7 44 rfl rfl (Ar rfl) (hd 46 rfl)) rfl <| Av 7 [16, 17] (G7 44 rfl rfl (Ar rfl) (hd 48 rfl)) rfl <| Av 8 [16, 17] (G7 44 rfl rfl (Ar rfl) (hd 49 rfl)) rfl <| Av 9 [10, 16, 17] (G7 44 rfl rfl (Bl Cw rfl rfl rfl) (hd 50 rfl)) rfl <| Av 10 [16, 17] (G7 44 rfl rfl (Be D8 rfl rfl rfl) (hd 51 rfl)) rfl <| Av 11 [16, 17] (G7 44 rfl rfl (Ar rfl) (hd 52 rfl)) rfl <| Av 12 [13, 16, 17] (G7 44 rfl rfl (Bl Dm rfl rfl rfl) (hd 53 rfl)) rfl <| Av 13 [16, 17] (G7 44 rfl rfl (Be Ir rfl rfl rfl) (hd 54 rfl)) rfl <| Av 14 [15, 16, 17] (G7 44 rfl rfl (Bl Dm rfl rfl rfl) (hd 55 rfl)) rfl <| Av 15 [16, 17] (G7 44 rfl rfl (Be Ir rfl rfl rfl) (hd 56 rfl)) rfl ?_
    refine B5 4 ?_ rfl (by kernel_rfl)
    refine Gc Tryz.f103 44 rfl rfl (Aag) rfl Tryz.func103 rfl rfl Ad .nil (hd 45 rfl) ?_ (fun ch hp => by simp at hp)
    rintro _ ⟨⟩; refine Av 6 [16, 17] (G7 44 rfl rfl (Abp (i := k) Tr Abk rfl rfl rfl hk hcell) (hd 47 rfl)) rfl ?_
    refine B5 16 ?_ rfl (by kernel_rfl)
    refine Gc fnF 44 rfl rfl hway rfl hfn hfb hfx (Ab rfl (Ab rfl (Ab rfl (Ab rfl (Ab rfl (Ab rfl Ad)))))) (.cons .n (.cons .n (.cons .n (.cons .b (.cons .b (.cons .b .nil)))))) (hd 57 rfl) ?_ (fun ch hp => by simp at hp)
    rintro _ ⟨⟩; refine zal 17 (Al (A9 rfl rfl) (hd 58 rfl)) rfl <| Bx (by kernel_rfl) ?_
    refine Fm rfl (fun h3 => ?_) (fun h3 => ?_)
    · refine Ae <| zsr <| zmv rfl (hd 60 rfl) ?_
      refine Ah Tryz.f35 (Xj) rfl Tryz.func35 rfl rfl (Ab rfl Ad) (.cons .i .nil) (hd 61 rfl) ?_ (fun ch hp => by simp at hp)
      rintro y hy; injection hy with hy; subst hy
      refine Ah Tryz.f104 (Add1_O (qn v w) hq0 hqn ho) rfl Tryz.func104 rfl rfl (Ab rfl (Ab rfl Ad)) (.cons .n (.cons .n .nil)) (hd 62 rfl) ?_ (fun ch hp => by simp at hp)
      rintro _ ⟨⟩; refine zmv rfl (hd 59 rfl) <| Ac (Am rfl rfl) (hd 63 rfl) <| Ac (Am rfl rfl) (hd 64 rfl) <| zas rfl (hd 9 rfl) <| zas rfl (hd 11 rfl) <| Aa <| zsr <| zmv rfl (hd 65 rfl) <| Ac (Cq (Ec rfl rfl) (by decide)) (hd 66 rfl) <| Aa <| B4 rfl <| Ae ?_; refine Af <| Ac (Bn (is := []) (xs := []) (pls := []) A7 Gl rfl Ad rfl trivial (B7 rfl) rfl) (hd 67 rfl) <| Ac (Bn (is := []) (xs := []) (pls := []) A7 Gl rfl Ad rfl trivial (B7 rfl) rfl) (hd 68 rfl) <| zmv rfl (hd 69 rfl) <| A6 (Ak rfl rfl rfl B8 rfl rfl (zlb rfl)) <| A6 (Ak rfl rfl rfl B8 rfl rfl (zlb rfl)) <| zas rfl (hd 8 rfl) <| Aa <| Ao ?_
      refine ⟨_, _, (.cons (ResV.cell B0 rfl rfl rfl rfl) (.cons (ResV.cell B0 rfl rfl rfl rfl) (.cons rfl .nil))), (.t1 (.a1 .b (.a1 (.nil (fr := false) (k := .u64)) .a0)) (.t1 (.a1 .b (.a1 (.nil (fr := false) (k := .u64)) .a0)) (.t1 .i .t0))), ?_⟩
      exact rfl
    · exact absurd (hg.symm.trans h3) (by decide)
  · exact absurd (Vv.1 (by omega)) hrn

theorem Ti {k : Nat} {v w : Int} (hw : w ≠ 0) (h : 67108864 < Aq (wq k v w)) : 67108864 < Aq (qn v w) ∨ (Aq (qn v w) ≤ 67108864 ∧ rn v w ≠ 0 ∧ gro k v w = true ∧ 67108864 < Aq (qn v w + 1)) := by
  rcases Nat.lt_or_ge 67108864 (Aq (qn v w)) with h1 | h1
  · exact .inl h1
  · right
    obtain ⟨hx, h0, h2, h3⟩ := E9 (v := v) hw
    by_cases hr : rn v w ≠ 0 ∧ gro k v w = true
    · have e := (Ji hw hr.1 hr.2).1
      have e2 : Aq (wq k v w) ≤ Aq (qn v w + 1) := by rw [← e]; exact Cc (by rw [Fx]; exact Nat.le_refl _)
      exact ⟨h1, hr.1, hr.2, by omega⟩
    · have e := (Lt (k := k) hw (v := v) (by
        by_cases h4 : rn v w = 0
        · exact .inl h4
        · right; cases h5 : gro k v w
          · rfl
          · exact absurd ⟨h4, h5⟩ hr)).1
      have e2 : Aq (wq k v w) ≤ Aq (qn v w) := by rw [← e]; exact Cc (by rw [Fx]; exact Nat.le_refl _)
      omega
theorem M0 {v w : Int} (h : (lm v).length ≤ 8388608) : (lm (qn v w)).length ≤ 8388608 := by
  refine Nat.le_trans ?_ h
  unfold lm
  refine Hr (by decide) _ _ ?_
  show ((v.natAbs : Int) / (w.natAbs : Int)).natAbs ≤ v.natAbs
  rw [← Int.natCast_ediv, Int.natAbs_natCast]
  exact Nat.div_le_self _ _

theorem Wp (s t : Bool) (a b : List Int) (v w : Int) (la : a.length < 1099511627776) (lb : b.length < 1099511627776) (ua : Az a) (ub : Az b) (ev : sv s a = v) (ew : sv t b = w) (hv : (lm v).length ≤ 8388608)  (hqw : 67108864 < Aq (wq 1 v w)) (hw : Aq w ≤ 67108864) (h0 : w ≠ 0) : Spec Tryz.prog 69 [.a [.b s, .n false .u64 a], .a [.b t, .n false .u64 b], .i .i64 1] (fun o => o = .ret (.t [(.a [.b false, .n false .u64 []]), (.a [.b false, .n false .u64 []]), .i .i64 3])) := by
  rcases Ti h0 hqw with h | ⟨hqn, h2, h3, h4⟩
  · exact Nl 1 s t a b v w la lb ua ub ev ew hv h (M0 hv) hw h0
  · exact Nk 1 _ Tryz.f118 (by decide) rfl Tryz.func118 rfl rfl s t a b v w la lb ua ub ev ew hv hqn h2 h3 h4 hw h0 (Aaj v w)

theorem Af3 (s t : Bool) (a b : List Int) (v w : Int) (la : a.length < 1099511627776) (lb : b.length < 1099511627776) (ua : Az a) (ub : Az b) (ev : sv s a = v) (ew : sv t b = w) (hv : (lm v).length ≤ 8388608)  (hqw : 67108864 < Aq (wq 1 v w)) (hw : Aq w ≤ 67108864) (h0 : w ≠ 0) : Spec Tryz.prog 26 [.a [.b s, .n false .u64 a], .a [.b t, .n false .u64 b]] (fun o => o = .ret (.t [(.a [.b false, .n false .u64 []]), (.a [.b false, .n false .u64 []]), .i .i64 3])) := by
  refine Au [(0, .a [.b s, .n false .u64 a]), (1, .a [.b t, .n false .u64 b])] rfl Tryz.func26 rfl (zlb rfl) fun Γ hN hds hL hR => ?_
  have hd := Bt 13 hN
  refine zsr <| A4 (By (id := 0) (n := 2) rfl rfl rfl (by decide) rfl) (hd 2 rfl) <| A4 (By (id := 1) (n := 2) rfl rfl rfl (by decide) rfl) (hd 3 rfl) <| A4 (At (id := 2) A7 (by decide) rfl (by decide) rfl) (hd 4 rfl) <| A4 (At (id := 3) A7 (by decide) rfl (by decide) rfl) (hd 5 rfl) <| zas rfl (hd 6 rfl) <| Aa <| zsr <| Ac (Bm B0 rfl rfl rfl rfl) (hd 7 rfl) <| Ac (Bm B0 rfl rfl rfl rfl) (hd 8 rfl) ?_
  refine Ah Tryz.f69 (Wp s t a b v w la lb ua ub ev ew hv hqw hw h0) rfl Tryz.func69 rfl rfl (Ab rfl (Ab rfl (Ab rfl Ad))) (.cons (.a1 .b (.a1 .n .a0)) (.cons (.a1 .b (.a1 .n .a0)) (.cons .i .nil))) (hd 9 rfl) ?_ (fun ch hp => by simp at hp)
  rintro _ ⟨⟩; refine Ac (Am rfl rfl) (hd 10 rfl) <| Ac (Am rfl rfl) (hd 11 rfl) <| Ac (Am rfl rfl) (hd 12 rfl) <| A6 (Ak rfl rfl rfl B8 rfl rfl (zlb rfl)) <| A6 (Ak rfl rfl rfl B8 rfl rfl (zlb rfl)) <| zas rfl (hd 6 rfl) <| Aa <| Ao ?_
  refine ⟨_, _, (.cons (ResV.cell B0 rfl rfl rfl rfl) (.cons (ResV.cell B0 rfl rfl rfl rfl) (.cons rfl .nil))), (.t1 (.a1 .b (.a1 .n .a0)) (.t1 (.a1 .b (.a1 .n .a0)) (.t1 .i .t0))), ?_⟩
  exact rfl

theorem Wo (s t : Bool) (a b : List Int) (v w : Int) (la : a.length < 1099511627776) (lb : b.length < 1099511627776) (ua : Az a) (ub : Az b) (ev : sv s a = v) (ew : sv t b = w) (hv : (lm v).length ≤ 8388608)  (hqw : 67108864 < Aq (wq 2 v w)) (hw : Aq w ≤ 67108864) (h0 : w ≠ 0) : Spec Tryz.prog 69 [.a [.b s, .n false .u64 a], .a [.b t, .n false .u64 b], .i .i64 2] (fun o => o = .ret (.t [(.a [.b false, .n false .u64 []]), (.a [.b false, .n false .u64 []]), .i .i64 3])) := by
  rcases Ti h0 hqw with h | ⟨hqn, h2, h3, h4⟩
  · exact Nl 2 s t a b v w la lb ua ub ev ew hv h (M0 hv) hw h0
  · exact Nk 2 _ Tryz.f119 (by decide) rfl Tryz.func119 rfl rfl s t a b v w la lb ua ub ev ew hv hqn h2 h3 h4 hw h0 (Aai v w)

theorem Ceil_O (s t : Bool) (a b : List Int) (v w : Int) (la : a.length < 1099511627776) (lb : b.length < 1099511627776) (ua : Az a) (ub : Az b) (ev : sv s a = v) (ew : sv t b = w) (hv : (lm v).length ≤ 8388608)  (hqw : 67108864 < Aq (wq 2 v w)) (hw : Aq w ≤ 67108864) (h0 : w ≠ 0) : Spec Tryz.prog 27 [.a [.b s, .n false .u64 a], .a [.b t, .n false .u64 b]] (fun o => o = .ret (.t [(.a [.b false, .n false .u64 []]), (.a [.b false, .n false .u64 []]), .i .i64 3])) := by
  refine Au [(0, .a [.b s, .n false .u64 a]), (1, .a [.b t, .n false .u64 b])] rfl Tryz.func27 rfl (zlb rfl) fun Γ hN hds hL hR => ?_
  have hd := Bt 13 hN
  refine zsr <| A4 (By (id := 0) (n := 2) rfl rfl rfl (by decide) rfl) (hd 2 rfl) <| A4 (By (id := 1) (n := 2) rfl rfl rfl (by decide) rfl) (hd 3 rfl) <| A4 (At (id := 2) A7 (by decide) rfl (by decide) rfl) (hd 4 rfl) <| A4 (At (id := 3) A7 (by decide) rfl (by decide) rfl) (hd 5 rfl) <| zas rfl (hd 6 rfl) <| Aa <| zsr <| Ac (Bm B0 rfl rfl rfl rfl) (hd 7 rfl) <| Ac (Bm B0 rfl rfl rfl rfl) (hd 8 rfl) ?_
  refine Ah Tryz.f69 (Wo s t a b v w la lb ua ub ev ew hv hqw hw h0) rfl Tryz.func69 rfl rfl (Ab rfl (Ab rfl (Ab rfl Ad))) (.cons (.a1 .b (.a1 .n .a0)) (.cons (.a1 .b (.a1 .n .a0)) (.cons .i .nil))) (hd 9 rfl) ?_ (fun ch hp => by simp at hp)
  rintro _ ⟨⟩; refine Ac (Am rfl rfl) (hd 10 rfl) <| Ac (Am rfl rfl) (hd 11 rfl) <| Ac (Am rfl rfl) (hd 12 rfl) <| A6 (Ak rfl rfl rfl B8 rfl rfl (zlb rfl)) <| A6 (Ak rfl rfl rfl B8 rfl rfl (zlb rfl)) <| zas rfl (hd 6 rfl) <| Aa <| Ao ?_
  refine ⟨_, _, (.cons (ResV.cell B0 rfl rfl rfl rfl) (.cons (ResV.cell B0 rfl rfl rfl rfl) (.cons rfl .nil))), (.t1 (.a1 .b (.a1 .n .a0)) (.t1 (.a1 .b (.a1 .n .a0)) (.t1 .i .t0))), ?_⟩
  exact rfl

theorem Wn (s t : Bool) (a b : List Int) (v w : Int) (la : a.length < 1099511627776) (lb : b.length < 1099511627776) (ua : Az a) (ub : Az b) (ev : sv s a = v) (ew : sv t b = w) (hv : (lm v).length ≤ 8388608)  (hqw : 67108864 < Aq (wq 3 v w)) (hw : Aq w ≤ 67108864) (h0 : w ≠ 0) : Spec Tryz.prog 69 [.a [.b s, .n false .u64 a], .a [.b t, .n false .u64 b], .i .i64 3] (fun o => o = .ret (.t [(.a [.b false, .n false .u64 []]), (.a [.b false, .n false .u64 []]), .i .i64 3])) := by
  rcases Ti h0 hqw with h | ⟨hqn, h2, h3, h4⟩
  · exact Nl 3 s t a b v w la lb ua ub ev ew hv h (M0 hv) hw h0
  · exact Nk 3 _ Tryz.f120 (by decide) rfl Tryz.func120 rfl rfl s t a b v w la lb ua ub ev ew hv hqn h2 h3 h4 hw h0 (Aah v w hqn hw h0)

theorem Near_O (s t : Bool) (a b : List Int) (v w : Int) (la : a.length < 1099511627776) (lb : b.length < 1099511627776) (ua : Az a) (ub : Az b) (ev : sv s a = v) (ew : sv t b = w) (hv : (lm v).length ≤ 8388608)  (hqw : 67108864 < Aq (wq 3 v w)) (hw : Aq w ≤ 67108864) (h0 : w ≠ 0) : Spec Tryz.prog 28 [.a [.b s, .n false .u64 a], .a [.b t, .n false .u64 b]] (fun o => o = .ret (.t [(.a [.b false, .n false .u64 []]), (.a [.b false, .n false .u64 []]), .i .i64 3])) := by
  refine Au [(0, .a [.b s, .n false .u64 a]), (1, .a [.b t, .n false .u64 b])] rfl Tryz.func28 rfl (zlb rfl) fun Γ hN hds hL hR => ?_
  have hd := Bt 13 hN
  refine zsr <| A4 (By (id := 0) (n := 2) rfl rfl rfl (by decide) rfl) (hd 2 rfl) <| A4 (By (id := 1) (n := 2) rfl rfl rfl (by decide) rfl) (hd 3 rfl) <| A4 (At (id := 2) A7 (by decide) rfl (by decide) rfl) (hd 4 rfl) <| A4 (At (id := 3) A7 (by decide) rfl (by decide) rfl) (hd 5 rfl) <| zas rfl (hd 6 rfl) <| Aa <| zsr <| Ac (Bm B0 rfl rfl rfl rfl) (hd 7 rfl) <| Ac (Bm B0 rfl rfl rfl rfl) (hd 8 rfl) ?_
  refine Ah Tryz.f69 (Wn s t a b v w la lb ua ub ev ew hv hqw hw h0) rfl Tryz.func69 rfl rfl (Ab rfl (Ab rfl (Ab rfl Ad))) (.cons (.a1 .b (.a1 .n .a0)) (.cons (.a1 .b (.a1 .n .a0)) (.cons .i .nil))) (hd 9 rfl) ?_ (fun ch hp => by simp at hp)
  rintro _ ⟨⟩; refine Ac (Am rfl rfl) (hd 10 rfl) <| Ac (Am rfl rfl) (hd 11 rfl) <| Ac (Am rfl rfl) (hd 12 rfl) <| A6 (Ak rfl rfl rfl B8 rfl rfl (zlb rfl)) <| A6 (Ak rfl rfl rfl B8 rfl rfl (zlb rfl)) <| zas rfl (hd 6 rfl) <| Aa <| Ao ?_
  refine ⟨_, _, (.cons (ResV.cell B0 rfl rfl rfl rfl) (.cons (ResV.cell B0 rfl rfl rfl rfl) (.cons rfl .nil))), (.t1 (.a1 .b (.a1 .n .a0)) (.t1 (.a1 .b (.a1 .n .a0)) (.t1 .i .t0))), ?_⟩
  exact rfl

theorem Te (s : Bool) (l d : List Int) (n m : Int) (hn8 : -1099511627776 ≤ n) (hn9 : n ≤ 1099511627776) (hm0 : 0 ≤ m) (hm2 : m ≤ 2) (sg : Bool) (pl ql Q : List Int) (hAt : SpecT Tryz.prog 6 0 tzCells [(.a [.b s, .n false .u64 l, .n false .u64 d]), .i .i64 n, .i .i64 m] (fun o => o = .ret (.t [(.a [.b false, .c (.slice none 0 0)]), .i .i64 0]))) (hNu : Spec Tryz.prog 7 [(.a [.b s, .n false .u64 l, .n false .u64 d])] (fun o => o = .ret (.t [.a [.b sg, .n false .u64 pl, .n false .u64 ql], .b true]))) (hRf : Spec Tryz.prog 8 [.a [.b sg, .n false .u64 pl, .n false .u64 ql], .i .i64 n, .i .i64 m] (fun o => o = .ret (.t [.a [.b false, .n false .u64 Q], .b true]))) (hIs : Spec Tryz.prog 9 [.a [.b false, .n false .u64 []], .a [.b false, .n false .u64 Q]] (fun o => o = .ret (.b true))) : SpecT Tryz.prog 3 0 tzCells [(.a [.b s, .n false .u64 l, .n false .u64 d]), .i .i64 n, .i .i64 m] (fun o => o = .ret (.b true)) := by
  refine Hx [(0, (.a [.b s, .n false .u64 l, .n false .u64 d])), (1, .i .i64 n), (2, .i .i64 m)] rfl Tryz.func3 rfl (zlb rfl) fun Γ hTb hN hds hL hR => ?_
  have hd := Bt 86 hN
  refine zsr <| A4 (By (id := 0) (n := 3) rfl rfl rfl (by decide) rfl) (hd 3 rfl) <| zas rfl (hd 6 rfl) <| Aa <| zsr <| Ac (Bm B6 rfl rfl rfl rfl) (hd 15 rfl) <| zmv rfl (hd 16 rfl) <| zmv rfl (hd 17 rfl) ?_
  refine G0 Tryz.f6 (hAt) hL hTb rfl Tryz.func6 rfl rfl (Ab rfl (Ab rfl (Ab rfl Ad))) (.cons (.a1 .b (.a1 .n (.a1 .n .a0))) (.cons .i (.cons .i .nil))) (hd 18 rfl) ?_ (fun ch hp => by simp at hp)
  rintro _ ⟨⟩; refine zmv rfl (hd 14 rfl) <| Ac (Am rfl rfl) (hd 19 rfl) <| Ac (Am rfl rfl) (hd 20 rfl) <| A4 (At (id := 1) A7 (by decide) rfl (by decide) rfl) (hd 7 rfl) <| A6 (Ak rfl rfl rfl B8 rfl rfl (zlb rfl)) <| zas rfl (hd 8 rfl) <| Aa <| Ae <| Nb (id := 1) 1 71 1 rfl rfl rfl <| Lo (H' := [⟨27, 3, 0, true, [.b s, .n false .u64 l, .n false .u64 d]⟩, ⟨25, 2, 0, true, [.b false, .o 2 0 0 0]⟩, ⟨71, 1, 0, true, ints .u64 []⟩]) rfl <| Af <| Ac (Bm B6 rfl rfl rfl rfl) (hd 22 rfl) ?_
  refine Ah Tryz.f7 (hNu) rfl Tryz.func7 rfl rfl (Ab rfl Ad) (.cons (.a1 .b (.a1 .n (.a1 .n .a0))) .nil) (hd 23 rfl) ?_ (fun ch hp => by simp at hp)
  rintro _ ⟨⟩; refine zmv rfl (hd 21 rfl) <| Ac (Am rfl rfl) (hd 24 rfl) <| Ac (Am rfl rfl) (hd 25 rfl) <| A4 (At (id := 3) Dh (by decide) rfl (by decide) rfl) (hd 9 rfl) <| A6 (Ak rfl rfl rfl Fw rfl rfl (zlb rfl)) <| zas rfl (hd 10 rfl) <| Aa <| zsr <| zas rfl (hd 11 rfl) <| Aa <| Ae <| Ap ?_; refine zsr <| zmv rfl (hd 27 rfl) <| Ac (E1 rfl) (hd 28 rfl) <| zas rfl (hd 26 rfl) <| Aa <| A1 rfl <| zsr <| zmv rfl (hd 30 rfl) <| Ac (Bo (Br rfl rfl) (by omega)) (hd 31 rfl) <| zmv rfl (hd 32 rfl) <| Ay 32 rfl rfl (Ar rfl) (hd 33 rfl) ?_; refine Ay 32 rfl rfl (Bo (Ca rfl rfl) (by omega)) (hd 34 rfl) <| Ac (A3 rfl rfl) (hd 35 rfl) <| zas rfl (hd 29 rfl) <| Aa <| A1 rfl <| zsr <| zmv rfl (hd 37 rfl) <| Ac (Bo (Br rfl rfl) (by omega)) (hd 38 rfl) <| zmv rfl (hd 39 rfl) <| Ay 39 rfl rfl (Ar rfl) (hd 40 rfl) <| Ay 39 rfl rfl (Bo (Ca rfl rfl) (by omega)) (hd 41 rfl) <| Ac (A3 rfl rfl) (hd 42 rfl) ?_; refine zas rfl (hd 36 rfl) <| Aa <| A1 rfl <| Ai <| Ae <| zsr <| zmv rfl (hd 43 rfl) <| Ac (Cq (Ch rfl rfl) rfl) (hd 44 rfl) <| Aa <| B4 rfl <| Ae <| Af ?_; refine Ac (Bm Dp rfl rfl rfl rfl) (hd 46 rfl) <| zmv rfl (hd 47 rfl) <| zmv rfl (hd 48 rfl) ?_
  refine Ah Tryz.f8 (hRf) rfl Tryz.func8 rfl rfl (Ab rfl (Ab rfl (Ab rfl Ad))) (.cons (.a1 .b (.a1 .n (.a1 .n .a0))) (.cons .i (.cons .i .nil))) (hd 49 rfl) ?_ (fun ch hp => by simp at hp)
  rintro _ ⟨⟩; refine zmv rfl (hd 45 rfl) <| Ac (Am rfl rfl) (hd 50 rfl) <| Ac (Am rfl rfl) (hd 51 rfl) <| A4 (At (id := 4) C0 (by decide) rfl (by decide) rfl) (hd 12 rfl) <| A6 (Ak rfl rfl rfl D6 rfl rfl (zlb rfl)) <| zas rfl (hd 13 rfl) <| Aa <| Ae <| zsr <| zmv rfl (hd 52 rfl) <| Aa <| B4 rfl ?_; refine zsr <| zmv rfl (hd 53 rfl) <| Ac (Cq (Ch rfl rfl) rfl) (hd 54 rfl) <| zmv rfl (hd 55 rfl) <| Ay 55 rfl rfl (Bm B0 rfl rfl rfl rfl) (hd 56 rfl) <| Ay 55 rfl rfl (Bm Ef rfl rfl rfl rfl) (hd 57 rfl) ?_
  refine O4 Tryz.f9 55 rfl rfl (hIs) rfl Tryz.func9 rfl rfl (Ab rfl (Ab rfl Ad)) (.a1 (.a1 .b (.a1 (.o (l := []) rfl (Nat.le_refl _) rfl) .a0)) (.a1 (.a1 .b (.a1 .n .a0)) .a0)) (.cons (.a1 .b (.a1 .n .a0)) (.cons (.a1 .b (.a1 .n .a0)) .nil)) hL (fun y hy => by injection hy with hy; subst hy; rfl) (hd 58 rfl) ?_ (fun ch hp => by simp at hp)
  rintro _ ⟨⟩; refine Ac (A9 rfl rfl) (hd 59 rfl) <| zmv rfl (hd 60 rfl) <| Ay 60 rfl rfl (Bl Cw rfl rfl rfl) (hd 61 rfl) <| Ay 60 rfl rfl (Be D8 rfl rfl rfl) (hd 62 rfl) <| jo_hg 60 rfl rfl (Dl (id := 5) (xs := [.tmp 62]) el81 rfl (Ab rfl Ad) rfl (Cx rfl) (by decide) rfl) (hd 63 rfl) ?_
  refine O5 Tryz.f10 60 rfl rfl (sel := [5, 2]) (Own_s 1 (by decide) (rsOf [[]]) (fun j _ => Rn (by simp <;> omega) (by decide) j)) rfl Tryz.func10 rfl rfl (Ab rfl Ad) rfl rfl (.cons rfl rfl (.cons rfl (K0 _ _ _) .nil)) (by decide) Abj R3 (fun y G h => by cases h; rfl) (hd 64 rfl) ?_ (fun ch G hp => by cases hp)
  rintro y G hy; injection hy with hy; subst hy; refine Ac (A9 rfl rfl) (hd 65 rfl) <| zmv rfl (hd 66 rfl) ?_
  refine Dv Tryz.f11 66 rfl rfl (Kg) rfl Tryz.func11 rfl rfl Ad .nil (hd 67 rfl) ?_ (fun ch hp => by simp at hp)
  rintro _ ⟨⟩; refine Ac (A9 rfl rfl) (hd 68 rfl) <| zas rfl (hd 6 rfl) <| Aa <| Ao ?_
  refine ⟨_, _, (.cons rfl .nil), .b, ?_⟩
  exact rfl

theorem Tc (s : Bool) (l d : List Int) (n m : Int) (hn8 : -1099511627776 ≤ n) (hn9 : n ≤ 1099511627776) (hm0 : 0 ≤ m) (hm2 : m ≤ 2) (sg : Bool) (pl ql Q : List Int) (v : Int) (hv9 : Aq v ≤ 67108864) (hAt : Ll Tryz.prog 6 0 tzCells [(.a [.b s, .n false .u64 l, .n false .u64 d]), .i .i64 n, .i .i64 m] (fun o G => o = .ret (.t [.a [.b (decide (v < 0)), .o 0 0 0 (lm v).length], .i .i64 0]) ∧ G = [⟨71, 1, 0, true, ints .u64 (lm v)⟩])) (hNu : Spec Tryz.prog 7 [(.a [.b s, .n false .u64 l, .n false .u64 d])] (fun o => o = .ret (.t [.a [.b sg, .n false .u64 pl, .n false .u64 ql], .b true]))) (hRf : Spec Tryz.prog 8 [.a [.b sg, .n false .u64 pl, .n false .u64 ql], .i .i64 n, .i .i64 m] (fun o => o = .ret (.t [.a [.b (decide (v < 0)), .n false .u64 Q], .b true]))) (hIs : Spec Tryz.prog 9 [.a [.b (decide (v < 0)), .n false .u64 (lm v)], .a [.b (decide (v < 0)), .n false .u64 Q]] (fun o => o = .ret (.b true))) : SpecT Tryz.prog 3 0 tzCells [(.a [.b s, .n false .u64 l, .n false .u64 d]), .i .i64 n, .i .i64 m] (fun o => o = .ret (.b true)) := by
  refine Hx [(0, (.a [.b s, .n false .u64 l, .n false .u64 d])), (1, .i .i64 n), (2, .i .i64 m)] rfl Tryz.func3 rfl (zlb rfl) fun Γ hTb hN hds hL hR => ?_
  have hd := Bt 86 hN
  have hlv := Bv hv9
  refine zsr <| A4 (By (id := 0) (n := 3) rfl rfl rfl (by decide) rfl) (hd 3 rfl) <| zas rfl (hd 6 rfl) <| Aa <| zsr <| Ac (Bm B6 rfl rfl rfl rfl) (hd 15 rfl) <| zmv rfl (hd 16 rfl) <| zmv rfl (hd 17 rfl) ?_
  refine Vy Tryz.f6 (hAt) hL hTb (fun o G ⟨_, h⟩ => h ▸ An A8 Ax) rfl Tryz.func6 rfl rfl (Ab rfl (Ab rfl (Ab rfl Ad))) (.cons (.a1 .b (.a1 .n (.a1 .n .a0))) (.cons .i (.cons .i .nil))) (hd 18 rfl) ?_ (fun ch G hp => by simp at hp)
  rintro y G ⟨hy, rfl⟩; injection hy with hy; subst hy
  show JO _ _ _ _ ((18, .t [.a [.b (decide (v < 0)), .o 1 0 0 (lm v).length], .i .i64 0]) :: _) _ _
  refine zmv rfl (hd 14 rfl) <| Ac (Am rfl rfl) (hd 19 rfl) <| Ac (Am rfl rfl) (hd 20 rfl) <| A4 (At (id := 2) A7 (by decide) rfl (by decide) rfl) (hd 7 rfl) <| A6 (Ak rfl rfl rfl B8 rfl rfl (zlb rfl)) <| zas rfl (hd 8 rfl) <| Aa <| zsr <| Ac (Bm B6 rfl rfl rfl rfl) (hd 22 rfl) ?_
  refine Ah Tryz.f7 (hNu) rfl Tryz.func7 rfl rfl (Ab rfl Ad) (.cons (.a1 .b (.a1 .n (.a1 .n .a0))) .nil) (hd 23 rfl) ?_ (fun ch hp => by simp at hp)
  rintro _ ⟨⟩; refine zmv rfl (hd 21 rfl) <| Ac (Am rfl rfl) (hd 24 rfl) <| Ac (Am rfl rfl) (hd 25 rfl) <| A4 (At (id := 3) Dh (by decide) rfl (by decide) rfl) (hd 9 rfl) <| A6 (Ak rfl rfl rfl Fw rfl rfl (zlb rfl)) <| zas rfl (hd 10 rfl) <| Aa <| zsr <| zas rfl (hd 11 rfl) <| Aa <| Ae <| Ap ?_; refine zsr <| zmv rfl (hd 27 rfl) <| Ac (E1 rfl) (hd 28 rfl) <| zas rfl (hd 26 rfl) <| Aa <| A1 rfl <| zsr <| zmv rfl (hd 30 rfl) <| Ac (Bo (Br rfl rfl) (by omega)) (hd 31 rfl) <| zmv rfl (hd 32 rfl) <| Ay 32 rfl rfl (Ar rfl) (hd 33 rfl) ?_; refine Ay 32 rfl rfl (Bo (Ca rfl rfl) (by omega)) (hd 34 rfl) <| Ac (A3 rfl rfl) (hd 35 rfl) <| zas rfl (hd 29 rfl) <| Aa <| A1 rfl <| zsr <| zmv rfl (hd 37 rfl) <| Ac (Bo (Br rfl rfl) (by omega)) (hd 38 rfl) <| zmv rfl (hd 39 rfl) <| Ay 39 rfl rfl (Ar rfl) (hd 40 rfl) <| Ay 39 rfl rfl (Bo (Ca rfl rfl) (by omega)) (hd 41 rfl) <| Ac (A3 rfl rfl) (hd 42 rfl) ?_; refine zas rfl (hd 36 rfl) <| Aa <| A1 rfl <| Ai <| Ae <| zsr <| zmv rfl (hd 43 rfl) <| Ac (Cq (Ch rfl rfl) rfl) (hd 44 rfl) <| Aa <| B4 rfl <| Ae <| Af ?_; refine Ac (Bm Dp rfl rfl rfl rfl) (hd 46 rfl) <| zmv rfl (hd 47 rfl) <| zmv rfl (hd 48 rfl) ?_
  refine Ah Tryz.f8 (hRf) rfl Tryz.func8 rfl rfl (Ab rfl (Ab rfl (Ab rfl Ad))) (.cons (.a1 .b (.a1 .n (.a1 .n .a0))) (.cons .i (.cons .i .nil))) (hd 49 rfl) ?_ (fun ch hp => by simp at hp)
  rintro _ ⟨⟩; refine zmv rfl (hd 45 rfl) <| Ac (Am rfl rfl) (hd 50 rfl) <| Ac (Am rfl rfl) (hd 51 rfl) <| A4 (At (id := 4) C0 (by decide) rfl (by decide) rfl) (hd 12 rfl) <| A6 (Ak rfl rfl rfl D6 rfl rfl (zlb rfl)) <| zas rfl (hd 13 rfl) <| Aa <| Ae <| zsr <| zmv rfl (hd 52 rfl) <| Aa <| B4 rfl ?_; refine zsr <| zmv rfl (hd 53 rfl) <| Ac (Cq (Ch rfl rfl) rfl) (hd 54 rfl) <| zmv rfl (hd 55 rfl) <| Ay 55 rfl rfl (Bm B0 rfl rfl rfl rfl) (hd 56 rfl) <| Ay 55 rfl rfl (Bm Ef rfl rfl rfl rfl) (hd 57 rfl) ?_
  refine O4 Tryz.f9 55 rfl rfl (hIs) rfl Tryz.func9 rfl rfl (Ab rfl (Ab rfl Ad)) (.a1 (.a1 .b (.a1 (.o rfl (by simp) (by rw [List.drop_zero, List.take_length])) .a0)) (.a1 (.a1 .b (.a1 .n .a0)) .a0)) (.cons (.a1 .b (.a1 .n .a0)) (.cons (.a1 .b (.a1 .n .a0)) .nil)) hL (fun y hy => by injection hy with hy; subst hy; rfl) (hd 58 rfl) ?_ (fun ch hp => by simp at hp)
  rintro _ ⟨⟩; refine Ac (A9 rfl rfl) (hd 59 rfl) <| zmv rfl (hd 60 rfl) <| Ay 60 rfl rfl (Bl Cw rfl rfl rfl) (hd 61 rfl) <| Ay 60 rfl rfl (Be D8 rfl rfl rfl) (hd 62 rfl) <| jo_hg 60 rfl rfl (Dl (id := 5) (xs := [.tmp 62]) el81 rfl (Ab rfl Ad) rfl (Cx rfl) (by decide) rfl) (hd 63 rfl) ?_
  refine O5 Tryz.f10 60 rfl rfl (sel := [5, 1]) (Own_s 1 (by decide) (rsOf [(lm v)]) (fun j _ => Rn (by simp <;> omega) (by decide) j)) rfl Tryz.func10 rfl rfl (Ab rfl Ad) rfl rfl (.cons rfl rfl (.cons rfl (K0 _ _ _) .nil)) (by decide) Abj R3 (fun y G h => by cases h; rfl) (hd 64 rfl) ?_ (fun ch G hp => by cases hp)
  rintro y G hy; injection hy with hy; subst hy; refine Ac (A9 rfl rfl) (hd 65 rfl) <| zmv rfl (hd 66 rfl) ?_
  refine Dv Tryz.f11 66 rfl rfl (Kg) rfl Tryz.func11 rfl rfl Ad .nil (hd 67 rfl) ?_ (fun ch hp => by simp at hp)
  rintro _ ⟨⟩; refine Ac (A9 rfl rfl) (hd 68 rfl) <| zas rfl (hd 6 rfl) <| Aa <| Ao ?_
  refine ⟨_, _, (.cons rfl .nil), .b, ?_⟩
  exact rfl

theorem Td (s : Bool) (l d : List Int) (n m : Int) (hn8 : -1099511627776 ≤ n) (hn9 : n ≤ 1099511627776) (hm0 : 0 ≤ m) (hm2 : m ≤ 2) (bq : Bool) (Q : List Int) (sg : Bool) (pl ql : List Int) (hAt : SpecT Tryz.prog 6 0 tzCells [(.a [.b s, .n false .u64 l, .n false .u64 d]), .i .i64 n, .i .i64 m] (fun o => o = .ret (.t [(.a [.b false, .n false .u64 []]), .i .i64 3]))) (hNu : Spec Tryz.prog 7 [(.a [.b s, .n false .u64 l, .n false .u64 d])] (fun o => o = .ret (.t [.a [.b sg, .n false .u64 pl, .n false .u64 ql], .b true]))) (hRf : Spec Tryz.prog 8 [.a [.b sg, .n false .u64 pl, .n false .u64 ql], .i .i64 n, .i .i64 m] (fun o => o = .ret (.t [.a [.b bq, .n false .u64 Q], .b false]))) : SpecT Tryz.prog 3 0 tzCells [(.a [.b s, .n false .u64 l, .n false .u64 d]), .i .i64 n, .i .i64 m] (fun o => o = .ret (.b true)) := by
  refine Hx [(0, (.a [.b s, .n false .u64 l, .n false .u64 d])), (1, .i .i64 n), (2, .i .i64 m)] rfl Tryz.func3 rfl (zlb rfl) fun Γ hTb hN hds hL hR => ?_
  have hd := Bt 86 hN
  refine zsr <| A4 (By (id := 0) (n := 3) rfl rfl rfl (by decide) rfl) (hd 3 rfl) <| zas rfl (hd 6 rfl) <| Aa <| zsr <| Ac (Bm B6 rfl rfl rfl rfl) (hd 15 rfl) <| zmv rfl (hd 16 rfl) <| zmv rfl (hd 17 rfl) ?_
  refine G0 Tryz.f6 (hAt) hL hTb rfl Tryz.func6 rfl rfl (Ab rfl (Ab rfl (Ab rfl Ad))) (.cons (.a1 .b (.a1 .n (.a1 .n .a0))) (.cons .i (.cons .i .nil))) (hd 18 rfl) ?_ (fun ch hp => by simp at hp)
  rintro _ ⟨⟩; refine zmv rfl (hd 14 rfl) <| Ac (Am rfl rfl) (hd 19 rfl) <| Ac (Am rfl rfl) (hd 20 rfl) <| A4 (At (id := 1) A7 (by decide) rfl (by decide) rfl) (hd 7 rfl) <| A6 (Ak rfl rfl rfl B8 rfl rfl (zlb rfl)) <| zas rfl (hd 8 rfl) <| Aa <| zsr <| Ac (Bm B6 rfl rfl rfl rfl) (hd 22 rfl) ?_
  refine Ah Tryz.f7 (hNu) rfl Tryz.func7 rfl rfl (Ab rfl Ad) (.cons (.a1 .b (.a1 .n (.a1 .n .a0))) .nil) (hd 23 rfl) ?_ (fun ch hp => by simp at hp)
  rintro _ ⟨⟩; refine zmv rfl (hd 21 rfl) <| Ac (Am rfl rfl) (hd 24 rfl) <| Ac (Am rfl rfl) (hd 25 rfl) <| A4 (At (id := 2) Dh (by decide) rfl (by decide) rfl) (hd 9 rfl) <| A6 (Ak rfl rfl rfl Fw rfl rfl (zlb rfl)) <| zas rfl (hd 10 rfl) <| Aa <| zsr <| zas rfl (hd 11 rfl) <| Aa <| Ae <| Ap ?_; refine zsr <| zmv rfl (hd 27 rfl) <| Ac (E1 rfl) (hd 28 rfl) <| zas rfl (hd 26 rfl) <| Aa <| A1 rfl <| zsr <| zmv rfl (hd 30 rfl) <| Ac (Bo (Br rfl rfl) (by omega)) (hd 31 rfl) <| zmv rfl (hd 32 rfl) <| Ay 32 rfl rfl (Ar rfl) (hd 33 rfl) ?_; refine Ay 32 rfl rfl (Bo (Ca rfl rfl) (by omega)) (hd 34 rfl) <| Ac (A3 rfl rfl) (hd 35 rfl) <| zas rfl (hd 29 rfl) <| Aa <| A1 rfl <| zsr <| zmv rfl (hd 37 rfl) <| Ac (Bo (Br rfl rfl) (by omega)) (hd 38 rfl) <| zmv rfl (hd 39 rfl) <| Ay 39 rfl rfl (Ar rfl) (hd 40 rfl) <| Ay 39 rfl rfl (Bo (Ca rfl rfl) (by omega)) (hd 41 rfl) <| Ac (A3 rfl rfl) (hd 42 rfl) ?_; refine zas rfl (hd 36 rfl) <| Aa <| A1 rfl <| Ai <| Ae <| zsr <| zmv rfl (hd 43 rfl) <| Ac (Cq (Ch rfl rfl) rfl) (hd 44 rfl) <| Aa <| B4 rfl <| Ae <| Af ?_; refine Ac (Bm Dp rfl rfl rfl rfl) (hd 46 rfl) <| zmv rfl (hd 47 rfl) <| zmv rfl (hd 48 rfl) ?_
  refine Ah Tryz.f8 (hRf) rfl Tryz.func8 rfl rfl (Ab rfl (Ab rfl (Ab rfl Ad))) (.cons (.a1 .b (.a1 .n (.a1 .n .a0))) (.cons .i (.cons .i .nil))) (hd 49 rfl) ?_ (fun ch hp => by simp at hp)
  rintro _ ⟨⟩; refine zmv rfl (hd 45 rfl) <| Ac (Am rfl rfl) (hd 50 rfl) <| Ac (Am rfl rfl) (hd 51 rfl) <| A4 (At (id := 3) C0 (by decide) rfl (by decide) rfl) (hd 12 rfl) <| A6 (Ak rfl rfl rfl D6 rfl rfl (zlb rfl)) <| zas rfl (hd 13 rfl) <| Aa <| Ae <| zsr <| zmv rfl (hd 52 rfl) <| Aa <| A1 rfl ?_; refine Ai <| Af <| zas rfl (hd 11 rfl) <| Aa <| zsr <| zmv rfl (hd 69 rfl) <| zmv rfl (hd 70 rfl) <| Ac (Cq (Ch rfl rfl) rfl) (hd 71 rfl) <| zmv rfl (hd 72 rfl) <| Ay 72 rfl rfl (Bl Dm rfl rfl rfl) (hd 73 rfl) <| Ay 72 rfl rfl (Be Ir rfl rfl rfl) (hd 74 rfl) <| Ay 72 rfl rfl (E1 rfl) (hd 75 rfl) ?_; refine Ac (A9 rfl rfl) (hd 76 rfl) <| zmv rfl (hd 77 rfl) <| Ay 77 rfl rfl (Bl Cw rfl rfl rfl) (hd 78 rfl) <| Ay 77 rfl rfl (Be D8 rfl rfl rfl) (hd 79 rfl) <| Ay 77 rfl rfl (As Bc rfl) (hd 80 rfl) <| Ay 77 rfl rfl (Cq (Ch rfl rfl) rfl) (hd 81 rfl) <| Ac (A9 rfl rfl) (hd 82 rfl) <| zmv rfl (hd 83 rfl) ?_
  refine Dv Tryz.f11 83 rfl rfl (Kg) rfl Tryz.func11 rfl rfl Ad .nil (hd 84 rfl) ?_ (fun ch hp => by simp at hp)
  rintro _ ⟨⟩; refine Ac (A9 rfl rfl) (hd 85 rfl) <| zas rfl (hd 6 rfl) <| Aa <| Ao ?_
  refine ⟨_, _, (.cons rfl .nil), .b, ?_⟩
  exact rfl

theorem Ju (s : Bool) (l d : List Int) (n m : Int) (okb : Bool) (c : Int) (hc : c = if okb = false then 70 else if n < -1099511627776 ∨ n > 1099511627776 then 1 else if m < 0 ∨ m > 2 then 81 else 0) (hc0 : c ≠ 0) (sg : Bool) (pl ql : List Int) (hAt : SpecT Tryz.prog 6 0 tzCells [(.a [.b s, .n false .u64 l, .n false .u64 d]), .i .i64 n, .i .i64 m] (fun o => o = .ret (.t [(.a [.b false, .n false .u64 []]), .i .i64 c]))) (hNu : Spec Tryz.prog 7 [(.a [.b s, .n false .u64 l, .n false .u64 d])] (fun o => o = .ret (.t [.a [.b sg, .n false .u64 pl, .n false .u64 ql], .b okb])))  : SpecT Tryz.prog 3 0 tzCells [(.a [.b s, .n false .u64 l, .n false .u64 d]), .i .i64 n, .i .i64 m] (fun o => o = .ret (.b true)) := by
  refine Hx [(0, (.a [.b s, .n false .u64 l, .n false .u64 d])), (1, .i .i64 n), (2, .i .i64 m)] rfl Tryz.func3 rfl (zlb rfl) fun Γ hTb hN hds hL hR => ?_
  have hd := Bt 86 hN
  refine zsr <| A4 (By (id := 0) (n := 3) rfl rfl rfl (by decide) rfl) (hd 3 rfl) <| zas rfl (hd 6 rfl) <| Aa <| zsr <| Ac (Bm B6 rfl rfl rfl rfl) (hd 15 rfl) <| zmv rfl (hd 16 rfl) <| zmv rfl (hd 17 rfl) ?_
  refine G0 Tryz.f6 (hAt) hL hTb rfl Tryz.func6 rfl rfl (Ab rfl (Ab rfl (Ab rfl Ad))) (.cons (.a1 .b (.a1 .n (.a1 .n .a0))) (.cons .i (.cons .i .nil))) (hd 18 rfl) ?_ (fun ch hp => by simp at hp)
  rintro _ ⟨⟩; refine zmv rfl (hd 14 rfl) <| Ac (Am rfl rfl) (hd 19 rfl) <| Ac (Am rfl rfl) (hd 20 rfl) <| A4 (At (id := 1) A7 (by decide) rfl (by decide) rfl) (hd 7 rfl) <| A6 (Ak rfl rfl rfl B8 rfl rfl (zlb rfl)) <| zas rfl (hd 8 rfl) <| Aa <| zsr <| Ac (Bm B6 rfl rfl rfl rfl) (hd 22 rfl) ?_
  refine Ah Tryz.f7 (hNu) rfl Tryz.func7 rfl rfl (Ab rfl Ad) (.cons (.a1 .b (.a1 .n (.a1 .n .a0))) .nil) (hd 23 rfl) ?_ (fun ch hp => by simp at hp)
  rintro _ ⟨⟩; refine zmv rfl (hd 21 rfl) <| Ac (Am rfl rfl) (hd 24 rfl) <| Ac (Am rfl rfl) (hd 25 rfl) <| A4 (At (id := 2) Dh (by decide) rfl (by decide) rfl) (hd 9 rfl) <| A6 (Ak rfl rfl rfl Fw rfl rfl (zlb rfl)) <| zas rfl (hd 10 rfl) <| Aa <| zsr <| zas rfl (hd 11 rfl) <| Aa ?_
  refine Ce (G := Unit) (fun _ => True) (fun _ => [(11, .i .i64 c), (26, .u), (27, .u), (28, .u), (29, .u), (30, .u), (31, .u), (32, .u), (33, .u), (34, .u), (35, .u), (36, .u), (37, .u), (38, .u), (39, .u), (40, .u), (41, .u), (42, .u)]) ?_ ?_
  · refine Ap <| zsr <| zmv rfl (hd 27 rfl) <| Ac (E1 rfl) (hd 28 rfl) <| zas rfl (hd 26 rfl) <| Aa ?_
    refine Fm rfl (fun h1 => ?_) (fun h1 => ?_)
    · have k0 : okb = false := by simpa using h1
      refine Af <| zas rfl (hd 11 rfl) <| Aa ?_
      refine ⟨(), ?_, rfl, A5 4 rfl rfl ?_⟩
      · trivial
      · exact (.cons (by show some (V.i _ _) = some (V.i _ _); congr 2; rw [hc]; (repeat' split) <;> first | rfl | (exfalso; omega) | simp_all) (.v9 (.v5 (.u (.u .nil)))))
    · have k0 : okb = true := by simpa using h1
      refine zsr <| zmv rfl (hd 30 rfl) <| Ac (Br rfl rfl) (hd 31 rfl) <| zmv rfl (hd 32 rfl) ?_
      refine D4 32 rfl (fun h2 => ?_) (fun h2 => ?_)
      · have k1 := h2
        refine Bk 32 rfl rfl rfl (hd 33 rfl) <| Bk 32 rfl rfl rfl (hd 34 rfl) <| Ac (A9 rfl rfl) (hd 35 rfl) <| zas rfl (hd 29 rfl) <| Aa <| B4 rfl <| Af <| zas rfl (hd 11 rfl) <| Aa ?_
        refine ⟨(), ?_, rfl, A5 12 rfl rfl ?_⟩
        · trivial
        · exact (.cons (by show some (V.i _ _) = some (V.i _ _); congr 2; rw [hc]; (repeat' split) <;> first | rfl | (exfalso; omega) | simp_all) (.v9 (.v5 (.u (.u .nil)))))
      · have k1 := h2
        refine Ay 32 rfl rfl (Ar rfl) (hd 33 rfl) <| Ay 32 rfl rfl (Ca rfl rfl) (hd 34 rfl) <| Ac (A3 rfl rfl) (hd 35 rfl) <| zas rfl (hd 29 rfl) <| Aa ?_
        refine Bg rfl (fun h4 => ?_) (fun h4 => ?_)
        · have k2 := h4
          refine Af <| zas rfl (hd 11 rfl) <| Aa ?_
          refine ⟨(), ?_, rfl, A5 12 rfl rfl ?_⟩
          · trivial
          · exact (.cons (by show some (V.i _ _) = some (V.i _ _); congr 2; rw [hc]; (repeat' split) <;> first | rfl | (exfalso; omega) | simp_all) (.v9 (.v5 (.u (.u .nil)))))
        · have k2 := h4
          refine zsr <| zmv rfl (hd 37 rfl) <| Ac (Br rfl rfl) (hd 38 rfl) <| zmv rfl (hd 39 rfl) ?_
          refine D4 39 rfl (fun h5 => ?_) (fun h5 => ?_)
          · have k3 := h5
            refine Bk 39 rfl rfl rfl (hd 40 rfl) <| Bk 39 rfl rfl rfl (hd 41 rfl) <| Ac (A9 rfl rfl) (hd 42 rfl) <| zas rfl (hd 36 rfl) <| Aa <| B4 rfl <| Af <| zas rfl (hd 11 rfl) <| Aa ?_
            refine ⟨(), ?_, rfl, A5 20 rfl rfl ?_⟩
            · trivial
            · exact (.cons (by show some (V.i _ _) = some (V.i _ _); congr 2; rw [hc]; (repeat' split) <;> first | rfl | (exfalso; omega) | simp_all) (.v9 (.v5 (.u (.u .nil)))))
          · have k3 := h5
            refine Ay 39 rfl rfl (Ar rfl) (hd 40 rfl) <| Ay 39 rfl rfl (Ca rfl rfl) (hd 41 rfl) <| Ac (A3 rfl rfl) (hd 42 rfl) <| zas rfl (hd 36 rfl) <| Aa ?_
            refine Bg rfl (fun h7 => ?_) (fun h7 => ?_)
            · have k4 := h7
              refine Af <| zas rfl (hd 11 rfl) <| Aa ?_
              refine ⟨(), ?_, rfl, A5 20 rfl rfl ?_⟩
              · trivial
              · exact (.cons (by show some (V.i _ _) = some (V.i _ _); congr 2; rw [hc]; (repeat' split) <;> first | rfl | (exfalso; omega) | simp_all) (.v9 (.v5 (.u (.u .nil)))))
            · have k4 := h7
              refine Ai ?_
              refine ⟨(), ?_, rfl, A5 19 rfl rfl ?_⟩
              · trivial
              · exact (.cons (by show some (V.i _ _) = some (V.i _ _); congr 2; rw [hc]; (repeat' split) <;> first | rfl | (exfalso; omega) | simp_all) (.v9 (.v5 (.u (.u .nil)))))
  · rintro _ _; refine Ae <| zsr <| zmv rfl (hd 43 rfl) <| Ac (Bo (Ch rfl rfl) hc0) (hd 44 rfl) <| Aa <| A1 rfl <| Ai <| zsr <| zmv rfl (hd 69 rfl) <| zmv rfl (hd 70 rfl) <| Ac (Cq (Ch rfl rfl) rfl) (hd 71 rfl) ?_; refine zmv rfl (hd 72 rfl) <| Ay 72 rfl rfl (Bl Dm rfl rfl rfl) (hd 73 rfl) <| Ay 72 rfl rfl (Be Ir rfl rfl rfl) (hd 74 rfl) <| Ay 72 rfl rfl (E1 rfl) (hd 75 rfl) <| Ac (A9 rfl rfl) (hd 76 rfl) <| zmv rfl (hd 77 rfl) <| Ay 77 rfl rfl (Bl Cw rfl rfl rfl) (hd 78 rfl) <| Ay 77 rfl rfl (Be D8 rfl rfl rfl) (hd 79 rfl) <| Ay 77 rfl rfl (As Bc rfl) (hd 80 rfl) <| Ay 77 rfl rfl (Cq (Ch rfl rfl) rfl) (hd 81 rfl) <| Ac (A9 rfl rfl) (hd 82 rfl) <| zmv rfl (hd 83 rfl) ?_
    refine Dv Tryz.f11 83 rfl rfl (Kg) rfl Tryz.func11 rfl rfl Ad .nil (hd 84 rfl) ?_ (fun ch hp => by simp at hp)
    rintro _ ⟨⟩; refine Ac (A9 rfl rfl) (hd 85 rfl) <| zas rfl (hd 6 rfl) <| Aa <| Ao ?_
    refine ⟨_, _, (.cons rfl .nil), .b, ?_⟩
    exact rfl

theorem Aex {v : Int} {L : Nat} (h : Aq v ≤ L) : (lm v).length ≤ L / 64 + 1 := by
  refine E0 (by decide) (L / 64 + 1) v.natAbs (Nat.lt_of_lt_of_le (Cn.1 h) ?_)
  rw [show (18446744073709551616 : Nat) = 2 ^ 64 from rfl, ← Nat.pow_mul]
  exact Nat.pow_le_pow_right (by decide) (by omega)
theorem H3 {x L : Nat} (h : Aq (x : Int) ≤ L) : (lm (x : Int)).length ≤ L / 64 + 1 := Aex h
theorem Qw {x L : Nat} (h : Aq (x : Int) ≤ L) : (Aj B32 x).length ≤ L / 32 + 1 := by
  have h1 := Afq h
  rwa [dgN] at h1
theorem sv1 {s : Bool} : sv s [1] = zs s 1 := by cases s <;> rfl

theorem At_val (m : Nat) (F : FuncId) (fnF : Func) (hm : m < 3) (hcell : [V.f 26 [], V.f 27 [], V.f 28 []][m]? = some (V.f F [])) (hfn : Tryz.prog.funcs[F]? = some fnF) (hfb : fnF.body.isSome = true) (hfx : (fnF.name == "runtime.NumGoroutine") = false) (hWF : ∀ (s t : Bool) (a b : List Int) (v w : Int), a.length < 1099511627776 → b.length < 1099511627776 → Az a → Az b → sv s a = v → sv t b = w → (lm v).length ≤ 8388608 → Aq (wq (m + 1) v w) ≤ 67108864 → Aq w ≤ 67108864 → w ≠ 0 → SpecM Tryz.prog F [.a [.b s, .n false .u64 a], .a [.b t, .n false .u64 b]] [] (fun o G => o = .ret (.t [.a [.b (decide ((wq (m + 1) v w) < 0)), .o 0 0 0 (lm (wq (m + 1) v w)).length], .a [.b (decide ((v - wq (m + 1) v w * w) < 0)), .o 1 0 0 (lm (v - wq (m + 1) v w * w)).length], .i .i64 0]) ∧ G = [⟨71, 1, 0, true, ints .u64 (lm (wq (m + 1) v w))⟩, ⟨71, 1, 0, true, ints .u64 (lm (v - wq (m + 1) v w * w))⟩])) (hWO : ∀ (s t : Bool) (a b : List Int) (v w : Int), a.length < 1099511627776 → b.length < 1099511627776 → Az a → Az b → sv s a = v → sv t b = w → (lm v).length ≤ 8388608 → 67108864 < Aq (wq (m + 1) v w) → Aq w ≤ 67108864 → w ≠ 0 → Spec Tryz.prog F [.a [.b s, .n false .u64 a], .a [.b t, .n false .u64 b]] (fun o => o = .ret (.t [(.a [.b false, .n false .u64 []]), (.a [.b false, .n false .u64 []]), .i .i64 3]))) (s : Bool) (l d : List Int) (y0 : Nat) (hy0 : Rw d y0) (h00 : y0 ≠ 0) (n : Int) (hn8 : -1099511627776 ≤ n) (hn9 : n ≤ 1099511627776) (sg : Bool) (p q : Nat) (lp : Aq (p : Int) ≤ 67108800) (lq : Aq (q : Int) ≤ 67108800) (hPa : Spec Tryz.prog 29 [(.a [.b s, .n false .u64 l, .n false .u64 d])] (fun o => o = .ret (.t [.b sg, .n false .u64 (lm ((p : Nat) : Int)), .n false .u64 (lm ((q : Nat) : Int))]))) (hp : p ≠ 0) (hq : q ≠ 0) :
    (Aq (atV (m + 1) sg p q n) ≤ 67108864 ∧ Ll Tryz.prog 6 0 tzCells [(.a [.b s, .n false .u64 l, .n false .u64 d]), .i .i64 n, .i .i64 (m : Int)] (fun o G => o = .ret (.t [.a [.b (decide ((atV (m + 1) sg p q n) < 0)), .o 0 0 0 (lm (atV (m + 1) sg p q n)).length], .i .i64 0]) ∧ G = [⟨71, 1, 0, true, ints .u64 (lm (atV (m + 1) sg p q n))⟩])) ∨ (67108864 < Aq (atV (m + 1) sg p q n) ∧ SpecT Tryz.prog 6 0 tzCells [(.a [.b s, .n false .u64 l, .n false .u64 d]), .i .i64 n, .i .i64 (m : Int)] (fun o => o = .ret (.t [(.a [.b false, .n false .u64 []]), .i .i64 3]))) := by
  have hk : m + 1 = 1 ∨ m + 1 = 2 ∨ m + 1 = 3 := by omega
  have lp' : Aq (p : Int) ≤ 67108864 := by omega
  have lq' : Aq (q : Int) ≤ 67108864 := by omega
  have llp := H3 lp
  have llq := H3 lq
  have hD0 : ((SD p q n : Nat) : Int) ≠ 0 := by have := Q3 (x := p) (n := n) hq; omega
  have bN1 := Ace (x := p) (y := q) (n := n)
  have bD1 := Acf (x := p) (y := q) (n := n)
  rcases Int.lt_or_le 0 n with hn | hn
  · by_cases hov : (Aq (p : Int) : Int) - (Aq (q : Int) : Int) + n > 67108865
    · exact .inr ⟨Sp (M := 67108864) hk hp hq (by omega) (by omega), Eq (Af6 s l d n (m : Int) y0 hy0 h00 hn8 hn9 (by omega) (by omega) sg p q lp' lq' hPa hp hn hov)⟩
    · have eN : SN p q n = p * 2 ^ (n.toNat - min n.toNat (tz q)) := by unfold SN; rw [if_pos (by omega)]
      have eD : SD p q n = q / 2 ^ (min n.toNat (tz q)) := by unfold SD; rw [if_pos (by omega)]
      have hRi := Pn ((q : Nat) : Int) (min n.toNat (tz q)) (by omega) (by have := Nat.min_le_left n.toNat (tz q); omega)
      rw [Int.natAbs_natCast, ← eD] at hRi
      have hLf := R9 p (n.toNat - min n.toNat (tz q)) (by omega) (by omega)
      rw [← eN] at hLf
      have lN := H3 (x := SN p q n) (L := 201326592) (by omega)
      have lD := H3 (x := SD p q n) (L := 67108864) (by omega)
      rcases Nat.lt_or_ge 67108864 (Aq (atV (m + 1) sg p q n)) with hf | hf
      · exact .inr ⟨hf, At_uo m F fnF hm hcell hfn hfb hfx s l d n y0 hy0 h00 hn8 hn9 sg p q lp' lq' hPa hp hn hov _ _ hRi hLf (hWO sg false _ _ (zs sg (SN p q n)) (SD p q n : Int) (by omega) (by omega) (Dc _) (Dc _) Sw (Sw (s := false)) (by rw [Vo]; omega) hf (by omega) hD0)⟩
      · exact .inl ⟨hf, At_ud m F fnF hm hcell hfn hfb hfx s l d n y0 hy0 h00 hn8 hn9 sg p q lp' lq' hPa hp _ _ (fun _ => ⟨hov, hRi, hLf⟩) (fun h => absurd h (by omega)) _ _ _ (hWF sg false _ _ (zs sg (SN p q n)) (SD p q n : Int) (by omega) (by omega) (Dc _) (Dc _) Sw (Sw (s := false)) (by rw [Vo]; omega) hf (by omega) hD0)⟩
  · left
    by_cases hsm : (Aq (p : Int) : Int) + n < (Aq (q : Int) : Int) - 2
    · have e := Nx (s := sg) hk hp hq (n := n) (by omega)
      have hf : Aq (wq (m + 1) (zs sg 1) 4) ≤ 67108864 := Nat.le_trans (Q8 (by decide)).1 (by rw [Jo]; decide +kernel)
      rw [e]
      exact ⟨hf, At_ti m F fnF hm hcell hfn hfb hfx s l d n y0 hy0 h00 hn8 hn9 sg p q lp' lq' hPa hp hn hsm _ _ _ (hWF sg false [1] [4] (zs sg 1) 4 (by decide) (by decide) (Ts (by decide) (by decide)) (Ts (by decide) (by decide)) sv1 rfl (by rw [Vo, Vp]; decide) hf (by decide +kernel) (by decide))⟩
    · have eN : SN p q n = p / 2 ^ (min (-n).toNat (tz p)) := by
        by_cases h0 : n = 0
        · subst h0; unfold SN; rw [if_pos (by decide)]; simp
        · unfold SN; rw [if_neg (by omega)]
      have eD : SD p q n = q * 2 ^ ((-n).toNat - min (-n).toNat (tz p)) := by
        by_cases h0 : n = 0
        · subst h0; unfold SD; rw [if_pos (by decide)]; simp
        · unfold SD; rw [if_neg (by omega)]
      have hRi := Pn ((p : Nat) : Int) (min (-n).toNat (tz p)) (by omega) (by have := Nat.min_le_left (-n).toNat (tz p); omega)
      rw [Int.natAbs_natCast, ← eN] at hRi
      have hLf := R9 q ((-n).toNat - min (-n).toNat (tz p)) (by omega) (by omega)
      rw [← eD] at hLf
      have lN := H3 (x := SN p q n) (L := 67108864) (by omega)
      have lD := H3 (x := SD p q n) (L := 67108864) (by omega)
      have hf : Aq (atV (m + 1) sg p q n) ≤ 67108864 := by have h := (Q8 (k := m + 1) (v := zs sg (SN p q n)) hD0).1; rw [Jo] at h; exact Nat.le_trans h (by omega)
      exact ⟨hf, At_ud m F fnF hm hcell hfn hfb hfx s l d n y0 hy0 h00 hn8 hn9 sg p q lp' lq' hPa hp _ _ (fun h => absurd h (by omega)) (fun _ => ⟨hsm, hRi, hLf⟩) _ _ _ (hWF sg false _ _ (zs sg (SN p q n)) (SD p q n : Int) (by omega) (by omega) (Dc _) (Dc _) Sw (Sw (s := false)) (by rw [Vo]; omega) hf (by omega) hD0)⟩
theorem Uy (m : Nat) (hm : m < 3) (hRo : ∀ (s : Bool) (N D : Nat), N ≠ 0 → D ≠ 0 → (Aj B32 N).length ≤ 16777216 → (Aj B32 D).length ≤ 16777216 → Spec Tryz.prog 40 [(.a [.b s, .n false .u64 (Aj B32 N), .n false .u64 (Aj B32 D)]), .i .i64 (m : Int)] (fun o => o = .ret (.a [.b (decide (zs s (if upB (m + 1) s N D = true then N / D + 1 else N / D) < 0)), .n false .u64 (Aj B32 (if upB (m + 1) s N D = true then N / D + 1 else N / D))]))) (sg : Bool) (p q : Nat) (n : Int) (hp : p ≠ 0) (hq : q ≠ 0) (lp : Aq (p : Int) ≤ 67108864) (lq : Aq (q : Int) ≤ 67108864) (hn8 : -1099511627776 ≤ n) (hn9 : n ≤ 1099511627776) :
    (67108864 < Aq (atV (m + 1) sg p q n) ∧ ∃ (b : Bool) (Q : List Int), Spec Tryz.prog 8 [(.a [.b sg, .n false .u64 (Aj B32 p), .n false .u64 (Aj B32 q)]), .i .i64 n, .i .i64 (m : Int)] (fun o => o = .ret (.t [.a [.b b, .n false .u64 Q], .b false]))) ∨
    (Aq (atV (m + 1) sg p q n) ≤ 67108864 ∧ ∃ Q : List Int, Spec Tryz.prog 8 [(.a [.b sg, .n false .u64 (Aj B32 p), .n false .u64 (Aj B32 q)]), .i .i64 n, .i .i64 (m : Int)] (fun o => o = .ret (.t [.a [.b (decide ((atV (m + 1) sg p q n) < 0)), .n false .u64 Q], .b true])) ∧ Spec Tryz.prog 9 [.a [.b (decide ((atV (m + 1) sg p q n) < 0)), .n false .u64 (lm (atV (m + 1) sg p q n))], .a [.b (decide ((atV (m + 1) sg p q n) < 0)), .n false .u64 Q]] (fun o => o = .ret (.b true))) := by
  have hk : m + 1 = 1 ∨ m + 1 = 2 ∨ m + 1 = 3 := by omega
  by_cases hov : (Aq (p : Int) : Int) - (Aq (q : Int) : Int) + n > 67108866
  · exact .inl ⟨Sp (M := 67108864) hk hp hq (by omega) (by omega), false, [], rAt_o sg p q n (m : Int) hp hq lp lq hn8 hn9 hov⟩
  · obtain ⟨n1, hn1⟩ : ∃ n1, n1 = if n < (Aq (q : Int) : Int) - (Aq (p : Int) : Int) - 4 then (Aq (q : Int) : Int) - (Aq (p : Int) : Int) - 4 else n := ⟨_, rfl⟩
    have hv : (atV (m + 1) sg p q n) = atV (m + 1) sg p q n1 := by
      rw [hn1]; split
      · rw [Nx hk hp hq (by omega), Nx hk hp hq (by omega)]
      · rfl
    have b1 : -134217732 ≤ n1 ∧ n1 ≤ 134217730 := by rw [hn1]; split <;> omega
    have hdp := Nj lp
    have hdq := Nj lq
    have bN := Ace (x := p) (y := q) (n := n1)
    have bD := Acf (x := p) (y := q) (n := n1)
    have hSc : Spec Tryz.prog 41 [(.a [.b sg, .n false .u64 (Aj B32 p), .n false .u64 (Aj B32 q)]), .i .i64 n1] (fun o => o = .ret ((.a [.b sg, .n false .u64 (Aj B32 (SN p q n1)), .n false .u64 (Aj B32 (SD p q n1))]))) := by
      rcases Int.lt_or_le n1 0 with h | h
      · exact Yj sg p q n1 hp hq (by omega) (by omega) h (by omega)
      · exact Yi sg p q n1 hp hq (by omega) (by omega) h (by omega)
    have dN := Qw (x := SN p q n1) (L := 201326600) (by omega)
    have dD := Qw (x := SD p q n1) (L := 201326600) (by omega)
    have hR9 := hRo sg (SN p q n1) (SD p q n1) (Aaa hp) (Q3 hq) (by omega) (by omega)
    have e : atV (m + 1) sg p q n1 = zs sg (if upB (m + 1) sg (SN p q n1) (SD p q n1) = true then SN p q n1 / SD p q n1 + 1 else SN p q n1 / SD p q n1) := J7 hk (Aaa hp) (Q3 hq)
    have hwl : Aq (atV (m + 1) sg p q n1) ≤ 201326600 := by
      have h := (Q8 (k := m + 1) (v := zs sg (SN p q n1)) (w := (SD p q n1 : Int)) (by have := Q3 (x := p) (n := n1) hq; omega)).1
      rw [Jo] at h
      exact Nat.le_trans h (by omega)
    clear hRo
    generalize (if upB (m + 1) sg (SN p q n1) (SD p q n1) = true then SN p q n1 / SD p q n1 + 1 else SN p q n1 / SD p q n1) = Q at *
    have eL : Aq (atV (m + 1) sg p q n) = Aq (Q : Int) := by rw [hv, e, Jo]
    have dQ := Qw (x := Q) (L := 201326600) (by rw [← eL, hv]; exact hwl)
    have hg := rAt_g sg p q n (m : Int) hp hq lp lq hn8 hn9 hov n1 hn1 (SN p q n1) (SD p q n1) Q (decide (zs sg Q < 0)) hSc hR9 (by omega)
    by_cases hf : Aq (Q : Int) ≤ 67108864
    · right
      rw [decide_eq_true (by omega : ((Aq (Q : Int) : Int) ≤ 67108864))] at hg
      refine ⟨by omega, Aj B32 Q, ?_, ?_⟩
      · rw [hv, e]; exact hg
      · rw [hv, e]
        have h := Ahu (decide (zs sg Q < 0)) Q (by have := Nj hf; omega)
        rwa [← Vo (s := sg)] at h
    · left
      rw [decide_eq_false (by omega : ¬ ((Aq (Q : Int) : Int) ≤ 67108864))] at hg
      exact ⟨by omega, _, _, hg⟩
theorem Afy (m : Nat) (F : FuncId) (fnF : Func) (hm : m < 3) (hcell : [V.f 26 [], V.f 27 [], V.f 28 []][m]? = some (V.f F [])) (hfn : Tryz.prog.funcs[F]? = some fnF) (hfb : fnF.body.isSome = true) (hfx : (fnF.name == "runtime.NumGoroutine") = false) (hWF : ∀ (s t : Bool) (a b : List Int) (v w : Int), a.length < 1099511627776 → b.length < 1099511627776 → Az a → Az b → sv s a = v → sv t b = w → (lm v).length ≤ 8388608 → Aq (wq (m + 1) v w) ≤ 67108864 → Aq w ≤ 67108864 → w ≠ 0 → SpecM Tryz.prog F [.a [.b s, .n false .u64 a], .a [.b t, .n false .u64 b]] [] (fun o G => o = .ret (.t [.a [.b (decide ((wq (m + 1) v w) < 0)), .o 0 0 0 (lm (wq (m + 1) v w)).length], .a [.b (decide ((v - wq (m + 1) v w * w) < 0)), .o 1 0 0 (lm (v - wq (m + 1) v w * w)).length], .i .i64 0]) ∧ G = [⟨71, 1, 0, true, ints .u64 (lm (wq (m + 1) v w))⟩, ⟨71, 1, 0, true, ints .u64 (lm (v - wq (m + 1) v w * w))⟩])) (hWO : ∀ (s t : Bool) (a b : List Int) (v w : Int), a.length < 1099511627776 → b.length < 1099511627776 → Az a → Az b → sv s a = v → sv t b = w → (lm v).length ≤ 8388608 → 67108864 < Aq (wq (m + 1) v w) → Aq w ≤ 67108864 → w ≠ 0 → Spec Tryz.prog F [.a [.b s, .n false .u64 a], .a [.b t, .n false .u64 b]] (fun o => o = .ret (.t [(.a [.b false, .n false .u64 []]), (.a [.b false, .n false .u64 []]), .i .i64 3]))) (hRo : ∀ (s : Bool) (N D : Nat), N ≠ 0 → D ≠ 0 → (Aj B32 N).length ≤ 16777216 → (Aj B32 D).length ≤ 16777216 → Spec Tryz.prog 40 [(.a [.b s, .n false .u64 (Aj B32 N), .n false .u64 (Aj B32 D)]), .i .i64 (m : Int)] (fun o => o = .ret (.a [.b (decide (zs s (if upB (m + 1) s N D = true then N / D + 1 else N / D) < 0)), .n false .u64 (Aj B32 (if upB (m + 1) s N D = true then N / D + 1 else N / D))]))) (s : Bool) (l d : List Int) (y : Nat) (hy : Rw d y) (h0 : y ≠ 0) (n : Int) (hn8 : -1099511627776 ≤ n) (hn9 : n ≤ 1099511627776) (sg : Bool) (p q : Nat) (bp : Aq (p : Int) ≤ 67108800) (bq : Aq (q : Int) ≤ 67108800) (hPa : Spec Tryz.prog 29 [(.a [.b s, .n false .u64 l, .n false .u64 d])] (fun o => o = .ret (.t [.b sg, .n false .u64 (lm ((p : Nat) : Int)), .n false .u64 (lm ((q : Nat) : Int))]))) (hp : p ≠ 0) (hq : q ≠ 0) (hNu : Spec Tryz.prog 7 [(.a [.b s, .n false .u64 l, .n false .u64 d])] (fun o => o = .ret (.t [(.a [.b sg, .n false .u64 (Aj B32 p), .n false .u64 (Aj B32 q)]), .b true]))) : SpecT Tryz.prog 3 0 tzCells [(.a [.b s, .n false .u64 l, .n false .u64 d]), .i .i64 n, .i .i64 (m : Int)] (fun o => o = .ret (.b true)) := by
  have bp' : Aq (p : Int) ≤ 67108864 := by omega
  have bq' : Aq (q : Int) ≤ 67108864 := by omega
  rcases At_val m F fnF hm hcell hfn hfb hfx hWF hWO s l d y hy h0 n hn8 hn9 sg p q bp bq hPa hp hq with ⟨hf, hA⟩ | ⟨hf, hA⟩
  · rcases Uy m hm hRo sg p q n hp hq bp' bq' hn8 hn9 with ⟨hg, _⟩ | ⟨hg, Q, hR, hI⟩
    · exact absurd hg (by omega)
    · exact Tc s l d n (m : Int) hn8 hn9 (by omega) (by omega) _ _ _ Q _ hf hA hNu hR hI
  · rcases Uy m hm hRo sg p q n hp hq bp' bq' hn8 hn9 with ⟨hg, b, Q, hR⟩ | ⟨hg, _⟩
    · exact Td s l d n (m : Int) hn8 hn9 (by omega) (by omega) b Q _ _ _ hA hNu hR
    · exact absurd hg (by omega)

theorem RatioAts_s (s : Bool) (l d : List Int) (x y : Nat) (hx : Rw l x) (hy : Rw d y) (hB : l.length + d.length ≤ 1048573) (n m : Int) : SpecT Tryz.prog 3 0 tzCells [(.a [.b s, .n false .u64 l, .n false .u64 d]), .i .i64 n, .i .i64 m] (fun o => o = .ret (.b true)) := by
  by_cases h0 : y = 0
  · subst h0
    exact Ju s l d n m false 70 rfl (by decide) _ _ _ (Eq (At_den s l d n m hy)) (Y3 s l d hy)
  have hNu := Y4 s l d x y hx hy h0
  by_cases hr : n < -1099511627776 ∨ n > 1099511627776
  · refine Ju s l d n m true 1 (by rw [if_neg (by decide), if_pos hr]) (by decide) _ _ _ (Eq ?_) hNu
    rcases hr with h | h
    · exact Af7 s l d n m y hy h0 h
    · exact Af8 s l d n m y hy h0 h
  have hn8 : -1099511627776 ≤ n := by omega
  have hn9 : n ≤ 1099511627776 := by omega
  by_cases hm : m < 0 ∨ m > 2
  · refine Ju s l d n m true 81 (by rw [if_neg (by decide), if_neg hr, if_pos hm]) (by decide) _ _ _ (Eq ?_) hNu
    rcases hm with h | h
    · exact Aac s l d n m y hy h0 hn8 hn9 h
    · exact Aad s l d n m y hy h0 hn8 hn9 h
  have hPa := U4 s l d x y hx hy h0
  have hq : rd0 x y ≠ 0 := Nat.pos_iff_ne_zero.1 (K4 h0)
  have hd1 : 1 ≤ d.length := by
    cases d with
    | nil => have h : (0 : Int) = (y : Int) := hy.v; omega
    | cons _ _ => exact Nat.succ_pos _
  have bx := hx.b'
  have bq' : Aq ((rd0 x y : Nat) : Int) ≤ 67108864 := Adt hy.b
  by_cases h1 : x = 0
  · subst h1
    rw [Ade, Yc] at hPa hNu
    have hI := Ahu false 0 (by rw [Ct]; decide)
    rw [show ((0 : Nat) : Int) = 0 from rfl, Aey] at hI
    exact Te s l d n m hn8 hn9 (by omega) (by omega) false _ _ (Aj B32 0) (Eq (Af5 s l d n m y hy h0 hn8 hn9 (by omega) (by omega) false 0 (rd0 0 y) (by decide) bq' hPa rfl)) hNu (rAt_z (rd0 0 y) n m hq bq') hI
  have hp : rn0 x y ≠ 0 := mt Adm.1 h1
  have hl1 : 1 ≤ l.length := by
    cases l with
    | nil => have h : (0 : Int) = (x : Int) := hx.v; omega
    | cons _ _ => exact Nat.succ_pos _
  have by9 := hy.b'
  have bp : Aq ((rn0 x y : Nat) : Int) ≤ 67108800 := Ahj (by omega)
  have bq : Aq ((rd0 x y : Nat) : Int) ≤ 67108800 := Adt (by omega)
  rcases (by omega : m = ((0 : Nat) : Int) ∨ m = ((1 : Nat) : Int) ∨ m = ((2 : Nat) : Int)) with rfl | rfl | rfl
  · exact Afy 0 _ Tryz.f26 (by decide) rfl Tryz.func26 rfl rfl Af4 Af3 Yn s l d y hy h0 n hn8 hn9 _ _ _ bp bq hPa hp hq hNu
  · exact Afy 1 _ Tryz.f27 (by decide) rfl Tryz.func27 rfl rfl Ceil_F Ceil_O Ym s l d y hy h0 n hn8 hn9 _ _ _ bp bq hPa hp hq hNu
  · exact Afy 2 _ Tryz.f28 (by decide) rfl Tryz.func28 rfl rfl Near_F Near_O Yl s l d y hy h0 n hn8 hn9 _ _ _ bp bq hPa hp hq hNu
end Go.Proofs.YtnadmljoefecfaaGreatDoor.Vc

namespace Go.Proofs.YtnadmljoefecfaaGreatDoor.ratioAts
open Go Go.ChangeShapes Go.WideShapes Go.ChangeAt Go.RowKit
open Go.ChangeMaps (open_string shut_string)

theorem own : ownKnob Tryz.prog.godebug = none := by kernel_rfl
theorem laidOut : laidOutB Tryz.prog = true := by kernel_rfl
theorem gTab : Tryz.prog.globalNamed "math/bits.deBruijn64tab" = some 0 := by kernel_rfl
theorem gTabType : (Tryz.prog.globals[0]?).map (·.type) = some 133 := by kernel_rfl
theorem cellsT : Tryz.prog.cellsOf 133 = 64 := by kernel_rfl
theorem cellsE : Tryz.prog.cellsOf 5 = 1 := by kernel_rfl
theorem table {W : World} (h : laidMetH Tryz.prog Rows.ratioAtsUptoRow.laid W) : Lib.TabIs Tryz.prog W "math/bits.deBruijn64tab" .u8 Vc.tzTab :=
  Lib.tabIs_of_head (rest := []) gTab gTabType Tryz.underlying133 Tryz.underlying5 cellsE cellsT h
theorem tabR {W : World} (h : laidMetH Tryz.prog Rows.ratioAtsUptoRow.laid W) : Vc.TabR 0 (Vc.ints .u8 Vc.tzTab) W (fun _ => False) :=
  Vc.tabR_of (by decide) fun i hi => (table h).cell gTab i hi
noncomputable def laidWorld (os : Os) : World :=
  { World.holding Tryz.prog os ⟨#[], #[], []⟩ with heap := (World.holding Tryz.prog os ⟨#[], #[], []⟩).heap.modify 0 fun
      | .cells _ t frozen => .cells #[.int .u8 0, .int .u8 1, .int .u8 56, .int .u8 2, .int .u8 57, .int .u8 49, .int .u8 28, .int .u8 3, .int .u8 61, .int .u8 58, .int .u8 42, .int .u8 50, .int .u8 38, .int .u8 29, .int .u8 17, .int .u8 4, .int .u8 62, .int .u8 47, .int .u8 59, .int .u8 36, .int .u8 45, .int .u8 43, .int .u8 51, .int .u8 22, .int .u8 53, .int .u8 39, .int .u8 33, .int .u8 30, .int .u8 24, .int .u8 18, .int .u8 12, .int .u8 5, .int .u8 63, .int .u8 55, .int .u8 48, .int .u8 27, .int .u8 60, .int .u8 41, .int .u8 37, .int .u8 16, .int .u8 46, .int .u8 35, .int .u8 44, .int .u8 21, .int .u8 52, .int .u8 32, .int .u8 23, .int .u8 11, .int .u8 54, .int .u8 26, .int .u8 40, .int .u8 15, .int .u8 34, .int .u8 20, .int .u8 31, .int .u8 10, .int .u8 25, .int .u8 14, .int .u8 19, .int .u8 9, .int .u8 13, .int .u8 8, .int .u8 7, .int .u8 6] t frozen
      | o => o }
theorem laid_met (os : Os) : laidMet Tryz.prog Rows.ratioAtsUptoRow.laid ((laidWorld os).forCall (fun _ _ => 0) ⟨#[], #[.agg #[.bool false, .slice none 0 0, .slice none 0 0], .int .i64 0, .int .i64 0], []⟩).memory :=
  laidMet_of_run' 8 (by kernel_rfl) (by kernel_rfl)
theorem reads (os : Os) {H : Type} (enc : TypeId × Value → H) : ∃ places, DataW.whole enc Tryz.prog ((laidWorld os).forCall (fun _ _ => 0) ⟨#[], #[.agg #[.bool false, .slice none 0 0, .slice none 0 0], .int .i64 0, .int .i64 0], []⟩).memory Tryz.f3.params.toList Rows.ratioAtsSpec.vars false (#[.agg #[.bool false, .slice none 0 0, .slice none 0 0], .int .i64 0, .int .i64 0] : Array Value).toList 8 = some ([.agg [.agg [.lit (.bool false), .nil], .nil], .lit (.int .i64 0), .lit (.int .i64 0)], [], places) :=
  ⟨[], by kernel_rfl⟩
set_option maxRecDepth 100000 in
theorem lifted (os : Os) (started : os.Started) (H : Type) (enc : TypeId × Value → H) (F : Stop.Interp) :
    ReturnsInHanded {} Tryz.checked os 3 .any ((Rows.OpenSpec.upto Rows.ratioAtsSpec).preRow enc Tryz.prog Tryz.f3 Rows.ratioAtsUptoRow.domain false Rows.ratioAtsUptoRow.laid) (((Rows.OpenSpec.upto Rows.ratioAtsSpec).at F).post enc Tryz.prog Tryz.f3 false true false false) := by
  obtain ⟨places, hx⟩ := reads os enc
  refine returnsInHanded_of_row (C := Tryz.checked) (s := Rows.OpenSpec.upto Rows.ratioAtsSpec) own started (by kernel_rfl) Tryz.func3
    (witness_row_at (enc := enc) (C := Tryz.checked) false (laidWorld os) #[.agg #[.bool false, .slice none 0 0, .slice none 0 0], .int .i64 0, .int .i64 0] rfl (by kernel_rfl) (by kernel_rfl) (by kernel_rfl)
      (OpenSpec.preRow_of_cond 8 hx (by kernel_rfl) (fun k hk => by cases hk; kernel_rfl) (by kernel_rfl) (laid_met os))) ?_
  intro W base args ds gs before hval0 hW _ hcond _ hL _ _
  have hk := hcond _ rfl
  have hval : ∀ (j : Nat) t v, Tryz.f3.params[j]? = some t → args[j]? = some v → Value.okWide Tryz.prog W .any base t v := hval0
  have hW' := hW
  obtain ⟨p, q, hA0, hV, rfl, hfz, hnd⟩ := hW
  have hA : DataW.TrodAll enc Tryz.prog W 0 (fun _ => true) true Tryz.f3.params.toList args.toList ds p := hA0
  rw [Tryz.params3] at hA hval
  obtain ⟨v0, vs0, d0, ds0, p0, q0, hargs, rfl, rfl, h0, r0⟩ := trodAll_cons hA
  obtain ⟨v1, vs1, d1, ds1, p1, q1, rfl, rfl, rfl, h1, r1⟩ := trodAll_cons r0
  obtain ⟨v2, vs2, d2, ds2, p2, q2, rfl, rfl, rfl, h2, r2⟩ := trodAll_cons r1
  obtain ⟨rfl, rfl, rfl⟩ := trodAll_nil r2
  obtain rfl : args = #[v0, v1, v2] := by cases args; simp_all
  obtain ⟨rfl, rfl⟩ := trodVars_none hV
  have hk0 := h0
  obtain ⟨s0, l0, e0, rel0, hb0, ul0, ue0⟩ := Vc.openQ (hval 0 27 v0 rfl rfl) h0
  obtain ⟨a1, rfl, rfl, rfl, w1⟩ := open_int Tryz.underlying3 (hval 1 3 v1 rfl rfl) h1
  obtain ⟨a2, rfl, rfl, rfl, w2⟩ := open_int Tryz.underlying3 (hval 2 3 v2 rfl rfl) h2
  clear hA0 hval0
  simp only [List.append_nil] at hW' hk
  refine (Vc.specT_calls (tabR hL) (vals := [v0, .int .i64 a1, .int .i64 a2]) (Vc.RatioAts_s s0 l0 e0 _ _ (Vc.Rw.mk' ul0 (by have := Vc.short1q hk hb0; omega)) (Vc.Rw.mk' ue0 (by have := Vc.short1q hk hb0; omega)) (by have := Vc.short1q hk hb0; omega) a1 a2) W (⟨_, _, rfl, rel0, ⟨_, _, rfl, rfl, ⟨_, _, rfl, rfl, rfl⟩⟩⟩)).mono fun e W' ⟨he, hb⟩ => ?_; subst he
  have hlt : ∀ x ∈ p0, x.block < W.heap.size := fun x hx => by simpa using hW'.lt x (by simpa using hx)
  exact ⟨_, rfl, Vc.post_of_below (pa := (p0 ++ ([] ++ ([] ++ [])))) (pv := []) hW' (fun _ _ _ => (trodAll_cons_mk (shut_bool Tryz.underlying4 _) trodAll_mk0)) (fun sp hsp => (trodAll_cons_mk (Go.WideElems.Trod_stays laidOut (by kernel_rfl) (of_decide_eq_true (by kernel_rfl)) hk0 (fun x hx => hb.same (hlt x (by simp [hx]))) (fun x hx => hsp x (by simp [hx]))) (trodAll_cons_mk (shut_int Tryz.underlying3 w1) (trodAll_cons_mk (shut_int Tryz.underlying3 w2) trodAll_mk0)))) (fun _ _ => rfl) (by simp) hb⟩

theorem said : Rows.ratioAtsUptoRow.holds Tryz.pinned (Rows.OpenSpec.upto Rows.ratioAtsSpec) :=
  OpenClaim.holds_of_cond 3 Tryz.f3 rfl rfl rfl rfl rfl rfl rfl ⟨rfl, rfl, rfl, rfl, rfl⟩ rfl rfl rfl rfl rfl (by kernel_rfl) Tryz.func3 (by kernel_rfl)
    (of_decide_eq_true (by kernel_rfl)) (by unfold Func.isWrapper; first | (rw [if_pos (by decide +kernel)]; kernel_rfl) | (rw [if_neg (by decide +kernel)]; exact ⟨rfl, rfl⟩))
    (fun os started H enc _ F => by rw [OpenClaim.pre_eq_preRow]; exact lifted os started H enc F)
theorem plain (f : FuncId) (fn : Func) (hf : Tryz.pinned.checked.prog.funcNamed Rows.ratioAtsUptoRow.func = some f) (hfn : Tryz.pinned.checked.prog.funcs[f]? = some fn) :
    true = Tryz.pinned.checked.prog.looks [] ∧ ∀ (j : Nat) t, fn.params[j]? = some t → Tryz.pinned.checked.prog.wantsStandIn t = false := by
  obtain rfl : f = 3 := Option.some.inj ((show Tryz.prog.funcNamed Rows.ratioAtsUptoRow.func = some 3 by kernel_rfl).symm.trans hf) |>.symm
  obtain rfl : fn = Tryz.f3 := (Option.some.inj (Tryz.func3.symm.trans hfn)).symm
  refine ⟨by kernel_rfl, fun j t ht => ?_⟩
  rw [Tryz.params3] at ht
  have hm := Array.mem_of_getElem? ht
  simp only [List.mem_toArray, List.mem_cons, List.mem_nil_iff, or_false] at hm
  rcases hm with h9 | h9 | h9
  · subst h9
    exact (show Tryz.prog.wantsStandIn 27 = false by kernel_rfl)
  · subst h9
    exact (show Tryz.prog.wantsStandIn 3 = false by kernel_rfl)
  · subst h9
    exact (show Tryz.prog.wantsStandIn 3 = false by kernel_rfl)
theorem proved : Rows.RatioAtsUptoCardSaid :=
  Claim7.holds_tied_plain_at .later [] _ _ _ _ said (fun _ h => by cases h) (by kernel_rfl) (fun _ h => by cases h) ratioAtsUpto_row_tie rfl ⟨rfl, rfl⟩ (by kernel_rfl) rfl plain (by kernel_rfl)
end Go.Proofs.YtnadmljoefecfaaGreatDoor.ratioAts
