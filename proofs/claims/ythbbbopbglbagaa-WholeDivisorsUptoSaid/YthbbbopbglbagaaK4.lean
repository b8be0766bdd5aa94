/- surdlaw06.WholeDivisors answers true for every two numbers of bulk at most 1048576, and leaves its input as it was: the greatest common divisor with its factors, inverses Texts joined: Tz, Tx, Tq, Tr, Tu, Oa, Nk, Nl, Nm, Nn, No, Np, Nq, Nr, Ns, Nt, Nu, Nw, Nv, Nx, Ny, Nz, Ob, Wa, Wb, Wc. -/
import Derived.Test.YthbbbopbglbagaaK3
set_option linter.unusedVariables false
set_option linter.unusedSimpArgs false
set_option maxHeartbeats 4000000
namespace Go.Proofs.Ythbbbopbglbagaa.Vc
open Go Go.RowKit
theorem Y0 : slB Try.prog 84 22 1 = true := by kernel_rfl
theorem Od : K8 Try.prog 22 = true := by kernel_rfl
theorem Aea : (Try.prog.info? 22).any (·.size == 1) = true := by kernel_rfl
theorem Mg : Vi Try.prog 24 1 1 1 = true := by kernel_rfl
theorem T4 : Vi Try.prog 24 0 0 1 = true := by kernel_rfl

theorem Ru : Try.prog.underlying 105 = some (.int .u64) := by kernel_rfl





theorem Kg : Vz Try.prog 32 [] [] = true := by kernel_rfl
theorem Wx : Qi Try.prog 24 2 = true := by kernel_rfl
theorem Abd : Try.prog.underlying 84 = some (.slice 22) := by kernel_rfl
theorem Agj : elP Try.prog 84 22 1 24 (.slice none 0 0) := P8 Abd (by kernel_rfl) rfl (by decide)

theorem Afi {P : Program} {Γ : Ctx} {F : Fr} {H H' : List Ob} {Q : Exit → Fr → List Ob → Prop} {ops : Array Oper} {rest : List Oper} (h : H = H') (j : JO P ops rest Γ F H' Q) : JO P ops rest Γ F H Q := h ▸ j
def Cp (n : Nat) (L : Ob) (f : Nat → Ob) (J : List Ob) : List Ob := L :: ((List.range n).map f ++ J)
def upd (f : Nat → Ob) (i : Nat) (o : Ob) : Nat → Ob := fun j => if j = i then o else f j
section
variable {n : Nat} {L : Ob} {f : Nat → Ob} {J : List Ob}
theorem Abw {i : Nat} (h : i < n) : (Cp n L f J)[i + 1]? = some (f i) := by
  unfold Cp
  rw [List.getElem?_cons_succ, List.getElem?_append_left (by simpa using h), List.getElem?_map, List.getElem?_range h]
  rfl
theorem Pg {i : Nat} {o : Ob} (h : i < n) : (Cp n L (upd f i o) J)[i + 1]? = some o := by rw [Abw h]; simp [upd]
theorem Abv {i : Nat} {o : Ob} (h : i < n) (e : f i = o) : (Cp n L f J)[i + 1]? = some o := by rw [Abw h, e]
theorem Xi {i : Nat} {o : Ob} (h : i < n) : (Cp n L f J).set (i + 1) o = Cp n L (upd f i o) J := by
  unfold Cp
  rw [List.set_cons_succ, List.set_append_left _ _ (by simpa using h)]
  congr 2
  refine List.ext_getElem? fun k => ?_
  rw [List.getElem?_set]
  simp only [List.length_map, List.length_range, List.getElem?_map]
  by_cases e : i = k
  · subst e
    rw [if_pos rfl, if_pos h, List.getElem?_range h]
    simp [upd]
  · rw [if_neg e]
    by_cases hk : k < n
    · rw [List.getElem?_range hk]
      simp [upd, Ne.symm e]
    · rw [List.getElem?_eq_none (by simpa using hk)]
      rfl
theorem Zc {i : Nat} {o p : Ob} : upd (upd f i o) i p = upd f i p := by
  funext j
  unfold upd
  by_cases e : j = i <;> simp [e]
theorem Abx {K : List Ob} : Cp n L f J ++ K = Cp n L f (J ++ K) := by simp [Cp]
theorem Sj : (Cp n L f J).length = n + 1 + J.length := by simp [Cp]; omega
theorem Zd {o : Ob} : (Cp n L f (J ++ [o]))[n + 1 + J.length]? = some o := by
  unfold Cp
  rw [show n + 1 + J.length = (n + J.length) + 1 by omega, List.getElem?_cons_succ, List.getElem?_append_right (by simp)]
  simp
theorem Xj (hL : ∀ y ∈ L.cs, idB (n + 1) y = true) (hf : ∀ j, j < n → ∀ y ∈ (f j).cs, idB (n + 1) y = true) : ObsId (n + 1) ((Cp n L f J).take (n + 1)) := by
  unfold Cp
  rw [List.take_succ_cons, List.take_append_of_le_length (by simp), List.take_of_length_le (by simp)]
  intro o ho hl y hy
  rcases List.mem_cons.1 ho with rfl | ho
  · exact hL y hy
  · obtain ⟨j, hj, rfl⟩ := List.mem_map.1 ho
    exact hf j (List.mem_range.1 hj) y hy
theorem Zi {g : Nat → V} {i : Nat} (h : i < n) {y : V} (e : g i = y) : ((List.range n).map g)[(0 + i) * 1]? = some y := by
  rw [Nat.zero_add, Nat.mul_one, List.getElem?_map, List.getElem?_range h, ← e]
  rfl
theorem Pd {g : Nat → V} {i : Nat} {y : V} : ∀ (l : List Nat) (k : Nat), (∀ j, j < l.length → l[j]? = some (k + j)) → k ≤ i → Gl (l.map g) (i - k) [y] = l.map (fun j => if j = i then y else g j)
  | [], _, _, _ => by cases i <;> rfl
  | x :: l, k, h, hk => by
    have hx : x = k := by have := h 0 (by simp); simpa using this
    have hl : ∀ j, j < l.length → l[j]? = some (k + 1 + j) := fun j hj => by
      have := h (j + 1) (by simp; omega)
      simp only [List.getElem?_cons_succ] at this
      rw [this]; congr 1; omega
    subst hx
    by_cases e : x = i
    · subst e
      rw [Nat.sub_self]
      have hid : l.map (fun j => if j = x then y else g j) = l.map g := List.map_congr_left fun j hj => by
        obtain ⟨q, hq⟩ := List.getElem?_of_mem hj
        have hlt : q < l.length := (List.getElem?_eq_some_iff.1 hq).1
        have := hl q hlt
        rw [hq] at this
        injection this with this
        rw [if_neg (by omega)]
      rw [List.map_cons, List.map_cons, hid, if_pos rfl]
      show y :: Gl (l.map g) 0 [] = y :: l.map g
      cases l <;> rfl
    · obtain ⟨q, hq⟩ : ∃ q, i - x = q + 1 := ⟨i - x - 1, by omega⟩
      rw [List.map_cons, List.map_cons, hq, if_neg e]
      show g x :: Gl (l.map g) q [y] = g x :: _
      have := Pd (g := g) (i := i) (y := y) l (x + 1) hl (by omega)
      rw [show i - (x + 1) = q by omega] at this
      rw [this]
theorem Qq {g : Nat → V} {i : Nat} {y : V} : Gl ((List.range n).map g) ((0 + i) * 1) [y] = (List.range n).map (fun j => if j = i then y else g j) := by
  have := Pd (g := g) (i := i) (y := y) (List.range n) 0 (fun j hj => by rw [List.getElem?_range (by simpa using hj), Nat.zero_add]) (Nat.zero_le _)
  rw [Nat.sub_zero] at this
  rw [Nat.zero_add, Nat.mul_one, this]
end
def owC (j : Nat) : Int := ((j % 251 + 1 : Nat) : Int)
def owB (j : Nat) : List Int := [((300 + 5 * j : Nat) : Int), ((300 + 5 * j + 1 : Nat) : Int), ((300 + 5 * j + 2 : Nat) : Int), ((300 + 5 * j + 3 : Nat) : Int), ((300 + 5 * j + 4 : Nat) : Int)]
def owL (n : Nat) (rs : Nat → List Int) (i : Nat) : Ob := ⟨22, 1, 0, true, (List.range n).map fun j => if j < i then .o (j + 1) 1 0 ((rs j).length + 5) else .o (j + 1) 0 0 (rs j).length⟩
def L6 (n : Nat) (rs : Nat → List Int) : Ob := ⟨22, 1, 0, true, (List.range n).map fun j => .o (j + 1) 0 0 (rs j).length⟩
def owR (rs : Nat → List Int) (j : Nat) : Ob := ⟨79, 1, 0, true, A2 .u64 (rs j)⟩
def owF (rs : Nat → List Int) (i j : Nat) : Ob := ⟨79, 1, 0, true, A2 .u64 (if j < i then List.replicate (rs j).length (owC j) else rs j)⟩
def owK (rs : Nat → List Int) (i k : Nat) : Ob := ⟨79, 1, 0, true, A2 .u64 (List.replicate k (owC i) ++ (rs i).drop k)⟩
def owE (rs : Nat → List Int) (j : Nat) : Ob := ⟨79, 1, 1, true, A2 .u64 (List.replicate (rs j).length (owC j) ++ owB j)⟩
def owG (rs : Nat → List Int) (i j : Nat) : Ob := if j < i then owE rs j else ⟨79, 1, 0, true, A2 .u64 (List.replicate (rs j).length (owC j))⟩
section
variable {n : Nat} {rs : Nat → List Int} {J : List Ob}
theorem V2 : Cp n (L6 n rs) (owR rs) J = Cp n (L6 n rs) (owF rs 0) J := rfl
theorem Aeh {i : Nat} : Cp n (L6 n rs) (owF rs i) J = Cp n (L6 n rs) (upd (owF rs i) i (owK rs i 0)) J := by
  congr 1
  funext j
  unfold upd
  by_cases e : j = i
  · subst e; simp [owF, owK]
  · rw [if_neg e]
theorem Zn {i k : Nat} (hi : i < n) (hk : k < (rs i).length) : (Cp n (L6 n rs) (upd (owF rs i) i (owK rs i k)) J).set (i + 1) ⟨79, 1, 0, true, A2 .u64 ((List.replicate k (owC i) ++ (rs i).drop k).set ((0 + k) * 1) (owC i))⟩ = Cp n (L6 n rs) (upd (owF rs i) i (owK rs i (k + 1))) J := by
  rw [Xi hi, Zc]
  congr 3
  show A2 .u64 _ = A2 .u64 _
  congr 1
  rw [Nat.zero_add, Nat.mul_one, List.set_append_right _ _ (by simp), List.length_replicate, Nat.sub_self, List.drop_eq_getElem_cons hk, List.set_cons_zero, List.replicate_succ', List.append_assoc]
  rfl
theorem Ab9 {i k : Nat} (hk : ¬ k < (rs i).length) (hk2 : k ≤ (rs i).length) : Cp n (L6 n rs) (upd (owF rs i) i (owK rs i k)) J = Cp n (L6 n rs) (owF rs (i + 1)) J := by
  have e : k = (rs i).length := by omega
  subst e
  congr 1
  funext j
  unfold upd
  by_cases e : j = i
  · subst e
    rw [if_pos rfl]
    unfold owK owF
    rw [List.drop_length, List.append_nil, if_pos (Nat.lt_succ_self j)]
  · rw [if_neg e]
    unfold owF
    by_cases h : j < i
    · rw [if_pos h, if_pos (by omega)]
    · rw [if_neg h, if_neg (by omega)]
theorem Ab8 {i : Nat} (hi : ¬ i < n) : Cp n (L6 n rs) (owF rs i) J = Cp n (owL n rs 0) (owG rs 0) J := by
  unfold Cp
  congr 2
  · refine List.map_congr_left fun j hj => ?_
    have := List.mem_range.1 hj
    unfold owF owG
    rw [if_pos (by omega), if_neg (Nat.not_lt_zero j)]
theorem V4 {i : Nat} (hi : i < n) : (owL n rs i).cs[(0 + i) * 1]? = some (.o (i + 1) 0 0 (rs i).length) := Zi hi (if_neg (Nat.lt_irrefl i))
theorem Zo {i : Nat} (hi : i < n) : (Cp n (owL n rs i) (owG rs i) J)[i + 1]? = some ⟨79, 1, 0, true, A2 .u64 (List.replicate (rs i).length (owC i))⟩ := Abv hi (if_neg (Nat.lt_irrefl i))
theorem Zq {i : Nat} (hi : i < n) : (Cp n (owL n rs i) (owG rs i) J).set (i + 1) ⟨79, 1, 0 + 1, true, A2 .u64 (List.replicate (rs i).length (owC i)) ++ A2 .u64 (owB i)⟩ = Cp n (owL n rs i) (upd (owG rs i) i (owE rs i)) J := by
  rw [Xi hi]
  congr 3
  simp [A2]
theorem Zp {i : Nat} (hi : i < n) : Cp n ⟨22, 1, 0, true, Gl (owL n rs i).cs ((0 + i) * 1) [.o (i + 1) 1 0 ((rs i).length + 5)]⟩ (upd (owG rs i) i (owE rs i)) J = Cp n (owL n rs (i + 1)) (owG rs (i + 1)) J := by
  congr 1
  · unfold owL
    rw [Qq]
    congr 1
    refine List.map_congr_left fun j _ => ?_
    by_cases e : j = i
    · subst e; rw [if_pos rfl, if_pos (Nat.lt_succ_self j)]
    · rw [if_neg e]
      by_cases h : j < i
      · rw [if_pos h, if_pos (by omega)]
      · rw [if_neg h, if_neg (by omega)]
  · funext j
    unfold upd owG
    by_cases e : j = i
    · subst e; rw [if_pos rfl, if_pos (Nat.lt_succ_self j)]
    · rw [if_neg e]
      by_cases h : j < i
      · rw [if_pos h, if_pos (by omega)]
      · rw [if_neg h, if_neg (by omega)]
theorem V3 {i m : Nat} (hi : i < n) (hm : ¬ m < n) : (owL n rs m).cs[(0 + i) * 1]? = some (.o (i + 1) 1 0 ((rs i).length + 5)) := Zi hi (if_pos (by omega))
theorem Gv {i m : Nat} (hi : i < n) (hm : ¬ m < n) : (Cp n (owL n rs m) (owG rs m) J)[i + 1]? = some (owE rs i) := Abv hi (if_pos (by omega))
theorem Ab7 {i k : Nat} (hk : k < (rs i).length + 5) : (List.replicate (rs i).length (owC i) ++ owB i).getD ((0 + k) * 1) 0 = if k < (rs i).length then owC i else ((300 + 5 * i + (k - (rs i).length) : Nat) : Int) := by
  rw [Nat.zero_add, Nat.mul_one]
  by_cases h : k < (rs i).length
  · rw [if_pos h, List.getD_eq_getElem?_getD, List.getElem?_append_left (by simpa using h), List.getElem?_replicate, if_pos h]
    rfl
  · rw [if_neg h, List.getD_eq_getElem?_getD, List.getElem?_append_right (by simp; omega), List.length_replicate]
    obtain ⟨q, hq⟩ : ∃ q, k - (rs i).length = q := ⟨_, rfl⟩
    rw [hq]
    match q, (show q < 5 by omega) with
    | 0, _ => rfl
    | 1, _ => rfl
    | 2, _ => rfl
    | 3, _ => rfl
    | 4, _ => rfl
theorem Aca {i : Nat} : (List.replicate (rs i).length (owC i) ++ owB i).length = (rs i).length + 5 := by simp [owB]
theorem Acc {m : Nat} : ObsId (Cp n (L6 n rs) (owR rs) []).length ((Cp n (owL n rs m) (owG rs m) J).take (Cp n (L6 n rs) (owR rs) []).length) := by
  rw [Sj]
  refine Xj (fun y hy => ?_) fun j _ y hy => ?_
  · obtain ⟨j, hj, rfl⟩ := List.mem_map.1 hy
    have := List.mem_range.1 hj
    by_cases h : j < m
    · rw [if_pos h]; simp [idB]; omega
    · rw [if_neg h]; simp [idB]; omega
  · unfold owG owE at hy
    by_cases h : j < m
    · rw [if_pos h] at hy; exact List.all_eq_true.1 Bc y hy
    · rw [if_neg h] at hy; exact List.all_eq_true.1 Bc y hy
end

theorem Ade {v : Int} {k : Nat} (h : v.natAbs < B32 ^ k) : (dg v).length ≤ k := J2 (by decide) k _ h
theorem Add (v : Int) : v.natAbs < B32 ^ (dg v).length := Jc (by decide) _
theorem Li (x y : Int) : (dg (x + y)).length ≤ max (dg x).length (dg y).length + 1 := by
  refine Ade (Nat.lt_of_le_of_lt (Int.natAbs_add_le x y) (Xa ?_ ?_))
  · exact Nat.le_max_left _ _
  · exact Nat.le_max_right _ _
theorem Adb (x : Int) : dg (-x) = dg x := by unfold dg; rw [Int.natAbs_neg]
theorem Lg (x y : Int) : (dg (x - y)).length ≤ max (dg x).length (dg y).length + 1 := by
  have := Li x (-y)
  rwa [Adb, ← Int.sub_eq_add_neg] at this
theorem Fd (x y : Int) : (dg (x * y)).length ≤ (dg x).length + (dg y).length := by
  refine Ade ?_
  rw [Int.natAbs_mul, Nat.pow_add]
  have h1 := Add x
  have h2 := Add y
  exact Nat.mul_lt_mul_of_lt_of_le h1 (Nat.le_of_lt h2) (by omega)
section
variable {n : Nat} {rs : Nat → List Int}
theorem Acb : ObsId (n + 1) (Cp n (L6 n rs) (owR rs) []) := by
  have h := Xj (n := n) (L := L6 n rs) (f := owR rs) (J := []) (fun y hy => by
    obtain ⟨j, hj, rfl⟩ := List.mem_map.1 hy
    have := List.mem_range.1 hj
    simp [idB]; omega) fun j _ y hy => List.all_eq_true.1 Bc y hy
  rwa [List.take_of_length_le (by rw [Sj]; simp)] at h
theorem V5 : D8 (Cp n (L6 n rs) (owR rs) []) := by
  unfold Cp
  rw [List.append_nil]
  intro o ho hl y hy
  rcases List.mem_cons.1 ho with rfl | ho
  · obtain ⟨j, hj, rfl⟩ := List.mem_map.1 hy
    rfl
  · obtain ⟨j, hj, rfl⟩ := List.mem_map.1 ho
    exact List.all_eq_true.1 Dz y hy
end
def Aee (l : List (List Int)) (j : Nat) : List Int := l.getD j []
theorem Vw {l : List (List Int)} {m : Nat} (h : ∀ r ∈ l, r.length < m) (h0 : 0 < m) (j : Nat) : (Aee l j).length < m := by
  unfold Aee
  rw [List.getD_eq_getElem?_getD]
  cases hj : l[j]? with
  | none => exact h0
  | some r => exact h r (List.mem_of_getElem? hj)

theorem Aap (k : Nat) : B32 ^ k = 2 ^ (32 * k) := by
  rw [Nat.pow_mul]
def Tz (x t : Nat) : Prop := 2 ^ t ∣ x ∧ x / 2 ^ t % 2 = 1
def inI (v : Int) : Prop := -9223372036854775808 ≤ v ∧ v < 9223372036854775808
instance (v : Int) : Decidable (inI v) := by unfold inI; infer_instance
def fl (v : Int) : List Int := if v = 0 then [] else [v]
theorem Jw {v : Int} (h : v.natAbs < 18446744073709551616) : lm v = fl ((v.natAbs : Nat) : Int) := by
  unfold lm fl
  by_cases h0 : v.natAbs = 0
  · rw [h0, Dg]; rfl
  · rw [Dd (by decide) h0, Nat.mod_eq_of_lt h, Nat.div_eq_of_lt h, Dg, if_neg (by omega)]
theorem Xs {v : Int} (h : v.natAbs < 18446744073709551616) : (lm v).length ≤ 1 := by
  rw [Jw h]; unfold fl; split <;> simp
theorem Cn (v : Int) : sv (decide (v < 0)) (lm v) = v := by
  unfold sv; rw [Og]; by_cases h : v < 0 <;> simp [h] <;> omega


theorem Fk (s : Nat) : (0 : Int) < 2 ^ s := Int.pow_pos (by decide)
theorem I9 {s : Nat} (h : s ≤ 64) : (2 : Int) ^ (64 - s) * 2 ^ s = 18446744073709551616 := by
  rw [← Int.pow_add, show 64 - s + s = 64 by omega]; rfl
theorem Xo {s : Nat} (h : s < 64) : (2 : Int) * 2 ^ (63 - s) = 2 ^ (64 - s) := by
  rw [show 64 - s = (63 - s) + 1 by omega, Int.pow_succ, Int.mul_comm]
theorem Aga {s : Nat} (h : s < 64) : (2 : Int) ^ s ≤ 9223372036854775808 := by
  have h1 : (2 : Nat) ^ s ≤ 2 ^ 63 := Nat.pow_le_pow_right (by decide) (by omega)
  have h2 : ((2 ^ s : Nat) : Int) ≤ ((2 ^ 63 : Nat) : Int) := Int.ofNat_le.2 h1
  rw [Int.natCast_pow] at h2
  simpa using h2
theorem Xd {s : Nat} (h : s ≤ 64) : min ((s : Int)).toNat 64 = s := by omega
theorem Kb {x : Int} {s : Nat} (h : s ≤ 64) : x.fdiv (2 ^ min ((s : Int)).toNat 64) = x / 2 ^ s := by
  rw [Xd h]; exact Int.fdiv_eq_ediv_of_nonneg _ (Int.le_of_lt (Fk s))
theorem Hw {x : Int} {s : Nat} (h : s ≤ 64) : IntKind.u64.wrap (x * 2 ^ min ((s : Int)).toNat 64) = x * 2 ^ s % 18446744073709551616 := by
  rw [Xd h]; exact Eq
def loS (x : Int) (s : Nat) : Int := x * 2 ^ s % 18446744073709551616
def hiS (x : Int) (s : Nat) : Int := x / 2 ^ (64 - s)
theorem Tb {x : Int} {s : Nat} (h : s ≤ 64) : loS x s = 2 ^ s * (x % 2 ^ (64 - s)) := by
  unfold loS
  rw [← I9 h, Int.mul_comm x, Int.mul_comm (2 ^ (64 - s)) (2 ^ s), Int.mul_emod_mul_of_pos _ _ (Fk s)]
theorem Aem {x : Int} {s : Nat} (h : s ≤ 64) : x * 2 ^ s = 18446744073709551616 * hiS x s + loS x s := by
  rw [Tb h, ← I9 h]
  unfold hiS
  have e := Int.emod_add_mul_ediv x (2 ^ (64 - s))
  generalize hk : x / 2 ^ (64 - s) = k at e ⊢
  generalize hr : x % 2 ^ (64 - s) = r at e ⊢
  rw [← e, Int.add_mul, Int.mul_comm r]
  rw [Int.mul_right_comm]
  omega
theorem Lc {x : Int} {s : Nat} (h : s ≤ 64) (h0 : 0 ≤ x) (h1 : x < 18446744073709551616) : 0 ≤ hiS x s ∧ hiS x s < 2 ^ s := by
  unfold hiS
  refine ⟨Int.ediv_nonneg h0 (Int.le_of_lt (Fk _)), ?_⟩
  refine Int.ediv_lt_of_lt_mul (Fk _) ?_
  rw [Int.mul_comm, I9 h]; exact h1
theorem K9 {x : Int} {s : Nat} : 0 ≤ loS x s ∧ loS x s < 18446744073709551616 := by unfold loS; omega
theorem R8 {x : Int} {s : Nat} (h : s < 64) : x / 2 / 2 ^ (63 - s) = hiS x s := by
  unfold hiS; rw [Int.ediv_ediv_of_nonneg (by decide), Xo h]
theorem Y1 {x : Int} {s : Nat} (h : s < 64) : x * 2 % 18446744073709551616 * 2 ^ (63 - s) % 18446744073709551616 = loS x (64 - s) := by
  unfold loS
  rw [Int.mul_emod, Int.emod_emod, ← Int.mul_emod, Int.mul_assoc, Xo h]
theorem Acd {x y : Int} {k : Nat} (hx0 : 0 ≤ x) (hx : x < 2 ^ k) (hy0 : 0 ≤ y) (hy : 2 ^ k * y < 18446744073709551616) (hk : k ≤ 64) : G2 .or .u64 x (2 ^ k * y) = x + 2 ^ k * y := by
  obtain ⟨m, rfl⟩ := Int.eq_ofNat_of_zero_le hx0
  obtain ⟨n, rfl⟩ := Int.eq_ofNat_of_zero_le hy0
  have hp : ((2 ^ k : Nat) : Int) = (2 : Int) ^ k := by rw [Int.natCast_pow]; rfl
  rw [← hp] at hx hy ⊢
  rw [← Int.natCast_mul] at hy ⊢
  have hm : m < 2 ^ k := Int.ofNat_lt.1 hx
  have hn : 2 ^ k * n < 18446744073709551616 := by omega
  have hm2 : m < 18446744073709551616 := Nat.lt_of_lt_of_le hm (Nat.pow_le_pow_right (by decide) hk)
  unfold G2
  simp only [IntKind.bits]
  have e1 : (BitVec.ofInt 64 (m : Int)).toNat = m := by rw [BitVec.toNat_ofInt]; simp; omega
  have e2 : (BitVec.ofInt 64 ((2 ^ k * n : Nat) : Int)).toNat = 2 ^ k * n := by
    generalize 2 ^ k * n = t at hn
    rw [BitVec.toNat_ofInt]; simp; omega
  have e3 : (BitVec.ofInt 64 (m : Int) ||| BitVec.ofInt 64 ((2 ^ k * n : Nat) : Int)).toNat = m + 2 ^ k * n := by
    rw [BitVec.toNat_or, e1, e2, Nat.or_comm, ← Nat.two_pow_add_eq_or_of_lt hm, Nat.add_comm]
  show IntKind.u64.wrap (((BitVec.ofInt 64 (m : Int) ||| BitVec.ofInt 64 ((2 ^ k * n : Nat) : Int)).toNat : Nat) : Int) = _
  rw [e3]
  have hs : m + 2 ^ k * n < 18446744073709551616 := by
    have := (BitVec.ofInt 64 (m : Int) ||| BitVec.ofInt 64 ((2 ^ k * n : Nat) : Int)).isLt
    rw [e3] at this; simpa using this
  generalize 2 ^ k * n = t at hs ⊢
  rw [Bh (by omega) (by omega)]
  omega
theorem Sz {c x : Int} {s : Nat} (h : s ≤ 64) (hc0 : 0 ≤ c) (hc : c < 2 ^ s) (hx0 : 0 ≤ x) : G2 .or .u64 c (loS x s) = c + loS x s ∧ c + loS x s < 18446744073709551616 := by
  have hb := @K9 x s
  rw [Tb h] at hb ⊢
  have hx : 0 ≤ x % 2 ^ (64 - s) := Int.emod_nonneg _ (Int.ne_of_gt (Fk _))
  have hx2 : x % 2 ^ (64 - s) < 2 ^ (64 - s) := Int.emod_lt_of_pos _ (Fk _)
  refine ⟨Acd hc0 hc hx hb.2 h, ?_⟩
  have e := I9 h
  have h3 : 2 ^ s * (x % 2 ^ (64 - s)) ≤ 2 ^ s * (2 ^ (64 - s) - 1) := Int.mul_le_mul_of_nonneg_left (by omega) (Int.le_of_lt (Fk s))
  rw [Int.mul_sub, Int.mul_comm (2 ^ s) (2 ^ (64 - s)), e] at h3
  omega
def upN (a : List Int) (s : Nat) : Nat → List Int × Int
  | 0 => ([], 0)
  | i + 1 => ((upN a s i).1 ++ [(upN a s i).2 + loS (a.getD i 0) s], hiS (a.getD i 0) s)
theorem Ff (a : List Int) (s : Nat) : ∀ i, (upN a s i).1.length = i
  | 0 => rfl
  | i + 1 => by simp [upN, Ff a s i]
theorem Vq {a : List Int} {s : Nat} (hs : s ≤ 64) (ha : A3 a) : ∀ i, 0 ≤ (upN a s i).2 ∧ (upN a s i).2 < 2 ^ s
  | 0 => ⟨Int.le_refl 0, Fk s⟩
  | i + 1 => Lc hs (Bg ha i).1 (Bg ha i).2
theorem Abc {a : List Int} {s : Nat} (hs : s ≤ 64) (ha : A3 a) : ∀ i, A3 (upN a s i).1
  | 0 => fun x hx => by simp [upN] at hx
  | i + 1 => by
    have hc := Vq hs ha i
    have hl := @K9 (a.getD i 0) s
    exact Ei (Abc hs ha i) (by omega) (Sz hs hc.1 hc.2 (Bg ha i).1).2
theorem Rs {a : List Int} {s : Nat} (hs : s ≤ 64) : ∀ i, vl (upN a s i).1 + pB i * (upN a s i).2 = vk a i * 2 ^ s
  | 0 => by rw [vk_0]; simp [upN, vl]
  | i + 1 => by
    have h := Rs (a := a) hs i
    have e := Aem (x := a.getD i 0) hs
    rw [Da, Int.add_mul, ← h]
    simp only [upN]
    rw [Ee, Ff, Int.mul_assoc (pB i) (a.getD i 0), e]
    simp only [vl, pB]
    have hB : Bs = 18446744073709551616 := rfl
    rw [hB]
    generalize (upN a s i).2 = c
    generalize loS (a.getD i 0) s = lo
    generalize hiS (a.getD i 0) s = hi
    generalize pB i = p
    have e1 : p * (18446744073709551616 * hi + lo) = 18446744073709551616 * p * hi + p * lo := by rw [Int.mul_add, ← Int.mul_assoc, Int.mul_comm p]
    have e2 : p * (c + lo + 18446744073709551616 * 0) = p * c + p * lo := by rw [Int.mul_zero, Int.add_zero, Int.mul_add]
    rw [e1, e2]
    omega
def upL (a : List Int) (s : Nat) : List Int := (upN a s a.length).1 ++ [(upN a s a.length).2]
theorem Gn (a : List Int) (s : Nat) : (upL a s).length = a.length + 1 := by simp [upL, Ff]
theorem Vr {a : List Int} {s : Nat} (hs : s < 64) (ha : A3 a) : A3 (upL a s) := by
  have hc := Vq (Nat.le_of_lt hs) ha a.length
  have := Aga hs
  exact Ei (Abc (Nat.le_of_lt hs) ha _) hc.1 (by omega)
theorem Nx {a : List Int} {s : Nat} (hs : s ≤ 64) : vl (upL a s) = vl a * 2 ^ s := by
  unfold upL
  rw [Ee, Ff]
  have h := Rs (a := a) hs a.length
  rw [vk_all (Nat.le_refl _)] at h
  rw [← h]; simp [vl]
theorem Pc {l : List Int} {c v : Int} {n : Nat} : (Cv (l ++ [c]) n).set ((0 + l.length) * 1) v = Cv (l ++ [v]) n := by
  rw [Nat.zero_add, Nat.mul_one]
  unfold Cv
  rw [List.append_assoc, List.append_assoc, List.set_append_right _ _ (Nat.le_refl _), Nat.sub_self]
  simp
theorem P4 {l : List Int} {c : Int} {n : Nat} : (Cv (l ++ [c]) n).getD ((0 + l.length) * 1) 0 = c := by
  rw [Nat.zero_add, Nat.mul_one]
  unfold Cv
  rw [List.append_assoc, List.getD_eq_getElem?_getD, List.getElem?_append_right (Nat.le_refl _), Nat.sub_self]
  simp
def upR (a : List Int) (s i : Nat) : List Int := Cv ((upN a s i).1 ++ [(upN a s i).2]) (a.length + 1)
theorem Rp {a : List Int} {s i : Nat} (h : i ≤ a.length) : (upR a s i).length = a.length + 1 := Et (by simp [Ff]; omega)
theorem Abb {a : List Int} {s : Nat} : List.replicate (a.length + 1) (0 : Int) = upR a s 0 := by
  unfold upR Cv; simp [upN, List.replicate_succ]
theorem Rq {a : List Int} {s i : Nat} : (upR a s i).getD ((0 + i) * 1) 0 = (upN a s i).2 := by
  have h := @P4 (upN a s i).1 (upN a s i).2 (a.length + 1)
  rw [Ff] at h; exact h
theorem Ro {a : List Int} {s i : Nat} (h : i < a.length) : ((upR a s i).set ((0 + i) * 1) ((upN a s i).2 + loS (a.getD i 0) s)).set ((0 + (i + 1)) * 1) (hiS (a.getD i 0) s) = upR a s (i + 1) := by
  have h1 := @Pc (upN a s i).1 (upN a s i).2 ((upN a s i).2 + loS (a.getD i 0) s) (a.length + 1)
  rw [Ff] at h1
  unfold upR
  rw [h1]
  have hl : (upN a s (i + 1)).1.length = i + 1 := Ff a s (i + 1)
  have h2 := @E5 (upN a s (i + 1)).1 (a.length + 1) (hiS (a.getD i 0) s) (by omega)
  rw [hl] at h2
  rw [Nat.zero_add, Nat.mul_one]
  exact h2
theorem Rr {a : List Int} {s : Nat} : upR a s a.length = upL a s := D0 (by simp [Ff])
def dnD (a : List Int) (s i : Nat) : Int := a.getD i 0 / 2 ^ s + loS (a.getD (i + 1) 0) (64 - s)
def dnN (a : List Int) (s : Nat) : Nat → List Int
  | 0 => []
  | i + 1 => dnN a s i ++ [dnD a s i]
theorem H1 (a : List Int) (s : Nat) : ∀ i, (dnN a s i).length = i
  | 0 => rfl
  | i + 1 => by simp [dnN, H1 a s i]
theorem Abm {x : Int} {s : Nat} (h : s ≤ 64) (h0 : 0 ≤ x) (h1 : x < 18446744073709551616) : 0 ≤ x / 2 ^ s ∧ x / 2 ^ s < 2 ^ (64 - s) := by
  have := Lc (x := x) (s := 64 - s) (by omega) h0 h1
  unfold hiS at this
  rwa [show 64 - (64 - s) = s by omega] at this
theorem Ac7 {x y : Int} {s : Nat} (h : s ≤ 64) (h0 : 0 ≤ x) (h1 : x < 18446744073709551616) (hy : 0 ≤ y) : G2 .or .u64 (x / 2 ^ s) (loS y (64 - s)) = x / 2 ^ s + loS y (64 - s) ∧ x / 2 ^ s + loS y (64 - s) < 18446744073709551616 := by
  have hb := Abm h h0 h1
  exact Sz (by omega) hb.1 hb.2 hy
theorem X5 {a : List Int} {s i : Nat} (h : s ≤ 64) (ha : A3 a) : 0 ≤ dnD a s i ∧ dnD a s i < 18446744073709551616 := by
  have hx := Bg ha i
  have hb := Abm h hx.1 hx.2
  have hl := @K9 (a.getD (i + 1) 0) (64 - s)
  exact ⟨by unfold dnD; omega, (Ac7 h hx.1 hx.2 (Bg ha (i + 1)).1).2⟩
theorem Ac9 {a : List Int} {s : Nat} (hs : s ≤ 64) (ha : A3 a) : ∀ i, A3 (dnN a s i)
  | 0 => fun x hx => by simp [dnN] at hx
  | i + 1 => Ei (Ac9 hs ha i) (X5 hs ha).1 (X5 hs ha).2
theorem Aai {a : List Int} {s i : Nat} (hs : s ≤ 64) : 2 ^ s * dnD a s i = a.getD i 0 - a.getD i 0 % 2 ^ s + 18446744073709551616 * (a.getD (i + 1) 0 % 2 ^ s) := by
  unfold dnD
  rw [Tb (show 64 - s ≤ 64 by omega), show 64 - (64 - s) = s by omega]
  have e := Int.emod_add_mul_ediv (a.getD i 0) (2 ^ s)
  rw [Int.mul_add, ← Int.mul_assoc, Int.mul_comm (2 ^ s) (2 ^ (64 - s)), I9 hs]
  omega
theorem Ud {a : List Int} {s : Nat} (hs : s ≤ 64) : ∀ i, 2 ^ s * vl (dnN a s i) = vk a i - a.getD 0 0 % 2 ^ s + pB i * (a.getD i 0 % 2 ^ s)
  | 0 => by rw [vk_0]; simp [dnN, vl, pB]; omega
  | i + 1 => by
    have h := Ud (a := a) hs i
    have e := Aai (a := a) (i := i) hs
    rw [Da]
    simp only [dnN]
    rw [Ee, H1, Int.mul_add, h, Int.mul_left_comm]
    have : vl [dnD a s i] = dnD a s i := by simp [vl]
    rw [this, e, Int.mul_add, Int.mul_sub]
    simp only [pB]
    have hB : Bs = 18446744073709551616 := rfl
    rw [hB, ← Int.mul_assoc (pB i), Int.mul_comm (pB i) 18446744073709551616]
    omega
theorem Zz {a : List Int} {s : Nat} (hs : s ≤ 64) {x : Int} (h : vl a = 2 ^ s * x) : a.getD 0 0 % 2 ^ s = 0 := by
  cases a with
  | nil => simp
  | cons y l =>
    simp only [vl] at h
    show y % 2 ^ s = 0
    have hB : Bs = 2 ^ s * 2 ^ (64 - s) := by rw [Int.mul_comm, I9 hs]; rfl
    rw [hB, Int.mul_assoc] at h
    have : y = 2 ^ s * (x - 2 ^ (64 - s) * vl l) := by rw [Int.mul_sub]; omega
    rw [this, Int.mul_emod_right]
theorem Ac8 {a : List Int} {s : Nat} (hs : s ≤ 64) {x : Int} (h : vl a = 2 ^ s * x) : vl (dnN a s a.length) = x := by
  have h1 := Ud (a := a) hs a.length
  rw [Zz hs h, vk_all (Nat.le_refl _), Dw (Nat.le_refl _), Int.zero_emod, Int.mul_zero, h] at h1
  exact Int.eq_of_mul_eq_mul_left (Int.ne_of_gt (Fk s)) (by omega)


def rwJ (U : List Int) (j : Nat) (l : List Int) : List Int := U.take j ++ (l ++ U.drop (j + l.length))
theorem Abt {U : List Int} {j : Nat} : rwJ U j [] = U := by unfold rwJ; simp
theorem Ke {U : List Int} {j : Nat} {l : List Int} (h : j + l.length ≤ U.length) : (rwJ U j l).length = U.length := by
  unfold rwJ; simp only [List.length_append, List.length_take, List.length_drop]; omega
theorem Pe {U : List Int} {j k : Nat} {l : List Int} (h : l.length ≤ k) (hU : j + l.length ≤ U.length) : (rwJ U j l).getD ((j + k) * 1) 0 = U.getD (j + k) 0 := by
  unfold rwJ
  rw [Nat.mul_one, List.getD_eq_getElem?_getD, List.getElem?_append_right (by rw [List.length_take]; omega), List.length_take, Nat.min_eq_left (by omega), List.getElem?_append_right (by omega), List.getElem?_drop, List.getD_eq_getElem?_getD]
  congr 2; omega
theorem Abs {U : List Int} {j k : Nat} {l : List Int} (h : k < l.length) (hU : j + l.length ≤ U.length) : (rwJ U j l).getD ((j + k) * 1) 0 = l.getD k 0 := by
  unfold rwJ
  rw [Nat.mul_one, List.getD_eq_getElem?_getD, List.getElem?_append_right (by rw [List.length_take]; omega), List.length_take, Nat.min_eq_left (by omega), List.getElem?_append_left (by omega), List.getD_eq_getElem?_getD]
  congr 2; omega
theorem Ly {U : List Int} {j : Nat} {l : List Int} {v : Int} (hU : j + l.length < U.length) : (rwJ U j l).set ((j + l.length) * 1) v = rwJ U j (l ++ [v]) := by
  unfold rwJ
  rw [Nat.mul_one, List.set_append_right _ _ (by rw [List.length_take]; omega), List.length_take, Nat.min_eq_left (by omega), List.set_append_right _ _ (by omega),
    show j + l.length - j - l.length = 0 by omega, List.drop_eq_getElem_cons hU, List.set_cons_zero, List.length_append, List.length_singleton, List.append_assoc]
  rfl
theorem Za {U : List Int} {j : Nat} {l m : List Int} (h : m.length ≤ l.length) (hU : j + l.length ≤ U.length) : rwJ (rwJ U j l) j m = rwJ U j (m ++ l.drop m.length) := by
  unfold rwJ
  have hl : (U.take j).length = j := by rw [List.length_take]; omega
  rw [List.take_append_of_le_length (by omega), List.take_of_length_le (l := U.take j) (by omega), List.drop_append, hl, List.drop_of_length_le (l := U.take j) (by omega), List.nil_append,
    show j + m.length - j = m.length by omega, List.drop_append_of_le_length h]
  simp only [List.append_assoc, List.length_append, List.length_drop]
  rw [show m.length + (l.length - m.length) = l.length by omega]
def slJ (U : List Int) (j n : Nat) : List Int := (U.drop j).take n
theorem R7 {U : List Int} {j n : Nat} (h : j + n ≤ U.length) : (slJ U j n).length = n := by unfold slJ; rw [List.length_take, List.length_drop]; omega
theorem Abn {U : List Int} {j n k : Nat} (h : k < n) : (slJ U j n).getD k 0 = U.getD (j + k) 0 := by
  unfold slJ
  rw [It h, List.getD_eq_getElem?_getD, List.getElem?_drop, List.getD_eq_getElem?_getD]
theorem Ad9 {U : List Int} {j n : Nat} (h : A3 U) : A3 (slJ U j n) := D4 (E3 h _) _
theorem Aed {U : List Int} {j : Nat} {l : List Int} (h : A3 U) (hl : A3 l) : A3 (rwJ U j l) := Lr (D4 h _) (Lr hl (E3 h _))
theorem R6 (U : List Int) {j n : Nat} (h : j + n ≤ U.length) : vl U = vk U j + pB j * (vl (slJ U j n) + pB n * vl (U.drop (j + n))) := by
  have e1 : U = U.take j ++ ((U.drop j).take n ++ (U.drop j).drop n) := by rw [List.take_append_drop, List.take_append_drop]
  have hl1 : (U.take j).length = j := by rw [List.length_take]; omega
  have hl2 : ((U.drop j).take n).length = n := R7 h
  rw [List.drop_drop] at e1
  calc vl U = vl (U.take j ++ ((U.drop j).take n ++ U.drop (j + n))) := by rw [← e1]
    _ = _ := by rw [Ee, Ee, hl1, hl2]; rfl
theorem Y8 {U : List Int} {j : Nat} {l : List Int} (h : j + l.length ≤ U.length) : vl (rwJ U j l) = vk U j + pB j * (vl l + pB l.length * vl (U.drop (j + l.length))) := by
  unfold rwJ
  have hl1 : (U.take j).length = j := by rw [List.length_take]; omega
  rw [Ee, Ee, hl1]; rfl
def msS (u v : List Int) (q : Int) (i : Nat) (c : Int) : Int := (v.getD i 0 * q % 18446744073709551616 + c) % 18446744073709551616
def msC (v : List Int) (q : Int) (i : Nat) (c : Int) : Int := v.getD i 0 * q / 18446744073709551616 + (v.getD i 0 * q % 18446744073709551616 + c) / 18446744073709551616
def sbD (u s b : Int) : Int := if u < s + b then u - s - b + 18446744073709551616 else u - s - b
def sbB (u s b : Int) : Int := if u < s + b then 1 else 0
theorem Abr (u s b : Int) : sbD u s b = u - s - b + 18446744073709551616 * sbB u s b := by unfold sbD sbB; split <;> omega
theorem Sd (u s b : Int) : 0 ≤ sbB u s b ∧ sbB u s b ≤ 1 := by unfold sbB; split <;> omega
theorem Xg {u s b : Int} (hu0 : 0 ≤ u) (hu : u < 18446744073709551616) (hs0 : 0 ≤ s) (hs : s < 18446744073709551616) (hb0 : 0 ≤ b) (hb : b ≤ 1) : 0 ≤ sbD u s b ∧ sbD u s b < 18446744073709551616 := by unfold sbD; split <;> omega
def msN (u v : List Int) (q : Int) : Nat → List Int × Int × Int
  | 0 => ([], 0, 0)
  | i + 1 => ((msN u v q i).1 ++ [sbD (u.getD i 0) (msS u v q i (msN u v q i).2.1) (msN u v q i).2.2], msC v q i (msN u v q i).2.1, sbB (u.getD i 0) (msS u v q i (msN u v q i).2.1) (msN u v q i).2.2)
theorem Ge (u v : List Int) (q : Int) : ∀ i, (msN u v q i).1.length = i
  | 0 => rfl
  | i + 1 => by simp [msN, Ge u v q i]
theorem S3 {x y : Int} (hx0 : 0 ≤ x) (hx : x < 18446744073709551616) (hy0 : 0 ≤ y) (hy : y < 18446744073709551616) : 0 ≤ x * y ∧ x * y ≤ 340282366920938463426481119284349108225 := by
  have := Ik (m := 18446744073709551615) hx0 hy0 (by omega) (by omega)
  exact this
theorem Zu {u v : List Int} {q : Int} (hv : A3 v) (hq0 : 0 ≤ q) (hq : q < 18446744073709551616) : ∀ i, 0 ≤ (msN u v q i).2.1 ∧ (msN u v q i).2.1 < 18446744073709551616
  | 0 => by simp [msN]
  | i + 1 => by
    have h := Zu (u := u) hv hq0 hq i
    have hx := Bg hv i
    have hp := S3 hx.1 hx.2 hq0 hq
    show 0 ≤ msC v q i (msN u v q i).2.1 ∧ msC v q i (msN u v q i).2.1 < _
    unfold msC
    generalize v.getD i 0 * q = P at hp ⊢
    generalize (msN u v q i).2.1 = c at h ⊢
    omega
theorem Zv (u v : List Int) (q : Int) : ∀ i, 0 ≤ (msN u v q i).2.2 ∧ (msN u v q i).2.2 ≤ 1
  | 0 => by simp [msN]
  | i + 1 => Sd _ _ _
theorem Acf {u v : List Int} {q : Int} (hu : A3 u) (hv : A3 v) (hq0 : 0 ≤ q) (hq : q < 18446744073709551616) : ∀ i, A3 (msN u v q i).1
  | 0 => fun x hx => by simp [msN] at hx
  | i + 1 => by
    have hx := Bg hu i
    have hb := Zv u v q i
    have h := Xg hx.1 hx.2 (s := msS u v q i (msN u v q i).2.1) (b := (msN u v q i).2.2) (by unfold msS; omega) (by unfold msS; omega) hb.1 hb.2
    exact Ei (Acf hu hv hq0 hq i) h.1 h.2
theorem S5 (u v : List Int) (q : Int) : ∀ i, vl (msN u v q i).1 = vk u i - q * vk v i + pB i * ((msN u v q i).2.1 + (msN u v q i).2.2)
  | 0 => by rw [vk_0, vk_0]; simp [msN, vl]
  | i + 1 => by
    have h := S5 u v q i
    rw [Da, Da]
    simp only [msN]
    rw [Ee, Ge, h, Abr]
    have e1 : vl [u.getD i 0 - msS u v q i (msN u v q i).2.1 - (msN u v q i).2.2 + 18446744073709551616 * sbB (u.getD i 0) (msS u v q i (msN u v q i).2.1) (msN u v q i).2.2] = u.getD i 0 - msS u v q i (msN u v q i).2.1 - (msN u v q i).2.2 + 18446744073709551616 * sbB (u.getD i 0) (msS u v q i (msN u v q i).2.1) (msN u v q i).2.2 := by simp [vl]
    rw [e1]
    generalize sbB (u.getD i 0) (msS u v q i (msN u v q i).2.1) (msN u v q i).2.2 = b2
    have e2 : msS u v q i (msN u v q i).2.1 + 18446744073709551616 * msC v q i (msN u v q i).2.1 = v.getD i 0 * q + (msN u v q i).2.1 := by
      unfold msS msC
      generalize v.getD i 0 * q = P
      generalize (msN u v q i).2.1 = c
      omega
    generalize hs : msS u v q i (msN u v q i).2.1 = s at e2 ⊢
    generalize hc : msC v q i (msN u v q i).2.1 = c2 at e2 ⊢
    generalize (msN u v q i).2.1 = c at e2 ⊢
    generalize (msN u v q i).2.2 = b
    obtain rfl : s = v.getD i 0 * q + c - 18446744073709551616 * c2 := by omega
    simp only [pB]
    have hB : Bs = 18446744073709551616 := rfl
    rw [hB]
    generalize u.getD i 0 = x
    generalize v.getD i 0 = y
    have e3 : q * (vk v i + pB i * y) = q * vk v i + pB i * (y * q) := by rw [Int.mul_add, Int.mul_left_comm, Int.mul_comm q y]
    rw [e3]
    generalize pB i = p
    generalize y * q = z
    generalize q * vk v i = t
    have e4 : p * (x - (z + c - 18446744073709551616 * c2) - b + 18446744073709551616 * b2) = p * x - p * z - p * c - p * b + 18446744073709551616 * (p * (c2 + b2)) := by
      simp only [Int.mul_add, Int.mul_sub, Int.mul_left_comm p 18446744073709551616]
      omega
    rw [e4, Int.mul_add p c b, Int.mul_assoc]
    generalize p * (c2 + b2) = w
    generalize p * x = g1
    generalize p * z = g2
    generalize p * c = g3
    generalize p * b = g4
    omega
def msL (u v : List Int) (q : Int) : List Int := (msN u v q v.length).1 ++ [sbD (u.getD v.length 0) (msN u v q v.length).2.1 (msN u v q v.length).2.2]
def msB (u v : List Int) (q : Int) : Int := sbB (u.getD v.length 0) (msN u v q v.length).2.1 (msN u v q v.length).2.2
theorem L7 (u v : List Int) (q : Int) : (msL u v q).length = v.length + 1 := by simp [msL, Ge]
theorem Acg {u v : List Int} {q : Int} (hu : A3 u) (hv : A3 v) (hq0 : 0 ≤ q) (hq : q < 18446744073709551616) : A3 (msL u v q) := by
  have hc := Zu (u := u) hv hq0 hq v.length
  have hb := Zv u v q v.length
  have hx := Bg hu v.length
  have h := Xg hx.1 hx.2 hc.1 hc.2 hb.1 hb.2
  exact Ei (Acf hu hv hq0 hq _) h.1 h.2
theorem Zw {u v : List Int} {q : Int} (hl : u.length = v.length + 1) : vl (msL u v q) = vl u - q * vl v + pB (v.length + 1) * msB u v q := by
  unfold msL msB
  have h := S5 u v q v.length
  have hu : vl u = vk u v.length + pB v.length * u.getD v.length 0 := by rw [← Da, vk_all (by omega)]
  rw [Ee, Ge, h, Abr, hu, vk_all (Nat.le_refl v.length)]
  generalize sbB (u.getD v.length 0) (msN u v q v.length).2.1 (msN u v q v.length).2.2 = b2
  generalize (msN u v q v.length).2.1 = c
  generalize (msN u v q v.length).2.2 = b
  generalize u.getD v.length 0 = x
  have e1 : vl [x - c - b + 18446744073709551616 * b2] = x - c - b + 18446744073709551616 * b2 := by simp [vl]
  rw [e1]
  simp only [pB]
  have hB : Bs = 18446744073709551616 := rfl
  rw [hB]
  generalize pB v.length = p
  have e4 : p * (x - c - b + 18446744073709551616 * b2) = p * x - p * c - p * b + 18446744073709551616 * (p * b2) := by
    simp only [Int.mul_add, Int.mul_sub, Int.mul_left_comm p 18446744073709551616]
  rw [e4, Int.mul_add, Int.mul_assoc]
  generalize p * b2 = w
  generalize p * x = g1
  generalize p * c = g3
  generalize p * b = g4
  omega
def bkL (l v : List Int) : List Int := (adN l v v.length).1 ++ [(l.getD v.length 0 + (adN l v v.length).2) % 18446744073709551616]
theorem Mo (l v : List Int) : (bkL l v).length = v.length + 1 := by simp [bkL, Dk]
theorem Aew {l v : List Int} : A3 (bkL l v) := Ei (Q8 _) (by omega) (by omega)
theorem Aan {l v : List Int} (hl : l.length = v.length + 1) : ∃ e, vl (bkL l v) = vl l + vl v - pB (v.length + 1) * e := by
  refine ⟨(l.getD v.length 0 + (adN l v v.length).2) / 18446744073709551616, ?_⟩
  unfold bkL
  have h := Oq l v v.length
  have hu : vl l = vk l v.length + pB v.length * l.getD v.length 0 := by rw [← Da, vk_all (by omega)]
  rw [vk_all (Nat.le_refl v.length)] at h
  rw [Ee, Dk, hu]
  generalize l.getD v.length 0 = x
  generalize (adN l v v.length).2 = c at h ⊢
  have e1 : vl [(x + c) % 18446744073709551616] = x + c - 18446744073709551616 * ((x + c) / 18446744073709551616) := by simp only [vl]; omega
  rw [e1]
  simp only [pB]
  have hB : Bs = 18446744073709551616 := rfl
  rw [hB]
  generalize (x + c) / 18446744073709551616 = e
  generalize pB v.length = p at h ⊢
  have e4 : p * (x + c - 18446744073709551616 * e) = p * x + p * c - 18446744073709551616 * (p * e) := by
    simp only [Int.mul_add, Int.mul_sub, Int.mul_left_comm p 18446744073709551616]
  rw [e4, Int.mul_assoc]
  generalize p * e = w
  omega
def gsQ (u v : List Int) (q : Int) : Int := q - msB u v q
def gsL (u v : List Int) (q : Int) : List Int := if msB u v q = 0 then msL u v q else bkL (msL u v q) v
theorem Acy {u v : List Int} {q : Int} (hu : A3 u) (hv : A3 v) (hl : u.length = v.length + 1) (hv0 : 0 < vl v) (hq0 : 0 ≤ q) (hq : q < 18446744073709551616)
    (h1 : vl u / vl v ≤ q) (h2 : q ≤ vl u / vl v + 1) :
    gsQ u v q = vl u / vl v ∧ (gsL u v q).length = v.length + 1 ∧ A3 (gsL u v q) ∧ vl (gsL u v q) = vl u % vl v := by
  have hm := Zw (u := u) (v := v) (q := q) hl
  have um := Acg (u := u) (v := v) (q := q) hu hv hq0 hq
  have b0 := Bq um
  have b1 := Fe um
  rw [L7] at b1
  have hbb := Sd (u.getD v.length 0) (msN u v q v.length).2.1 (msN u v q v.length).2.2
  have ed := Int.emod_add_mul_ediv (vl u) (vl v)
  have r0 := Int.emod_nonneg (vl u) (Int.ne_of_gt hv0)
  have r1 := Int.emod_lt_of_pos (vl u) hv0
  have up := Bq hu
  have ul := Fe hu
  have vu := Bq hv
  have vlt := Fe hv
  have hpm := Fj (show v.length ≤ v.length + 1 by omega)
  rw [hl] at ul
  unfold gsQ gsL
  by_cases hb : msB u v q = 0
  · rw [if_pos hb, hb]
    rw [hb, Int.mul_zero] at hm
    have hq1 : q = vl u / vl v := by
      rcases Int.lt_or_le (vl u / vl v) q with hlt | hle
      · exfalso
        have hq2 : q = vl u / vl v + 1 := by omega
        have hqv : q * vl v = vl v * (vl u / vl v) + vl v := by rw [hq2, Int.add_mul, Int.one_mul, Int.mul_comm (vl u / vl v)]
        omega
      · omega
    have hqv : q * vl v = vl v * (vl u / vl v) := by rw [← hq1, Int.mul_comm]
    exact ⟨by omega, L7 _ _ _, um, by omega⟩
  · have hb1 : msB u v q = 1 := by unfold msB at hb ⊢; omega
    rw [if_neg hb, hb1]
    rw [hb1, Int.mul_one] at hm
    have hq1 : q = vl u / vl v + 1 := by
      rcases Int.lt_or_le (vl u / vl v) q with hlt | hle
      · omega
      · exfalso
        have hq2 : q = vl u / vl v := by omega
        have hqv : q * vl v = vl v * (vl u / vl v) := by rw [hq2, Int.mul_comm]
        omega
    obtain ⟨e, he⟩ := Aan (l := msL u v q) (v := v) (L7 _ _ _)
    have ub : A3 (bkL (msL u v q) v) := Aew
    have c0 := Bq ub
    have c1 := Fe ub
    rw [Mo] at c1
    have hqv : q * vl v = vl v * (vl u / vl v) + vl v := by rw [hq1, Int.add_mul, Int.one_mul, Int.mul_comm (vl u / vl v)]
    have he1 : e = 1 := by
      have hpp := Dn (v.length + 1)
      rcases Int.lt_trichotomy e 1 with h | h | h
      · exfalso
        have : pB (v.length + 1) * e ≤ pB (v.length + 1) * 0 := Int.mul_le_mul_of_nonneg_left (by omega) (by omega)
        omega
      · exact h
      · exfalso
        have : pB (v.length + 1) * 2 ≤ pB (v.length + 1) * e := Int.mul_le_mul_of_nonneg_left (by omega) (by omega)
        omega
    rw [he1, Int.mul_one] at he
    exact ⟨by omega, Mo _ _, ub, by omega⟩


theorem Ua {P V U q r v1 v2 u0 u1 u2 lv lu : Int} (hP : 0 < P) (hV : V = lv + P * (v2 + 18446744073709551616 * v1)) (hU : U = lu + P * (u2 + 18446744073709551616 * u1 + 340282366920938463463374607431768211456 * u0))
    (h1 : 0 ≤ lv) (h2 : lu < P) (h3 : 0 ≤ v2) (h4 : u2 < 18446744073709551616) (hq : 0 ≤ q) (he : q * v1 + r = u0 * 18446744073709551616 + u1) (hr : r < v1) : U < (q + 1) * V := by
  have f1 : 0 ≤ P * (q * v1 + v1 - u0 * 18446744073709551616 - u1 - 1) := Int.mul_nonneg (by omega) (by omega)
  have f4 : 0 ≤ P * v2 := Int.mul_nonneg (by omega) h3
  have f2 : 0 ≤ (q + 1) * (V - P * (18446744073709551616 * v1)) := Int.mul_nonneg (by omega) (by rw [hV, Int.mul_add]; omega)
  have f3 : 0 ≤ P * (18446744073709551615 - u2) := Int.mul_nonneg (by omega) (by omega)
  have e1 : P * (q * v1 + v1 - u0 * 18446744073709551616 - u1 - 1) = P * (q * v1) + P * v1 - 18446744073709551616 * (P * u0) - P * u1 - P := by
    rw [Int.mul_comm u0]; simp only [Int.mul_add, Int.mul_sub, Int.mul_left_comm P 18446744073709551616, Int.mul_one]
  have e2 : (q + 1) * (V - P * (18446744073709551616 * v1)) = q * V + V - 18446744073709551616 * (P * (q * v1)) - 18446744073709551616 * (P * v1) := by
    rw [Int.mul_left_comm P 18446744073709551616, Int.mul_sub, Int.add_mul, Int.add_mul, Int.mul_left_comm q 18446744073709551616, Int.mul_left_comm q P]; omega
  have e3 : P * (18446744073709551615 - u2) = 18446744073709551615 * P - P * u2 := by rw [Int.mul_sub, Int.mul_comm P]
  have e4 : P * (u2 + 18446744073709551616 * u1 + 340282366920938463463374607431768211456 * u0) = P * u2 + 18446744073709551616 * (P * u1) + 340282366920938463463374607431768211456 * (P * u0) := by
    simp only [Int.mul_add, Int.mul_left_comm P 18446744073709551616, Int.mul_left_comm P 340282366920938463463374607431768211456]
  rw [e1] at f1; rw [e2] at f2; rw [e3] at f3; rw [e4] at hU
  rw [Int.add_mul, Int.one_mul]
  omega
theorem Wl {P V U q r v1 v2 u0 u1 u2 lv lu : Int} (hP : 0 < P) (hV : V = lv + P * (v2 + 18446744073709551616 * v1)) (hU : U = lu + P * (u2 + 18446744073709551616 * u1 + 340282366920938463463374607431768211456 * u0))
    (h1 : 0 ≤ lv) (h2 : lu < P) (hq : 0 ≤ q) (he : q * v1 + r = u0 * 18446744073709551616 + u1) (hc : r * 18446744073709551616 + u2 < q * v2) : U < q * V := by
  have f1 : 0 ≤ P * (q * v2 - r * 18446744073709551616 - u2 - 1) := Int.mul_nonneg (by omega) (by omega)
  have f2 : 0 ≤ q * lv := Int.mul_nonneg hq h1
  have f3 : P * (q * v1 + r) = P * (u0 * 18446744073709551616 + u1) := by rw [he]
  have e1 : P * (q * v2 - r * 18446744073709551616 - u2 - 1) = P * (q * v2) - 18446744073709551616 * (P * r) - P * u2 - P := by
    rw [Int.mul_comm r]; simp only [Int.mul_add, Int.mul_sub, Int.mul_left_comm P 18446744073709551616, Int.mul_one]
  have e3 : P * (u0 * 18446744073709551616 + u1) = 18446744073709551616 * (P * u0) + P * u1 := by rw [Int.mul_comm u0, Int.mul_add, Int.mul_left_comm P]
  have e4 : P * (u2 + 18446744073709551616 * u1 + 340282366920938463463374607431768211456 * u0) = P * u2 + 18446744073709551616 * (P * u1) + 340282366920938463463374607431768211456 * (P * u0) := by
    simp only [Int.mul_add, Int.mul_left_comm P 18446744073709551616, Int.mul_left_comm P 340282366920938463463374607431768211456]
  have e5 : q * V = q * lv + P * (q * v2) + 18446744073709551616 * (P * (q * v1)) := by
    rw [hV, Int.mul_add, Int.mul_add P, Int.mul_add q, Int.mul_left_comm q P, Int.mul_left_comm P 18446744073709551616, Int.mul_left_comm q 18446744073709551616, Int.mul_left_comm q P v1]; omega
  rw [e1] at f1; rw [Int.mul_add, e3] at f3; rw [e4] at hU; rw [e5]
  omega
theorem Wm {P V U q r v1 v2 u0 u1 u2 lv lu : Int} (hP : 0 < P) (hV : V = lv + P * (v2 + 18446744073709551616 * v1)) (hU : U = lu + P * (u2 + 18446744073709551616 * u1 + 340282366920938463463374607431768211456 * u0))
    (h1 : 0 ≤ lv) (h2 : lv < P) (h3 : 0 ≤ lu) (h4 : 0 ≤ v2) (hv : 1 ≤ v1) (hq : 0 ≤ q) (hq1 : q < 18446744073709551616) (he : q * v1 + r = u0 * 18446744073709551616 + u1) (hc : q * v2 ≤ r * 18446744073709551616 + u2) : (q - 1) * V ≤ U := by
  have f1 : 0 ≤ P * (r * 18446744073709551616 + u2 - q * v2) := Int.mul_nonneg (by omega) (by omega)
  have f2 : q * lv ≤ 18446744073709551615 * P := Int.mul_le_mul (by omega) (by omega) h1 (by omega)
  have f3 : P * (q * v1 + r) = P * (u0 * 18446744073709551616 + u1) := by rw [he]
  have f4 : 0 ≤ P * (v1 - 1) := Int.mul_nonneg (by omega) (by omega)
  have f5 : 0 ≤ P * v2 := Int.mul_nonneg (by omega) h4
  have e1 : P * (r * 18446744073709551616 + u2 - q * v2) = 18446744073709551616 * (P * r) + P * u2 - P * (q * v2) := by
    rw [Int.mul_comm r]; simp only [Int.mul_add, Int.mul_sub, Int.mul_left_comm P 18446744073709551616]
  have e3 : P * (u0 * 18446744073709551616 + u1) = 18446744073709551616 * (P * u0) + P * u1 := by rw [Int.mul_comm u0, Int.mul_add, Int.mul_left_comm P]
  have e4 : P * (u2 + 18446744073709551616 * u1 + 340282366920938463463374607431768211456 * u0) = P * u2 + 18446744073709551616 * (P * u1) + 340282366920938463463374607431768211456 * (P * u0) := by
    simp only [Int.mul_add, Int.mul_left_comm P 18446744073709551616, Int.mul_left_comm P 340282366920938463463374607431768211456]
  have e5 : q * V = q * lv + P * (q * v2) + 18446744073709551616 * (P * (q * v1)) := by
    rw [hV, Int.mul_add, Int.mul_add P, Int.mul_add q, Int.mul_left_comm q P, Int.mul_left_comm P 18446744073709551616, Int.mul_left_comm q 18446744073709551616, Int.mul_left_comm q P v1]; omega
  have e6 : P * (v2 + 18446744073709551616 * v1) = P * v2 + 18446744073709551616 * (P * v1) := by rw [Int.mul_add, Int.mul_left_comm P]
  rw [e1] at f1; rw [Int.mul_add, e3] at f3; rw [e4] at hU; rw [Int.mul_sub, Int.mul_one] at f4
  rw [Int.sub_mul, Int.one_mul, e5]
  rw [e6] at hV
  omega
theorem Aae {P V U v1 v2 u0 u1 u2 lv lu : Int} (hP : 0 < P) (hV : V = lv + P * (v2 + 18446744073709551616 * v1)) (hU : U = lu + P * (u2 + 18446744073709551616 * u1 + 340282366920938463463374607431768211456 * u0))
    (h2 : lv < P) (h3 : 0 ≤ lu) (h4 : 0 ≤ u2) (h5 : 0 ≤ u1) (h6 : v2 < 18446744073709551616) (hlt : U < V * 18446744073709551616) : u0 ≤ v1 := by
  rcases Int.lt_or_le v1 u0 with h | h
  · exfalso
    have f1 : 0 ≤ P * (u0 - v1 - 1) := Int.mul_nonneg (by omega) (by omega)
    have f2 : 0 ≤ P * u2 := Int.mul_nonneg (by omega) h4
    have f3 : 0 ≤ P * u1 := Int.mul_nonneg (by omega) h5
    have f4 : 0 ≤ P * (18446744073709551615 - v2) := Int.mul_nonneg (by omega) (by omega)
    have e4 : P * (u2 + 18446744073709551616 * u1 + 340282366920938463463374607431768211456 * u0) = P * u2 + 18446744073709551616 * (P * u1) + 340282366920938463463374607431768211456 * (P * u0) := by
      simp only [Int.mul_add, Int.mul_left_comm P 18446744073709551616, Int.mul_left_comm P 340282366920938463463374607431768211456]
    have e6 : P * (v2 + 18446744073709551616 * v1) = P * v2 + 18446744073709551616 * (P * v1) := by rw [Int.mul_add, Int.mul_left_comm P]
    rw [e4] at hU; rw [e6] at hV
    simp only [Int.mul_sub, Int.mul_one] at f1 f4
    rw [Int.mul_comm P] at f4
    omega
  · exact h
theorem J9 {v : List Int} {n : Nat} (hn : v.length = n + 2) : vl v = vk v n + pB n * (v.getD n 0 + 18446744073709551616 * v.getD (n + 1) 0) := by
  have h1 : vl v = vk v (n + 2) := (vk_all (by omega)).symm
  rw [h1, Da, Da]
  simp only [pB]
  have hB : Bs = 18446744073709551616 := rfl
  rw [hB, Int.mul_add, Int.mul_left_comm (pB n) 18446744073709551616, ← Int.mul_assoc 18446744073709551616]
  omega
theorem H9 {u : List Int} {n : Nat} (hn : u.length = n + 3) : vl u = vk u n + pB n * (u.getD n 0 + 18446744073709551616 * u.getD (n + 1) 0 + 340282366920938463463374607431768211456 * u.getD (n + 2) 0) := by
  have h1 : vl u = vk u (n + 3) := (vk_all (by omega)).symm
  rw [h1, Da, Da, Da]
  simp only [pB]
  have hB : Bs = 18446744073709551616 := rfl
  rw [hB, Int.mul_add, Int.mul_add, Int.mul_left_comm (pB n) 18446744073709551616, Int.mul_left_comm (pB n) 340282366920938463463374607431768211456]
  simp only [Int.mul_assoc]
  omega
theorem J6 {v : List Int} (hv : A3 v) {n : Nat} (h : n ≤ v.length) : 0 ≤ vk v n ∧ vk v n < pB n := by
  refine ⟨H6 hv n, ?_⟩
  have := Fe (D4 hv n)
  rwa [List.length_take, Nat.min_eq_left h] at this
def Est (u v : List Int) (n : Nat) (q r : Int) : Prop :=
  q * v.getD (n + 1) 0 + r = u.getD (n + 2) 0 * 18446744073709551616 + u.getD (n + 1) 0 ∧ vl u / vl v ≤ q ∧ 0 ≤ q ∧ q < 18446744073709551616 ∧ 0 ≤ r
structure GuP (u v : List Int) (n : Nat) : Prop where
  uu : A3 u
  uv : A3 v
  lu : u.length = n + 3
  lv : v.length = n + 2
  lt : vl u < vl v * 18446744073709551616
  top : 1 ≤ v.getD (n + 1) 0
theorem GuP.pos {u v : List Int} {n : Nat} (h : GuP u v n) : 0 < vl v := by
  have h1 := J9 h.lv
  have b := J6 h.uv (n := n) (by rw [h.lv]; omega)
  have x := Bg h.uv n
  have hp := Dn n
  have t := h.top
  have : 0 < pB n * (v.getD n 0 + 18446744073709551616 * v.getD (n + 1) 0) := Int.mul_pos hp (by omega)
  omega
theorem GuP.q_lt {u v : List Int} {n : Nat} (h : GuP u v n) : vl u / vl v < 18446744073709551616 := Int.ediv_lt_of_lt_mul h.pos (by rw [Int.mul_comm]; exact h.lt)
theorem GuP.q_nn {u v : List Int} {n : Nat} (h : GuP u v n) : 0 ≤ vl u / vl v := Int.ediv_nonneg (Bq h.uu) (Int.le_of_lt h.pos)
theorem GuP.u_top {u v : List Int} {n : Nat} (h : GuP u v n) : u.getD (n + 2) 0 ≤ v.getD (n + 1) 0 := by
  have bv := J6 h.uv (n := n) (by rw [h.lv]; omega)
  have bu := J6 h.uu (n := n) (by rw [h.lu]; omega)
  exact Aae (Dn n) (J9 h.lv) (H9 h.lu) bv.2 bu.1 (Bg h.uu n).1 (Bg h.uu (n + 1)).1 (Bg h.uv n).2 h.lt
theorem GuP.first_eq {u v : List Int} {n : Nat} (h : GuP u v n) (hc : v.getD (n + 1) 0 ≤ u.getD (n + 2) 0) : Est u v n 18446744073709551615 (u.getD (n + 1) 0 + v.getD (n + 1) 0) := by
  have t := h.u_top
  have := h.q_lt
  have x := Bg h.uu (n + 1)
  have y := Bg h.uv (n + 1)
  exact ⟨by omega, by omega, by omega, by omega, by omega⟩
theorem GuP.first_div {u v : List Int} {n : Nat} (h : GuP u v n) (hc : u.getD (n + 2) 0 < v.getD (n + 1) 0) :
    Est u v n ((u.getD (n + 2) 0 * 18446744073709551616 + u.getD (n + 1) 0) / v.getD (n + 1) 0) ((u.getD (n + 2) 0 * 18446744073709551616 + u.getD (n + 1) 0) % v.getD (n + 1) 0) := by
  have bv := J6 h.uv (n := n) (by rw [h.lv]; omega)
  have bu := J6 h.uu (n := n) (by rw [h.lu]; omega)
  have x := Bg h.uu (n + 1)
  have x2 := Bg h.uu (n + 2)
  have t := h.top
  have e := Int.emod_add_mul_ediv (u.getD (n + 2) 0 * 18446744073709551616 + u.getD (n + 1) 0) (v.getD (n + 1) 0)
  have r1 := Int.emod_lt_of_pos (u.getD (n + 2) 0 * 18446744073709551616 + u.getD (n + 1) 0) (show 0 < v.getD (n + 1) 0 by omega)
  have r0 := Int.emod_nonneg (u.getD (n + 2) 0 * 18446744073709551616 + u.getD (n + 1) 0) (show v.getD (n + 1) 0 ≠ 0 by omega)
  have q0 : 0 ≤ (u.getD (n + 2) 0 * 18446744073709551616 + u.getD (n + 1) 0) / v.getD (n + 1) 0 := Int.ediv_nonneg (by omega) (by omega)
  have q1 : (u.getD (n + 2) 0 * 18446744073709551616 + u.getD (n + 1) 0) / v.getD (n + 1) 0 < 18446744073709551616 := Int.ediv_lt_of_lt_mul (by omega) (by omega)
  generalize (u.getD (n + 2) 0 * 18446744073709551616 + u.getD (n + 1) 0) / v.getD (n + 1) 0 = q at *
  generalize hr : (u.getD (n + 2) 0 * 18446744073709551616 + u.getD (n + 1) 0) % v.getD (n + 1) 0 = r at *
  rw [Int.mul_comm] at e
  have hh := Ua (Dn n) (J9 h.lv) (H9 h.lu) bv.1 bu.2 (Bg h.uv n).1 (Bg h.uu n).2 q0 (by omega) r1
  refine ⟨by omega, ?_, q0, q1, r0⟩
  exact Int.le_of_lt_add_one (Int.ediv_lt_of_lt_mul h.pos hh)
theorem GuP.next {u v : List Int} {n : Nat} {q r : Int} (h : GuP u v n) (he : Est u v n q r) (hc : r * 18446744073709551616 + u.getD n 0 < q * v.getD n 0) : Est u v n (q - 1) (r + v.getD (n + 1) 0) ∧ 1 ≤ q := by
  obtain ⟨e1, e2, e3, e4, e5⟩ := he
  have bv := J6 h.uv (n := n) (by rw [h.lv]; omega)
  have bu := J6 h.uu (n := n) (by rw [h.lu]; omega)
  have y := Bg h.uv (n + 1)
  have hh := Wl (Dn n) (J9 h.lv) (H9 h.lu) bv.1 bu.2 e3 e1 hc
  have := Int.ediv_lt_of_lt_mul h.pos hh
  have := h.q_nn
  refine ⟨⟨by rw [Int.sub_mul]; omega, by omega, by omega, by omega, by omega⟩, by omega⟩
theorem GuP.last {u v : List Int} {n : Nat} {q r : Int} (h : GuP u v n) (he : Est u v n q r) (hc : q * v.getD n 0 ≤ r * 18446744073709551616 + u.getD n 0) : q ≤ vl u / vl v + 1 := by
  obtain ⟨e1, e2, e3, e4, e5⟩ := he
  have bv := J6 h.uv (n := n) (by rw [h.lv]; omega)
  have bu := J6 h.uu (n := n) (by rw [h.lu]; omega)
  have hh := Wm (Dn n) (J9 h.lv) (H9 h.lu) bv.1 bv.2 bu.1 (Bg h.uv n).1 h.top e3 e4 e1 hc
  have := (Int.le_ediv_iff_mul_le h.pos).2 hh
  omega
theorem GuP.over {u v : List Int} {n : Nat} {q r : Int} (h : GuP u v n) (he : Est u v n q r) (hc : 18446744073709551616 ≤ r) : q ≤ vl u / vl v + 1 := by
  refine h.last he ?_
  obtain ⟨e1, e2, e3, e4, e5⟩ := he
  have x := Bg h.uv n
  have y := Bg h.uu n
  have := S3 e3 e4 x.1 x.2
  omega
def Hf (N y u q r : Int) : Prop := q * (y / 4294967296) + r = u ∧ N / y ≤ q ∧ q ≤ 4294967297 ∧ 0 ≤ r
structure HfP (N y u w : Int) : Prop where
  en : N = u * 4294967296 + w
  w0 : 0 ≤ w
  w1 : w < 4294967296
  u0 : 0 ≤ u
  lt : u < y
  y0 : 9223372036854775808 ≤ y
  y1 : y < 18446744073709551616
theorem HfP.q_lt {N y u w : Int} (h : HfP N y u w) : N / y < 4294967296 := Int.ediv_lt_of_lt_mul (by have := h.y0; omega) (by have := h.en; have := h.lt; have := h.w1; omega)
theorem HfP.q_nn {N y u w : Int} (h : HfP N y u w) : 0 ≤ N / y := Int.ediv_nonneg (by have := h.en; have := h.w0; have := h.u0; omega) (by have := h.y0; omega)
theorem HfP.first {N y u w : Int} (h : HfP N y u w) : Hf N y u (u / (y / 4294967296)) (u - u / (y / 4294967296) * (y / 4294967296)) ∧ 0 ≤ u / (y / 4294967296) ∧ u - u / (y / 4294967296) * (y / 4294967296) < 4294967296 := by
  obtain ⟨he, w0, w1, u0, hlt, y0, y1⟩ := h
  unfold Hf
  have hy : y = y / 4294967296 * 4294967296 + y % 4294967296 := by omega
  have hb : 0 ≤ y % 4294967296 ∧ y % 4294967296 < 4294967296 := by omega
  have ha : 2147483648 ≤ y / 4294967296 ∧ y / 4294967296 < 4294967296 := by omega
  generalize y / 4294967296 = a at *
  generalize y % 4294967296 = b at *
  have e := Int.emod_add_mul_ediv u a
  have r1 := Int.emod_lt_of_pos u (show 0 < a by omega)
  have r0 := Int.emod_nonneg u (show a ≠ 0 by omega)
  have q0 : 0 ≤ u / a := Int.ediv_nonneg u0 (by omega)
  generalize u / a = q at *
  generalize u % a = r at *
  rw [Int.mul_comm] at e
  refine ⟨⟨by omega, ?_, ?_, by omega⟩, q0, by omega⟩
  · refine Int.le_of_lt_add_one (Int.ediv_lt_of_lt_mul (by omega) ?_)
    have f1 : (q + 1) * y = 4294967296 * (q * a) + 4294967296 * a + (q + 1) * b := by
      rw [hy, Int.mul_add, Int.add_mul q 1 (a * 4294967296), ← Int.mul_assoc]; omega
    have f2 : 0 ≤ (q + 1) * b := Int.mul_nonneg (by omega) hb.1
    omega
  · rcases Int.lt_or_le 4294967297 q with h | h
    · exfalso
      have f : 4294967298 * a ≤ q * a := Int.mul_le_mul_of_nonneg_right (by omega) (by omega)
      omega
    · exact h
theorem HfP.next {N y u w q r : Int} (h : HfP N y u w) (hf : Hf N y u q r) (hc : 4294967296 ≤ q ∨ 4294967296 * r + w < q * (y % 4294967296)) : Hf N y u (q - 1) (r + y / 4294967296) ∧ 1 ≤ q ∧ q - 1 ≤ 4294967296 := by
  obtain ⟨e1, e2, e3, e4⟩ := hf
  have hq := h.q_lt
  have hn := h.q_nn
  obtain ⟨he, w0, w1, u0, hlt, y0, y1⟩ := h
  have hlt2 : N / y < q := by
    rcases hc with hc | hc
    · omega
    · refine Int.ediv_lt_of_lt_mul (by omega) ?_
      have hy : q * y = q * (y / 4294967296 * 4294967296 + y % 4294967296) := by congr 1; omega
      rw [hy, Int.mul_add, ← Int.mul_assoc]
      omega
  exact ⟨⟨by rw [Int.sub_mul]; omega, by omega, by omega, by omega⟩, by omega, by omega⟩
theorem HfP.last {N y u w q r : Int} (h : HfP N y u w) (hf : Hf N y u q r) (hc : q * (y % 4294967296) ≤ 4294967296 * r + w) : q = N / y := by
  obtain ⟨e1, e2, e3, e4⟩ := hf
  obtain ⟨he, w0, w1, u0, hlt, y0, y1⟩ := h
  have : q ≤ N / y := by
    refine (Int.le_ediv_iff_mul_le (by omega)).2 ?_
    have hy : q * y = q * (y / 4294967296 * 4294967296 + y % 4294967296) := by congr 1; omega
    rw [hy, Int.mul_add, ← Int.mul_assoc]
    omega
  omega
theorem HfP.over {N y u w q r : Int} (h : HfP N y u w) (hf : Hf N y u q r) (hq : 0 ≤ q) (hq1 : q ≤ 4294967296) (hc : 4294967296 ≤ r) : q = N / y := by
  refine h.last hf ?_
  obtain ⟨he, w0, w1, u0, hlt, y0, y1⟩ := h
  have f : q * (y % 4294967296) ≤ 4294967296 * 4294967295 := Int.mul_le_mul hq1 (by omega) (by omega) (by omega)
  omega
theorem HfP.rest {N y u w : Int} (h : HfP N y u w) : IntKind.u64.wrap (IntKind.u64.wrap (IntKind.u64.wrap (u * 4294967296) + w) - IntKind.u64.wrap (N / y * y)) = N % y := by
  have e := Int.emod_add_mul_ediv N y
  have r1 := Int.emod_lt_of_pos N (show 0 < y by have := h.y0; omega)
  have r0 := Int.emod_nonneg N (show y ≠ 0 by have := h.y0; omega)
  have := h.y1
  have := h.en
  simp only [Eq]
  rw [Int.mul_comm] at e
  generalize N / y * y = z at *
  generalize N % y = r at *
  omega
theorem HfP.rest_lt {N y u w : Int} (h : HfP N y u w) : 0 ≤ N % y ∧ N % y < y :=
  ⟨Int.emod_nonneg N (by have := h.y0; omega), Int.emod_lt_of_pos N (by have := h.y0; omega)⟩
theorem V6 {k : IntKind} {x y : Int} : G2 .or k x y = G2 .or k y x := by
  unfold G2; simp only [BitVec.or_comm]
theorem Ws {hi lo y : Int} {s : Nat} (hs : s < 64) (h0 : 0 ≤ hi) (hlt : hi < y) (l0 : 0 ≤ lo) (l1 : lo < 18446744073709551616)
    (y0 : 9223372036854775808 ≤ y * 2 ^ s) (y1 : y * 2 ^ s < 18446744073709551616) :
    let Y := y * 2 ^ s
    let U := hi * 2 ^ s + hiS lo s
    let w1 := loS lo s / 4294967296
    let w0 := loS lo s % 4294967296
    let N1 := U * 4294967296 + w1
    let N2 := N1 % Y * 4294967296 + w0
    HfP N1 Y U w1 ∧ HfP N2 Y (N1 % Y) w0 ∧ N1 / Y * 4294967296 + N2 / Y = (hi * 18446744073709551616 + lo) / y ∧ N2 % Y / 2 ^ s = (hi * 18446744073709551616 + lo) % y := by
  intro Y U w1 w0 N1 N2
  have hb := Lc (s := s) (Nat.le_of_lt hs) l0 l1
  have lb := @K9 lo s
  have hp := Fk s
  have hU0 : 0 ≤ U := by
    have : 0 ≤ hi * 2 ^ s := Int.mul_nonneg h0 (by omega)
    show 0 ≤ hi * 2 ^ s + hiS lo s
    omega
  have hU1 : U < Y := by
    have h1 : (hi + 1) * 2 ^ s ≤ y * 2 ^ s := Int.mul_le_mul_of_nonneg_right (by omega) (by omega)
    rw [Int.add_mul, Int.one_mul] at h1
    show hi * 2 ^ s + hiS lo s < y * 2 ^ s
    omega
  have hP1 : HfP N1 Y U w1 := ⟨rfl, by show 0 ≤ loS lo s / 4294967296; omega, by show loS lo s / 4294967296 < 4294967296; omega, hU0, hU1, y0, y1⟩
  have hr := hP1.rest_lt
  have hP2 : HfP N2 Y (N1 % Y) w0 := ⟨rfl, by show 0 ≤ loS lo s % 4294967296; omega, by show loS lo s % 4294967296 < 4294967296; omega, hr.1, hr.2, y0, y1⟩
  refine ⟨hP1, hP2, ?_⟩
  have hr2 := hP2.rest_lt
  have e1 := Int.emod_add_mul_ediv N1 Y
  have e2 := Int.emod_add_mul_ediv N2 Y
  -- the whole: (hi B + lo) 2^s = Y (Q1 2^32 + Q0) + R0
  have eA : (hi * 18446744073709551616 + lo) * 2 ^ s = U * 18446744073709551616 + loS lo s := by
    have := Aem (x := lo) (s := s) (Nat.le_of_lt hs)
    rw [Int.add_mul, this]
    show hi * 18446744073709551616 * 2 ^ s + _ = (hi * 2 ^ s + hiS lo s) * 18446744073709551616 + _
    rw [Int.mul_right_comm]; omega
  have eB : N1 = U * 4294967296 + loS lo s / 4294967296 := rfl
  have eC : N2 = N1 % Y * 4294967296 + loS lo s % 4294967296 := rfl
  generalize hq1 : N1 / Y = Q1 at *
  generalize hq0 : N2 / Y = Q0 at *
  generalize hr1 : N1 % Y = R1 at *
  generalize hr0 : N2 % Y = R0 at *
  have eD : (hi * 18446744073709551616 + lo) * 2 ^ s = Y * (Q1 * 4294967296 + Q0) + R0 := by
    rw [eA, Int.mul_add, ← Int.mul_assoc]
    generalize Y * Q1 = z1 at *
    generalize Y * Q0 = z0 at *
    omega
  have eE : Y * (Q1 * 4294967296 + Q0) = y * (Q1 * 4294967296 + Q0) * 2 ^ s := by
    show y * 2 ^ s * _ = _
    rw [Int.mul_right_comm]
  rw [eE] at eD
  have hR : R0 = ((hi * 18446744073709551616 + lo) - y * (Q1 * 4294967296 + Q0)) * 2 ^ s := by rw [Int.sub_mul]; omega
  generalize hA : hi * 18446744073709551616 + lo = A at *
  generalize hQ : Q1 * 4294967296 + Q0 = Q at *
  generalize hT : A - y * Q = T at *
  have hT0 : 0 ≤ T := by
    rcases Int.lt_or_le T 0 with h | h
    · exfalso
      have := Int.mul_neg_of_neg_of_pos h hp
      omega
    · exact h
  have hT1 : T < y := by
    rcases Int.lt_or_le T y with h | h
    · exact h
    · exfalso
      have h1 : y * 2 ^ s ≤ T * 2 ^ s := Int.mul_le_mul_of_nonneg_right h (by omega)
      have h2 : R0 < y * 2 ^ s := hr2.2
      omega
  have hA2 : A = T + y * Q := by omega
  refine ⟨?_, ?_⟩
  · rw [hA2, Int.add_mul_ediv_left _ _ (by omega), Int.ediv_eq_zero_of_lt hT0 hT1]; omega
  · rw [hR, Int.mul_ediv_cancel _ (by omega), hA2, Int.add_mul_emod_self_left, Int.emod_eq_of_lt hT0 hT1]


theorem L4 {x d : Int} (h0 : 0 ≤ x) (h1 : x < 18446744073709551616) (hd : 0 < d) : IntKind.u64.wrap (Int.tdiv x d) = x / d := by
  rw [Int.tdiv_eq_ediv_of_nonneg h0]
  exact Bh (Int.ediv_nonneg h0 (by omega)) (Int.lt_of_le_of_lt (Int.ediv_le_self d h0) h1)
theorem R4 {x z : Int} (h0 : 0 ≤ x - z) (h1 : x - z < 18446744073709551616) : IntKind.u64.wrap (x - IntKind.u64.wrap z) = x - z := by
  simp only [Eq]; omega
theorem Y2 {x Y : Int} {s : Nat} (h : s ≤ 64) (hY : x * 2 ^ s = Y) (h0 : 0 ≤ Y) (h1 : Y < 18446744073709551616) : IntKind.u64.wrap (x * 2 ^ min ((s : Int)).toNat 64) = Y := by
  rw [Hw h, hY]; omega
theorem Aei {hi lo : Int} {s : Nat} (h : s ≤ 64) (h0 : 0 ≤ hi * 2 ^ s) (h1 : hi * 2 ^ s < 18446744073709551616) (l0 : 0 ≤ lo) (l1 : lo < 18446744073709551616) (hh : 0 ≤ hi) :
    G2 .or .u64 (loS hi s) (lo / 2 ^ (64 - s)) = hi * 2 ^ s + hiS lo s := by
  have hb := Lc h l0 l1
  have e := (Sz h hb.1 hb.2 hh).1
  show G2 .or .u64 (loS hi s) (hiS lo s) = _
  rw [V6, e]
  have : loS hi s = hi * 2 ^ s := by unfold loS; omega
  rw [this]; omega
theorem Afc {x : Int} (h : 0 ≤ x) : x.fdiv (2 ^ min (1 : Int).toNat 64) = x / 2 := by
  obtain ⟨n, rfl⟩ := Int.eq_ofNat_of_zero_le h
  exact Kc (k := 2) (by decide)
theorem Af2 {x : Int} : IntKind.u64.wrap (x * 2 ^ min (1 : Int).toNat 64) = x * 2 % 18446744073709551616 := Eq
theorem Aah {l : List Int} {i : Nat} {v : Int} (h : i < l.length) : (l.set ((0 + i) * 1) v).getD ((0 + i) * 1) 0 = v := by
  rw [Nat.zero_add, Nat.mul_one, List.getD_eq_getElem?_getD, List.getElem?_set_self h]; rfl
theorem Mk {a : List Int} {s i n : Nat} (h : i < n) : (Cv (dnN a s i) n).set ((0 + i) * 1) (dnD a s i) = Cv (dnN a s (i + 1)) n := by
  have e := @E5 (dnN a s i) n (dnD a s i) (by rw [H1]; exact h)
  rw [H1] at e
  rw [Nat.zero_add, Nat.mul_one]; exact e
theorem Qb {a : List Int} {s i : Nat} (h : a.length ≤ i + 1) : dnD a s i = a.getD i 0 / 2 ^ s := by
  unfold dnD loS; rw [Dw h]; simp
theorem Ach (u v : List Int) (q : Int) : 0 ≤ msB u v q ∧ msB u v q ≤ 1 := Sd _ _ _
theorem Ace {U u v : List Int} {q : Int} {j i : Nat} (h : j + i < U.length) : (rwJ U j (msN u v q i).1).set ((j + i) * 1) (sbD (u.getD i 0) (msS u v q i (msN u v q i).2.1) (msN u v q i).2.2) = rwJ U j (msN u v q (i + 1)).1 := by
  have e := @Ly U j (msN u v q i).1 (sbD (u.getD i 0) (msS u v q i (msN u v q i).2.1) (msN u v q i).2.2) (by rw [Ge]; exact h)
  rw [Ge] at e; exact e
theorem Aci {U u v : List Int} {q : Int} {j : Nat} (h : j + v.length < U.length) : (rwJ U j (msN u v q v.length).1).set ((j + v.length) * 1) (sbD (u.getD v.length 0) (msN u v q v.length).2.1 (msN u v q v.length).2.2) = rwJ U j (msL u v q) := by
  have e := @Ly U j (msN u v q v.length).1 (sbD (u.getD v.length 0) (msN u v q v.length).2.1 (msN u v q v.length).2.2) (by rw [Ge]; exact h)
  rw [Ge] at e; exact e
theorem Adn {W l v : List Int} {j i : Nat} (h : j + i < W.length) : (rwJ W j (adN l v i).1).set ((j + i) * 1) ((l.getD i 0 + v.getD i 0 + (adN l v i).2) % 18446744073709551616) = rwJ W j (adN l v (i + 1)).1 := by
  have e := @Ly W j (adN l v i).1 ((l.getD i 0 + v.getD i 0 + (adN l v i).2) % 18446744073709551616) (by rw [Dk]; exact h)
  rw [Dk] at e; exact e
theorem Adl {U l v : List Int} {j : Nat} (hl : l.length = v.length + 1) (h : j + l.length ≤ U.length) : (rwJ (rwJ U j l) j (adN l v v.length).1).set ((j + v.length) * 1) ((l.getD v.length 0 + (adN l v v.length).2) % 18446744073709551616) = rwJ U j (bkL l v) := by
  have e := @Ly (rwJ U j l) j (adN l v v.length).1 ((l.getD v.length 0 + (adN l v v.length).2) % 18446744073709551616) (by rw [Dk, Ke h]; omega)
  rw [Dk] at e
  rw [e]
  show rwJ (rwJ U j l) j (bkL l v) = _
  rw [Za (by rw [Mo]; omega) h, Mo, List.drop_of_length_le (by omega), List.append_nil]
theorem Sf {U : List Int} {j k : Nat} {l : List Int} (h : k < l.length) (hU : j + l.length ≤ U.length) : (rwJ U j l).getD (j + k) 0 = l.getD k 0 := by
  have e := Abs h hU; rwa [Nat.mul_one] at e
theorem Sy (s : Nat) : ((2 ^ s : Nat) : Int) = (2 : Int) ^ s := by rw [Int.natCast_pow]; rfl
theorem S6 {y : Int} (h0 : 0 < y) (h1 : y < 18446744073709551616) : 64 - bl 64 y.toNat < 64 ∧ 9223372036854775808 ≤ y * 2 ^ (64 - bl 64 y.toNat) ∧ y * 2 ^ (64 - bl 64 y.toNat) < 18446744073709551616 := by
  obtain ⟨n, rfl⟩ := Int.eq_ofNat_of_zero_le (Int.le_of_lt h0)
  rw [Int.toNat_natCast, Mn 64 n (by omega)]
  have hn : n ≠ 0 := by omega
  have hp := Fm hn
  have h64 : Cz n ≤ 64 := C2.2 (by omega)
  have hlt : n < 2 ^ Cz n := C2.1 (Nat.le_refl _)
  have hge : 2 ^ (Cz n - 1) ≤ n := by
    rcases Nat.lt_or_ge n (2 ^ (Cz n - 1)) with h | h
    · have := C2.2 h; omega
    · exact h
  generalize Cz n = b at *
  have e1 : 2 ^ b * 2 ^ (64 - b) = 18446744073709551616 := by rw [← Nat.pow_add, show b + (64 - b) = 64 by omega]
  have e2 : 2 ^ (b - 1) * 2 ^ (64 - b) = 9223372036854775808 := by rw [← Nat.pow_add, show b - 1 + (64 - b) = 63 by omega]
  have f1 : n * 2 ^ (64 - b) < 2 ^ b * 2 ^ (64 - b) := Nat.mul_lt_mul_of_pos_right hlt (Nat.two_pow_pos _)
  have f2 : 2 ^ (b - 1) * 2 ^ (64 - b) ≤ n * 2 ^ (64 - b) := Nat.mul_le_mul_right _ hge
  rw [← Sy, ← Int.natCast_mul]
  omega
theorem Ka {l : List Int} {v : Int} (hu : A3 l) (hv : vl l = v) : trm l = lm v := by
  have h0 := Bq hu
  exact Fu (by decide) (Nz hu) (by rw [Rn, hv]; omega)
theorem Acq {l : List Int} (hu : A3 l) (ht : tpd l) : lm (vl l) = l := by rw [← Ka hu rfl, Rv ht]
def dvN (a : List Int) (d : Int) : Nat → List Int × Int
  | 0 => ([], 0)
  | j + 1 => (((dvN a d j).2 * 18446744073709551616 + a.getD (a.length - 1 - j) 0) / d :: (dvN a d j).1, ((dvN a d j).2 * 18446744073709551616 + a.getD (a.length - 1 - j) 0) % d)
theorem Gg (a : List Int) (d : Int) : ∀ j, (dvN a d j).1.length = j
  | 0 => rfl
  | j + 1 => by simp [dvN, Gg a d j]
theorem Wn {a : List Int} {d : Int} (hd : 0 < d) : ∀ j, 0 ≤ (dvN a d j).2 ∧ (dvN a d j).2 < d
  | 0 => ⟨Int.le_refl 0, hd⟩
  | j + 1 => ⟨Int.emod_nonneg _ (by omega), Int.emod_lt_of_pos _ hd⟩
theorem Ac5 {a : List Int} {d : Int} (ha : A3 a) (hd : 0 < d) : ∀ j, A3 (dvN a d j).1
  | 0 => fun x hx => by simp [dvN] at hx
  | j + 1 => by
    have hr := Wn (a := a) hd j
    have hx := Bg ha (a.length - 1 - j)
    have ih := Ac5 (d := d) ha hd j
    intro y hy
    simp only [dvN, List.mem_cons] at hy
    rcases hy with rfl | hy
    · exact ⟨Int.ediv_nonneg (by omega) (by omega), Int.ediv_lt_of_lt_mul hd (by
        generalize (dvN a d j).2 = r at *
        generalize a.getD (a.length - 1 - j) 0 = x at *
        omega)⟩
    · exact ih y hy
theorem Uc {a : List Int} {d : Int} : ∀ j, j ≤ a.length → vl (a.drop (a.length - j)) = d * vl (dvN a d j).1 + (dvN a d j).2
  | 0, _ => by rw [Nat.sub_zero, List.drop_length]; simp [dvN, vl]
  | j + 1, h => by
    have ih := Uc (a := a) (d := d) j (by omega)
    rw [F8 (l := a) (i := a.length - (j + 1)) (by omega), show a.length - (j + 1) + 1 = a.length - j by omega, show a.length - (j + 1) = a.length - 1 - j by omega]
    simp only [vl, dvN]
    rw [ih]
    have e := Int.emod_add_mul_ediv ((dvN a d j).2 * 18446744073709551616 + a.getD (a.length - 1 - j) 0) d
    have hB : Bs = 18446744073709551616 := rfl
    rw [hB, Int.mul_add 18446744073709551616, Int.mul_left_comm 18446744073709551616 d, Int.mul_add d]
    omega
theorem Nj {k : Nat} {Q : List Int} {v : Int} (hk : 0 < k) : (List.replicate k 0 ++ Q).set ((0 + (k - 1)) * 1) v = List.replicate (k - 1) 0 ++ v :: Q := by
  rw [Nat.zero_add, Nat.mul_one]
  obtain ⟨k, rfl⟩ : ∃ m, k = m + 1 := ⟨k - 1, by omega⟩
  rw [Nat.add_sub_cancel, List.replicate_succ', List.append_assoc, List.set_append_right _ _ (by simp)]
  simp
theorem Ub {k : Nat} {Q : List Int} {v : Int} : (List.replicate (k + 1) 0 ++ Q).set ((0 + k) * 1) v = List.replicate k 0 ++ v :: Q := Nj (k := k + 1) (Nat.succ_pos k)
theorem Mi {a : List Int} {d : Int} {k : Nat} (h0 : 0 < k) (hk : k ≤ a.length) : dvN a d (a.length - (k - 1)) = (((dvN a d (a.length - k)).2 * 18446744073709551616 + a.getD (k - 1) 0) / d :: (dvN a d (a.length - k)).1, ((dvN a d (a.length - k)).2 * 18446744073709551616 + a.getD (k - 1) 0) % d) := by
  rw [show a.length - (k - 1) = (a.length - k) + 1 by omega]
  simp only [dvN]
  rw [show a.length - 1 - (a.length - k) = k - 1 by omega]
theorem X0 {a b : List Int} (ua : A3 a) (ub : A3 b) (tb : tpd b) (hb : b ≠ []) (h : vl b ≤ vl a) : b.length ≤ a.length := by
  rcases Nat.lt_or_ge a.length b.length with hl | hl
  · exfalso
    have h1 := Fe ua
    have h2 := Qn ub tb hb
    have h3 := Fj (show a.length ≤ b.length - 1 by omega)
    omega
  · exact hl
theorem Oi (v : Int) : Dp (lm v) = Bm v := by
  rw [F6 (Cq v), Og, Int.toNat_natCast]; rfl
theorem Xt : lm 0 = [] := Dg
theorem X4 {a : List Int} {d : Int} (ha : A3 a) (hd : 0 < d) : trm (dvN a d a.length).1 = lm (vl a / d) ∧ (dvN a d a.length).2 = vl a % d := by
  have h := Uc (a := a) (d := d) a.length (Nat.le_refl _)
  have hr := Wn (a := a) hd a.length
  rw [Nat.sub_self, List.drop_zero] at h
  refine ⟨Ka (Ac5 ha hd _) ?_, ?_⟩
  · rw [h, Int.add_comm, Int.add_mul_ediv_left _ _ (by omega), Int.ediv_eq_zero_of_lt hr.1 hr.2]; omega
  · rw [h, Int.add_comm, Int.add_mul_emod_self_left, Int.emod_eq_of_lt hr.1 hr.2]
theorem Aab {v : Int} (h0 : 0 ≤ v) (h1 : v < 18446744073709551616) : (if v = 0 then [] else [v]) = lm v := by
  rw [Jw (by omega), show ((v.natAbs : Nat) : Int) = v by omega]; rfl
structure Kn (X : Int) (v : List Int) (N : Nat) (k : Nat) (U Q : List Int) : Prop where
  lu : U.length = N
  uu : A3 U
  uq : A3 Q
  val : X = vl v * (pB k * vl Q) + vl U
  lt : vl U < vl v * pB k
theorem Kn.gup {X : Int} {v U Q : List Int} {N k n : Nat} (h : Kn X v N (k + 1) U Q) (uv : A3 v) (lv : v.length = n + 2) (top : 1 ≤ v.getD (n + 1) 0) (hk : k + (n + 3) ≤ N) : GuP (slJ U k (n + 3)) v n := by
  have hs := R6 U (j := k) (n := n + 3) (by rw [h.lu]; exact hk)
  have u1 := Ad9 (j := k) (n := n + 3) h.uu
  have c0 := H6 h.uu k
  have r0 := Bq (E3 h.uu (k + (n + 3)))
  have hp := Dn k
  refine ⟨u1, uv, R7 (by rw [h.lu]; exact hk), lv, ?_, top⟩
  have hlt := h.lt
  have e : vl v * pB (k + 1) = pB k * (vl v * 18446744073709551616) := by
    simp only [pB]
    have hB : Bs = 18446744073709551616 := rfl
    rw [hB, Int.mul_left_comm, Int.mul_left_comm (pB k), ← Int.mul_assoc 18446744073709551616, Int.mul_comm 18446744073709551616, Int.mul_assoc, Int.mul_comm (pB k)]
  rw [e, hs] at hlt
  have f : 0 ≤ pB k * (pB (n + 3) * vl (U.drop (k + (n + 3)))) := Int.mul_nonneg (Int.le_of_lt hp) (Int.mul_nonneg (Int.le_of_lt (Dn _)) r0)
  rw [Int.mul_add] at hlt
  exact Int.lt_of_mul_lt_mul_left (show pB k * vl (slJ U k (n + 3)) < pB k * (vl v * 18446744073709551616) by omega) (Int.le_of_lt hp)
theorem Kn.next {X : Int} {v U Q r : List Int} {N k n : Nat} (h : Kn X v N (k + 1) U Q) (hg : GuP (slJ U k (n + 3)) v n) (hk : k + (n + 3) ≤ N) (lr : r.length = n + 3) (ur : A3 r) (vr : vl r = vl (slJ U k (n + 3)) % vl v) :
    Kn X v N k (rwJ U k r) (vl (slJ U k (n + 3)) / vl v :: Q) := by
  have hs := R6 U (j := k) (n := n + 3) (by rw [h.lu]; exact hk)
  have hr := Y8 (U := U) (j := k) (l := r) (by rw [h.lu, lr]; exact hk)
  rw [lr] at hr
  have hp := Dn k
  have hv := hg.pos
  have e := Int.emod_add_mul_ediv (vl (slJ U k (n + 3))) (vl v)
  have m1 := Int.emod_lt_of_pos (vl (slJ U k (n + 3))) hv
  have q0 := hg.q_nn
  have q1 := hg.q_lt
  have c := J6 h.uu (n := k) (by rw [h.lu]; omega)
  have r0 := Bq (E3 h.uu (k + (n + 3)))
  have u0 := Bq hg.uu
  have vlt := Fe hg.uv
  rw [hg.lv] at vlt
  have hB : Bs = 18446744073709551616 := rfl
  have hrest : vl (U.drop (k + (n + 3))) = 0 := by
    rcases Int.lt_or_le 0 (vl (U.drop (k + (n + 3)))) with hl | hl
    · exfalso
      have hlt := h.lt
      rw [hs] at hlt
      have f1 : pB k * (pB (n + 3) * 1) ≤ pB k * (pB (n + 3) * vl (U.drop (k + (n + 3)))) := Int.mul_le_mul_of_nonneg_left (Int.mul_le_mul_of_nonneg_left (by omega) (Int.le_of_lt (Dn _))) (Int.le_of_lt hp)
      have f2 : 0 ≤ pB k * vl (slJ U k (n + 3)) := Int.mul_nonneg (Int.le_of_lt hp) u0
      have f3 : vl v * pB (k + 1) ≤ pB (n + 2) * pB (k + 1) := Int.mul_le_mul_of_nonneg_right (by omega) (Int.le_of_lt (Dn _))
      have f4 : pB (n + 2) * pB (k + 1) = pB k * (pB (n + 3) * 1) := by rw [Int.mul_one, ← Fw, ← Fw]; congr 1; omega
      rw [Int.mul_add] at hlt
      omega
    · omega
  rw [hrest, Int.mul_zero, Int.add_zero] at hs hr
  generalize hA : vl (slJ U k (n + 3)) / vl v = A at *
  generalize hM : vl (slJ U k (n + 3)) % vl v = M at *
  generalize hS : vl (slJ U k (n + 3)) = S at *
  refine ⟨by rw [Ke (by rw [h.lu, lr]; exact hk), h.lu], Aed h.uu ur, ?_, ?_, ?_⟩
  · intro y hy
    rw [List.mem_cons] at hy
    rcases hy with rfl | hy
    · exact ⟨q0, q1⟩
    · exact h.uq y hy
  · rw [h.val, hr, hs, vr]
    simp only [vl, pB]
    rw [hB, ← e, Int.mul_add (pB k) A, Int.mul_add (vl v), Int.mul_add (pB k) M, Int.mul_left_comm (pB k) (vl v), Int.mul_left_comm (pB k) 18446744073709551616, ← Int.mul_assoc 18446744073709551616]
    omega
  · rw [hr, vr, Int.mul_comm (vl v)]
    have f : pB k * M ≤ pB k * (vl v - 1) := Int.mul_le_mul_of_nonneg_left (by omega) (Int.le_of_lt hp)
    rw [Int.mul_sub, Int.mul_one] at f
    omega
theorem Py {a b v : List Int} {s : Nat} (hs : s < 64) (ua : A3 a) (ub : A3 b) (tb : tpd b) (hb : b ≠ []) (hv : vl v = vl b * 2 ^ s) (hl : b.length ≤ a.length) : Kn (vl a * 2 ^ s) v (a.length + 1) (a.length - b.length + 1) (upL a s) [] := by
  refine ⟨Gn a s, Vr hs ua, fun x hx => by simp at hx, ?_, ?_⟩
  · rw [Nx (Nat.le_of_lt hs)]; simp [vl]
  · rw [Nx (Nat.le_of_lt hs), hv, Int.mul_right_comm]
    have h1 := Qn ub tb hb
    have h2 := Fe ua
    have hbl : 0 < b.length := List.length_pos_iff.2 hb
    have e : pB (b.length - 1) * pB (a.length - b.length + 1) = pB a.length := by rw [← Fw]; congr 1; omega
    have h3 : pB (b.length - 1) * pB (a.length - b.length + 1) ≤ vl b * pB (a.length - b.length + 1) := Int.mul_le_mul_of_nonneg_right h1 (Int.le_of_lt (Dn _))
    exact Int.mul_lt_mul_of_pos_right (by omega) (Fk s)
theorem Xz {b v : List Int} {s n : Nat} (ub : A3 b) (uv : A3 v) (tb : tpd b) (hb : b.length = n + 2) (hlv : v.length = n + 2) (hv : vl v = vl b * 2 ^ s) : 1 ≤ v.getD (n + 1) 0 := by
  have h1 := Qn ub tb (fun h => by rw [h] at hb; simp at hb)
  have x := Bg uv (n + 1)
  have h2 : vl v = vk v (n + 1) + pB (n + 1) * v.getD (n + 1) 0 := by rw [← Da, vk_all (by omega)]
  have c := J6 uv (n := n + 1) (by omega)
  rcases Int.lt_or_le 0 (v.getD (n + 1) 0) with h | h
  · omega
  · exfalso
    have h0 : v.getD (n + 1) 0 = 0 := by omega
    rw [h0, Int.mul_zero] at h2
    rw [hb] at h1
    have h3 : vl b * 1 ≤ vl b * 2 ^ s := Int.mul_le_mul_of_nonneg_left (by have := Fk s; omega) (Bq ub)
    have : n + 2 - 1 = n + 1 := by omega
    rw [this] at h1
    omega
theorem W7 {b : List Int} {s : Nat} (hs : s < 64) (ub : A3 b) (h : b.getD (b.length - 1) 0 * 2 ^ s < 18446744073709551616) (hb : b ≠ []) : vl ((upL b s).take b.length) = vl b * 2 ^ s := by
  have e := Nx (a := b) (Nat.le_of_lt hs)
  have u := Vr hs ub
  have h2 : vl (upL b s) = vk (upL b s) (b.length + 1) := (vk_all (by rw [Gn]; exact Nat.le_refl _)).symm
  rw [Da] at h2
  have hz : (upL b s).getD b.length 0 = 0 := by
    unfold upL
    rw [List.getD_eq_getElem?_getD, List.getElem?_append_right (by rw [Ff]; exact Nat.le_refl _), Ff, Nat.sub_self]
    show (upN b s b.length).2 = 0
    obtain ⟨m, hm⟩ : ∃ m, b.length = m + 1 := ⟨b.length - 1, by have := List.length_pos_iff.2 hb; omega⟩
    rw [hm] at h ⊢
    rw [Nat.add_sub_cancel] at h
    show hiS (b.getD m 0) s = 0
    have hh := Aem (x := b.getD m 0) (Nat.le_of_lt hs)
    have lb := @K9 (b.getD m 0) s
    have hb' := Lc (Nat.le_of_lt hs) (Bg ub m).1 (Bg ub m).2
    omega
  rw [hz, Int.mul_zero, Int.add_zero] at h2
  show vk (upL b s) b.length = _
  rw [← h2, e]
theorem Kn.fin {a b v U Q : List Int} {N s : Nat} (h : Kn (vl a * 2 ^ s) v N 0 U Q) (hs : s < 64) (hv : vl v = vl b * 2 ^ s) (hb : 0 < vl b) (ua : A3 a) (uv : A3 v) (hl : v.length ≤ N) :
    trm Q = lm (vl a / vl b) ∧ vl (U.take v.length) = 2 ^ s * (vl a % vl b) ∧ trm (dnN (U.take v.length) s (U.take v.length).length) = lm (vl a % vl b) := by
  have hval := h.val
  have hlt := h.lt
  have u0 := Bq h.uu
  have hp := Fk s
  simp only [pB, Int.one_mul, Int.mul_one] at hval hlt
  rw [hv] at hval hlt
  have eU : vl U = (vl a - vl b * vl Q) * 2 ^ s := by
    rw [Int.sub_mul]
    have : vl b * 2 ^ s * vl Q = vl b * vl Q * 2 ^ s := Int.mul_right_comm _ _ _
    omega
  generalize hT : vl a - vl b * vl Q = T at *
  have hT0 : 0 ≤ T := by
    rcases Int.lt_or_le T 0 with h | h
    · exfalso
      have := Int.mul_neg_of_neg_of_pos h hp
      omega
    · exact h
  have hT1 : T < vl b := by
    rcases Int.lt_or_le T (vl b) with h | h
    · exact h
    · exfalso
      have h1 : vl b * 2 ^ s ≤ T * 2 ^ s := Int.mul_le_mul_of_nonneg_right h (by omega)
      omega
  have hA : vl a = T + vl b * vl Q := by omega
  have e1 : vl a / vl b = vl Q := by rw [hA, Int.add_mul_ediv_left _ _ (by omega), Int.ediv_eq_zero_of_lt hT0 hT1]; omega
  have e2 : vl a % vl b = T := by rw [hA, Int.add_mul_emod_self_left, Int.emod_eq_of_lt hT0 hT1]
  have e3 : vl (U.take v.length) = 2 ^ s * T := by
    obtain ⟨r, r0, hr⟩ := Rk h.uu v.length
    have vlt := Fe uv
    rw [hv] at vlt
    have c0 := H6 h.uu v.length
    show vk U v.length = _
    have hr1 : r = 0 := by
      rcases Int.lt_or_le 0 r with h | h
      · exfalso
        have : pB v.length * 1 ≤ pB v.length * r := Int.mul_le_mul_of_nonneg_left (by omega) (Int.le_of_lt (Dn _))
        omega
      · omega
    rw [hr1, Int.mul_zero, Int.add_zero] at hr
    rw [← hr, eU, Int.mul_comm]
  refine ⟨Ka h.uq e1.symm, by rw [e2]; exact e3, ?_⟩
  rw [e2]
  exact Ka (Ac9 (Nat.le_of_lt hs) (D4 h.uu _) _) (Ac8 (Nat.le_of_lt hs) e3)


def qn (v w : Int) : Int := (v.natAbs : Int) / w.natAbs
def rn (v w : Int) : Int := (v.natAbs : Int) % w.natAbs
def ng (v w : Int) : Bool := !(decide (v < 0) == decide (w < 0))
def sgd (s : Bool) (m : Int) : Int := if s = true then -m else m
theorem Er {v w : Int} (hw : w ≠ 0) : (v.natAbs : Int) = rn v w + w.natAbs * qn v w ∧ 0 ≤ rn v w ∧ rn v w < w.natAbs ∧ 0 ≤ qn v w := by
  have h0 : (0 : Int) < w.natAbs := by omega
  have e := Int.emod_add_mul_ediv (v.natAbs : Int) w.natAbs
  exact ⟨e.symm, Int.emod_nonneg _ (by omega), Int.emod_lt_of_pos _ h0, Int.ediv_nonneg (by omega) (by omega)⟩
def gro (k : Nat) (v w : Int) : Bool :=
  match k with
  | 0 => false
  | 1 => ng v w
  | 2 => !ng v w
  | 3 => decide ((w.natAbs : Int) < 2 * rn v w ∨ (2 * rn v w = w.natAbs ∧ qn v w % 2 = 1))
  | _ => decide (v < 0)
def flo (v w : Int) : Int := if ng v w = true then (if rn v w = 0 then -(qn v w) else -(qn v w) - 1) else qn v w
def cei (v w : Int) : Int := if v - flo v w * w = 0 then flo v w else flo v w + 1
def nea (v w : Int) : Int := if (w.natAbs : Int) < 2 * (v - flo v w * w).natAbs ∨ (2 * ((v - flo v w * w).natAbs : Int) = w.natAbs ∧ (flo v w).natAbs % 2 = 1) then flo v w + 1 else flo v w
def wq (k : Nat) (v w : Int) : Int :=
  match k with
  | 0 => if ng v w = true then cei v w else flo v w
  | 1 => flo v w
  | 2 => cei v w
  | 3 => nea v w
  | _ => if w < 0 then cei v w else flo v w
def frs (v w : Int) : Int := sgd (decide (w < 0)) (if ng v w = true ∧ rn v w ≠ 0 then w.natAbs - rn v w else rn v w)
theorem Zt {m w : Int} : m * w = if w < 0 then -(w.natAbs * m) else w.natAbs * m := by
  split
  · rw [show (w.natAbs : Int) = -w by omega, Int.neg_mul, Int.neg_neg, Int.mul_comm]
  · rw [show (w.natAbs : Int) = w by omega, Int.mul_comm]
theorem Jz {v w : Int} (hw : w ≠ 0) : v - flo v w * w = frs v w := by
  obtain ⟨hx, h0, h1, h2⟩ := Er (v := v) hw
  rw [Zt]
  have e1 : (w.natAbs : Int) * -(qn v w) = -(w.natAbs * qn v w) := Int.mul_neg _ _
  have e2 : (w.natAbs : Int) * (-(qn v w) - 1) = -(w.natAbs * qn v w) - w.natAbs := by rw [Int.mul_sub, Int.mul_one, e1]
  unfold frs flo sgd
  generalize hp : (w.natAbs : Int) * qn v w = p at *
  unfold ng
  by_cases hv : v < 0 <;> by_cases hww : w < 0 <;> by_cases hr : rn v w = 0 <;> simp [hv, hww, hr, e1, e2, hp] <;> omega
theorem M8 {v w : Int} (hw : w ≠ 0) : v - (flo v w + 1) * w = frs v w - w := by
  rw [← Jz hw, Int.add_mul]; omega
theorem H5 {k : Nat} {v w : Int} (hw : w ≠ 0) (h : rn v w = 0 ∨ gro k v w = false) : sgd (ng v w) (qn v w) = wq k v w ∧ sgd (decide (v < 0)) (rn v w) = v - wq k v w * w := by
  obtain ⟨hx, h0, h1, h2⟩ := Er (v := v) hw
  have f1 := Jz (v := v) hw
  have f2 := M8 (v := v) hw
  have key : (wq k v w = flo v w ∧ (ng v w = true → rn v w = 0)) ∨ (wq k v w = flo v w + 1 ∧ ng v w = true ∧ rn v w ≠ 0) := by
    unfold wq cei nea
    rw [f1]
    unfold frs
    match k with
    | 0 => by_cases hn : ng v w = true <;> by_cases hr : rn v w = 0 <;> by_cases hs : w < 0 <;> simp [hn, hr, hs, sgd] <;> omega
    | 1 => simp only [gro] at h; simp only [true_and]; exact .inl fun hn => h.resolve_right (by rw [hn]; simp)
    | 2 => simp only [gro] at h; by_cases hn : ng v w = true <;> by_cases hr : rn v w = 0 <;> by_cases hs : w < 0 <;> simp [hn, hr, hs, sgd] at h ⊢ <;> omega
    | 3 =>
      simp only [gro] at h
      have hflo : flo v w = if ng v w = true then (if rn v w = 0 then -(qn v w) else -(qn v w) - 1) else qn v w := rfl
      by_cases hn : ng v w = true <;> by_cases hr : rn v w = 0 <;> by_cases hs : w < 0 <;> simp [hn, hr, hs, sgd] at h hflo ⊢ <;> (try rw [hflo]) <;> omega
    | n + 4 =>
      simp only [gro] at h
      by_cases hv : v < 0 <;> by_cases hr : rn v w = 0 <;> by_cases hs : w < 0 <;> simp [ng, hv, hr, hs, sgd] at h ⊢ <;> omega
  rcases key with ⟨e, hk⟩ | ⟨e, hk1, hk2⟩
  · rw [e, f1]
    unfold flo frs sgd at *
    by_cases hn : ng v w = true
    · have hr := hk hn
      simp [hn, hr]
    · have hs : decide (v < 0) = decide (w < 0) := by unfold ng at hn; by_cases hv : v < 0 <;> by_cases hww : w < 0 <;> simp [hv, hww] at hn ⊢
      simp [hn, hs]
  · rw [e, f2]
    have hs : decide (v < 0) = !decide (w < 0) := by unfold ng at hk1; by_cases hv : v < 0 <;> by_cases hww : w < 0 <;> simp [hv, hww] at hk1 ⊢
    unfold flo frs sgd
    rw [hs]
    by_cases hww : w < 0 <;> simp [hk1, hk2, hww] <;> omega
theorem I1 {k : Nat} {v w : Int} (hw : w ≠ 0) (hr : rn v w ≠ 0) (h : gro k v w = true) : sgd (ng v w) (qn v w + 1) = wq k v w ∧ sgd (!decide (v < 0)) (w.natAbs - rn v w) = v - wq k v w * w := by
  obtain ⟨hx, h0, h1, h2⟩ := Er (v := v) hw
  have f1 := Jz (v := v) hw
  have f2 := M8 (v := v) hw
  have key : (wq k v w = flo v w ∧ ng v w = true) ∨ (wq k v w = flo v w + 1 ∧ ng v w = false) := by
    unfold wq cei nea
    rw [f1]
    unfold frs
    match k with
    | 0 => simp [gro] at h
    | 1 => simp only [gro] at h; simp [h]
    | 2 => simp only [gro] at h; by_cases hn : ng v w = true <;> by_cases hs : w < 0 <;> simp [hn, hr, hs, sgd] at h ⊢ <;> omega
    | 3 =>
      simp only [gro] at h
      have hflo : flo v w = if ng v w = true then (if rn v w = 0 then -(qn v w) else -(qn v w) - 1) else qn v w := rfl
      by_cases hn : ng v w = true <;> by_cases hs : w < 0 <;> simp [hn, hr, hs, sgd] at h hflo ⊢ <;> (try rw [hflo]) <;> omega
    | n + 4 =>
      simp only [gro] at h
      by_cases hv : v < 0 <;> by_cases hs : w < 0 <;> simp [ng, hv, hr, hs, sgd] at h ⊢ <;> omega
  rcases key with ⟨e, hk⟩ | ⟨e, hk⟩
  · rw [e, f1]
    have hs : decide (v < 0) = !decide (w < 0) := by unfold ng at hk; by_cases hv : v < 0 <;> by_cases hww : w < 0 <;> simp [hv, hww] at hk ⊢
    unfold flo frs sgd
    rw [hs]
    by_cases hww : w < 0 <;> simp [hk, hr, hww] <;> omega
  · rw [e, f2]
    have hs : decide (v < 0) = decide (w < 0) := by unfold ng at hk; by_cases hv : v < 0 <;> by_cases hww : w < 0 <;> simp [hv, hww] at hk ⊢
    unfold flo frs sgd
    rw [hs]
    by_cases hww : w < 0 <;> simp [hk, hr, hww] <;> omega
theorem A5 {v w : Int} (h : v.natAbs ≤ w.natAbs) : Bm v ≤ Bm w := Qx h
theorem Qu {v w : Int} : (qn v w).natAbs ≤ v.natAbs := by
  have h : qn v w ≤ v.natAbs := Int.ediv_le_self _ (by omega)
  have h0 : 0 ≤ qn v w := Int.ediv_nonneg (by omega) (by omega)
  omega
theorem M4 {v w : Int} (hw : w ≠ 0) (hr : rn v w ≠ 0) : (qn v w + 1).natAbs ≤ v.natAbs := by
  obtain ⟨hx, h0, h1, h2⟩ := Er (v := v) hw
  have : 2 * qn v w ≤ w.natAbs * qn v w := Int.mul_le_mul_of_nonneg_right (by omega) h2
  omega
theorem Mz {v w : Int} (hw : w ≠ 0) : (rn v w).natAbs ≤ w.natAbs ∧ ((w.natAbs : Int) - rn v w).natAbs ≤ w.natAbs := by
  obtain ⟨hx, h0, h1, h2⟩ := Er (v := v) hw
  omega
theorem El {s : Bool} {m : Int} : (sgd s m).natAbs = m.natAbs := by unfold sgd; split <;> omega
theorem K1 {s : Bool} {m : Int} (h : 0 ≤ m) : sv s (lm m) = sgd s m := by unfold sv sgd; rw [Og]; split <;> omega
theorem Nb {v : Int} (h : v ≠ 0) : lm v ≠ [] := fun e => by
  have h1 := Og v
  rw [e] at h1
  simp [vl] at h1
  omega
theorem La {v : Int} : Bm v = 0 ↔ v = 0 := by
  constructor
  · intro h
    rcases Int.lt_trichotomy v 0 with h1 | h1 | h1
    · have := Fm (n := v.natAbs) (by omega); unfold Bm at h; omega
    · exact h1
    · have := Fm (n := v.natAbs) (by omega); unfold Bm at h; omega
  · rintro rfl; rfl
theorem Hi {k : Nat} {v w : Int} (hw : w ≠ 0) : Bm (wq k v w) ≤ Bm v ∧ Bm (v - wq k v w * w) ≤ Bm w := by
  by_cases hr : rn v w ≠ 0 ∧ gro k v w = true
  · have h := I1 hw hr.1 hr.2
    rw [← h.2, ← h.1]
    exact ⟨A5 (by rw [El]; exact M4 hw hr.1), A5 (by rw [El]; exact (Mz hw).2)⟩
  · have h := H5 (k := k) hw (by
      by_cases h1 : rn v w = 0
      · exact .inl h1
      · refine .inr ?_
        cases hg : gro k v w
        · rfl
        · exact absurd ⟨h1, hg⟩ hr)
    rw [← h.2, ← h.1]
    exact ⟨A5 (by rw [El]; exact Qu), A5 (by rw [El]; exact (Mz hw).1)⟩


theorem Rz {l : List Int} {i : Nat} (h : i < l.length) : l.take (i + 1) = l.take i ++ [l.getD i 0] := by
  rw [List.take_add_one, List.getD_eq_getElem?_getD, List.getElem?_eq_getElem h]; rfl
theorem W4 (b : Nat) (l : List Int) : ∀ w, vb b (List.replicate w 0 ++ l) = ((b ^ w : Nat) : Int) * vb b l
  | 0 => by simp
  | w + 1 => by
    rw [List.replicate_succ, List.cons_append]
    show (0 : Int) + (b : Int) * vb b (List.replicate w 0 ++ l) = _
    rw [W4 b l w, Nat.pow_succ, Int.natCast_mul, Int.zero_add, ← Int.mul_assoc, Int.mul_comm (b : Int)]
theorem Zb {b : Nat} (hb : 0 < b) {l : List Int} (h : rng b l) (w : Nat) : rng b (List.replicate w 0 ++ l) := fun x hx => by
  rcases List.mem_append.1 hx with hx | hx
  · rw [List.eq_of_mem_replicate hx]; omega
  · exact h x hx
theorem Pf {b : Nat} {l : List Int} {x : Int} (h : rng b l) (h0 : 0 ≤ x) (h1 : x < (b : Int)) : rng b (l ++ [x]) := fun y hy => by
  rcases List.mem_append.1 hy with hy | hy
  · exact h y hy
  · rw [List.mem_singleton] at hy; subst hy; exact ⟨h0, h1⟩
theorem Vx {b : Nat} {l : List Int} {x : Int} (h : rng b l) (h0 : 0 ≤ x) (h1 : x < (b : Int)) : rng b (x :: l) := fun y hy => by
  rcases List.mem_cons.1 hy with rfl | hy
  · exact ⟨h0, h1⟩
  · exact h y hy
theorem Pp {s : Nat} (h : s ≤ 32) : (2 : Int) ^ (32 - s) * 2 ^ s = 4294967296 := by
  rw [← Int.pow_add, show 32 - s + s = 32 by omega]; rfl
theorem Zm {s : Nat} (h : s < 32) : (2 : Int) ^ s ≤ 2147483648 := by
  have h1 : (2 : Nat) ^ s ≤ 2 ^ 31 := Nat.pow_le_pow_right (by decide) (by omega)
  have h2 : ((2 ^ s : Nat) : Int) ≤ ((2 ^ 31 : Nat) : Int) := Int.ofNat_le.2 h1
  rw [Int.natCast_pow] at h2
  simpa using h2
def I0 (l : List Int) (s : Nat) : Nat → List Int × Int
  | 0 => ([], 0)
  | i + 1 => ((I0 l s i).1 ++ [(I0 l s i).2 + l.getD i 0 * 2 ^ s % 4294967296], l.getD i 0 * 2 ^ s / 4294967296)
theorem Fv (l : List Int) (s : Nat) : ∀ i, (I0 l s i).1.length = i
  | 0 => rfl
  | i + 1 => by simp [I0, Fv l s i]
theorem Sa {l : List Int} {s : Nat} (hs : s < 32) (hl : rng 4294967296 l) (i : Nat) : 0 ≤ l.getD i 0 * 2 ^ s ∧ l.getD i 0 * 2 ^ s ≤ 4294967295 * 2147483648 := by
  have hx := Gb (by decide) hl i
  exact ⟨Int.mul_nonneg hx.1 (Int.le_of_lt (Fk s)), Int.mul_le_mul (by omega) (Zm hs) (Int.le_of_lt (Fk s)) (by decide)⟩
theorem Sb {l : List Int} {s : Nat} (hs : s < 32) (hl : rng 4294967296 l) : ∀ i, 0 ≤ (I0 l s i).2 ∧ (I0 l s i).2 < 2 ^ s
  | 0 => ⟨Int.le_refl 0, Fk s⟩
  | i + 1 => by
    have hx := Gb (by decide) hl i
    have hp := Sa hs hl i
    refine ⟨Int.ediv_nonneg hp.1 (by decide), Int.ediv_lt_of_lt_mul (by decide) ?_⟩
    rw [Int.mul_comm (2 ^ s)]
    exact Int.mul_lt_mul_of_pos_right hx.2 (Fk s)
theorem Aeb {x : Int} {s : Nat} (hs : s ≤ 32) : x * 2 ^ s % 4294967296 = 2 ^ s * (x % 2 ^ (32 - s)) := by
  rw [← Pp hs, Int.mul_comm x, Int.mul_comm (2 ^ (32 - s)) (2 ^ s), Int.mul_emod_mul_of_pos _ _ (Fk s)]
theorem Abp {c x : Int} {s : Nat} (hs : s < 32) (hc0 : 0 ≤ c) (hc : c < 2 ^ s) : 0 ≤ c + x * 2 ^ s % 4294967296 ∧ c + x * 2 ^ s % 4294967296 < 4294967296 := by
  have e := Pp (Nat.le_of_lt hs)
  have hx2 : x % 2 ^ (32 - s) < 2 ^ (32 - s) := Int.emod_lt_of_pos _ (Fk _)
  have h3 : 2 ^ s * (x % 2 ^ (32 - s)) ≤ 2 ^ s * (2 ^ (32 - s) - 1) := Int.mul_le_mul_of_nonneg_left (by omega) (Int.le_of_lt (Fk s))
  rw [Int.mul_sub, Int.mul_comm (2 ^ s) (2 ^ (32 - s)), e] at h3
  have h4 := Int.emod_nonneg (x * 2 ^ s) (show (4294967296 : Int) ≠ 0 by decide)
  rw [← Aeb (Nat.le_of_lt hs)] at h3
  omega
theorem Xe {l : List Int} {s : Nat} (hs : s < 32) (hl : rng 4294967296 l) : ∀ i, rng 4294967296 (I0 l s i).1
  | 0 => fun x hx => by simp [I0] at hx
  | i + 1 => by
    have hc := Sb hs hl i
    have h := Abp (x := l.getD i 0) hs hc.1 hc.2
    exact Pf (Xe hs hl i) h.1 h.2
theorem Pb {l : List Int} {s : Nat} : ∀ i, i ≤ l.length → vb 4294967296 (I0 l s i).1 + ((4294967296 ^ i : Nat) : Int) * (I0 l s i).2 = vb 4294967296 (l.take i) * 2 ^ s
  | 0, _ => by simp [I0, vb]
  | i + 1, h => by
    have ih := Pb (s := s) i (by omega : i ≤ l.length)
    rw [Rz (by omega), J7, List.length_take, Nat.min_eq_left (by omega), Int.add_mul, ← ih]
    simp only [I0]
    rw [J7, Fv, Int.mul_assoc _ (l.getD i 0)]
    generalize l.getD i 0 * 2 ^ s = x
    generalize (I0 l s i).2 = c
    rw [Nat.pow_succ, Int.natCast_mul, show ((4294967296 : Nat) : Int) = 4294967296 from rfl]
    generalize ((4294967296 ^ i : Nat) : Int) = p
    have e : x = x % 4294967296 + 4294967296 * (x / 4294967296) := by omega
    have e1 : p * x = p * (x % 4294967296) + p * (4294967296 * (x / 4294967296)) := by rw [← Int.mul_add, ← e]
    rw [e1, Int.mul_add, Int.mul_assoc p]
    omega
def shR (l : List Int) (s w i : Nat) : List Int := List.replicate w 0 ++ Cv ((I0 l s i).1 ++ [(I0 l s i).2]) (l.length + 1)
theorem Y4 {l : List Int} {s w i : Nat} (h : i ≤ l.length) : (shR l s w i).length = w + (l.length + 1) := by
  unfold shR
  rw [List.length_append, List.length_replicate, Et (by simp [Fv]; omega)]
theorem Aec {l : List Int} {s w : Nat} : List.replicate (l.length + w + 1) (0 : Int) = shR l s w 0 := by
  unfold shR Cv
  simp only [I0, List.nil_append, List.length_singleton]
  rw [show l.length + w + 1 = w + (1 + (l.length + 1 - 1)) by omega, ← List.replicate_append_replicate, ← List.replicate_append_replicate]
  rfl
theorem Sl {w i : Nat} {l : List Int} {v : Int} : (List.replicate w 0 ++ l).set ((0 + (i + w)) * 1) v = List.replicate w 0 ++ l.set ((0 + i) * 1) v := by
  rw [Nat.mul_one, Nat.mul_one, Nat.zero_add, Nat.zero_add, List.set_append_right _ _ (by simp), List.length_replicate, Nat.add_sub_cancel]
theorem Ze {w i : Nat} {l : List Int} : (List.replicate w 0 ++ l).getD ((0 + (i + w)) * 1) 0 = l.getD ((0 + i) * 1) 0 := by
  rw [Nat.mul_one, Nat.mul_one, Nat.zero_add, Nat.zero_add, List.getD_eq_getElem?_getD, List.getElem?_append_right (by simp), List.length_replicate, Nat.add_sub_cancel, List.getD_eq_getElem?_getD]
theorem Y5 {l : List Int} {s w i : Nat} : (shR l s w i).getD ((0 + (i + w)) * 1) 0 = (I0 l s i).2 := by
  unfold shR
  rw [Ze]
  have h := @P4 (I0 l s i).1 (I0 l s i).2 (l.length + 1)
  rw [Fv] at h; exact h
theorem Y3 {l : List Int} {s w i : Nat} (h : i < l.length) : ((shR l s w i).set ((0 + (i + w)) * 1) ((I0 l s i).2 + l.getD i 0 * 2 ^ s % 4294967296)).set ((0 + (i + w + 1)) * 1) (l.getD i 0 * 2 ^ s / 4294967296) = shR l s w (i + 1) := by
  have h1 := @Pc (I0 l s i).1 (I0 l s i).2 ((I0 l s i).2 + l.getD i 0 * 2 ^ s % 4294967296) (l.length + 1)
  rw [Fv] at h1
  unfold shR
  rw [Sl, h1, show i + w + 1 = (i + 1) + w by omega, Sl]
  congr 1
  have hl : (I0 l s (i + 1)).1.length = i + 1 := Fv l s (i + 1)
  have h2 := @E5 (I0 l s (i + 1)).1 (l.length + 1) (l.getD i 0 * 2 ^ s / 4294967296) (by omega)
  rw [hl] at h2
  rw [Nat.zero_add, Nat.mul_one]
  exact h2
theorem Y6 {x n : Nat} : trm (shR (Bj B32 x) (n % 32) (n / 32) (Bj B32 x).length) = Bj B32 (x * 2 ^ n) := by
  have hr := Gc (b := B32) (by decide) x
  have hs : n % 32 < 32 := by omega
  have hc := Sb hs hr (Bj B32 x).length
  have hp := Zm hs
  have hv := Pb (l := Bj B32 x) (s := n % 32) (Bj B32 x).length (Nat.le_refl _)
  rw [List.take_of_length_le (Nat.le_refl _), I2 (b := B32) (by decide)] at hv
  have e : shR (Bj B32 x) (n % 32) (n / 32) (Bj B32 x).length = List.replicate (n / 32) 0 ++ ((I0 (Bj B32 x) (n % 32) (Bj B32 x).length).1 ++ [(I0 (Bj B32 x) (n % 32) (Bj B32 x).length).2]) := by
    unfold shR
    rw [D0 (by simp [Fv])]
  rw [e]
  refine Fu (by decide) (Zb (by decide) (Pf (Xe hs hr _) hc.1 (by show _ < (4294967296 : Int); omega)) _) ?_
  rw [W4, J7, Fv, hv, Aap]
  rw [← Sy, ← Int.natCast_mul, ← Int.natCast_mul]
  congr 1
  rw [Nat.mul_left_comm, ← Nat.pow_add]
  congr 2
  omega
theorem N6 {x : Int} {s : Nat} (hs : s < 32) (h0 : 0 ≤ x) (h1 : x < 4294967296) : IntKind.u64.wrap (x * 2 ^ min ((s : Int)).toNat 64) = x * 2 ^ s := by
  rw [Hw (by omega)]
  have h2 : x * 2 ^ s ≤ 4294967295 * 2147483648 := Int.mul_le_mul (by omega) (Zm hs) (Int.le_of_lt (Fk s)) (by decide)
  have h3 : 0 ≤ x * 2 ^ s := Int.mul_nonneg h0 (Int.le_of_lt (Fk s))
  omega
theorem Px {z y : Nat} (h : z < y * B32) : (Bj B32 z).length ≤ (Bj B32 y).length + 1 := by
  refine J2 (by decide) _ _ (Nat.lt_trans h ?_)
  rw [Nat.pow_succ]
  exact Nat.mul_lt_mul_of_pos_right (Jc (by decide) y) (by decide)
theorem Xx {z y : Nat} (h : z ≤ y) : (Bj B32 z).length ≤ (Bj B32 y).length := Ix (by decide) z y h
theorem Abg {x : Nat} : x / B32 ^ (Bj B32 x).length = 0 := Nat.div_eq_of_lt (Jc (by decide) x)
theorem Mj {x y k : Nat} (hy : 0 < y) (hk : 0 < k) :
    x / B32 ^ (k - 1) / y = B32 * (x / B32 ^ k / y) + (x / B32 ^ k % y * B32 + x / B32 ^ (k - 1) % B32) / y ∧ x / B32 ^ (k - 1) % y = (x / B32 ^ k % y * B32 + x / B32 ^ (k - 1) % B32) % y := by
  obtain ⟨k, rfl⟩ : ∃ m, k = m + 1 := ⟨k - 1, by omega⟩
  rw [Nat.add_sub_cancel]
  have e : x / B32 ^ (k + 1) = x / B32 ^ k / B32 := by rw [Nat.pow_succ, Nat.div_div_eq_div_mul]
  rw [e]
  generalize x / B32 ^ k = X
  have e1 := Nat.mod_add_div X B32
  have e2 := Nat.mod_add_div (X / B32) y
  generalize hd : X % B32 = d at *
  generalize hX : X / B32 = Z at *
  generalize hq : Z / y = q at *
  generalize hr : Z % y = r at *
  have e3 : X = (r * B32 + d) + y * (B32 * q) := by
    have e4 : X = d + B32 * (r + y * q) := by rw [e2]; exact e1.symm
    rw [e4, Nat.mul_add, Nat.mul_left_comm B32 y q, Nat.mul_comm B32 r]
    omega
  rw [e3]
  refine ⟨?_, ?_⟩
  · rw [Nat.add_mul_div_left _ _ hy]; omega
  · rw [Nat.add_mul_mod_self_left]
theorem Afk {x y k : Nat} (hy : 0 < y) : x / B32 ^ k % y * B32 + x / B32 ^ (k - 1) % B32 < y * B32 := by
  have h1 := Nat.mod_lt (x / B32 ^ k) hy
  have h2 := Nat.mod_lt (x / B32 ^ (k - 1)) (show 0 < B32 by decide)
  generalize x / B32 ^ k % y = r at *
  generalize x / B32 ^ (k - 1) % B32 = d at *
  show r * 4294967296 + d < y * 4294967296
  have : d < 4294967296 := h2
  omega
def Hlv (R y t q : Nat) : Prop := t ≤ 32 ∧ y * q ≤ R ∧ R - y * q < y * 2 ^ t ∧ q + 2 ^ t ≤ 4294967296
theorem Acw {R y : Nat} (h : R < y * B32) : Hlv R y 32 0 := ⟨Nat.le_refl _, by rw [Nat.mul_zero]; omega, by rw [Nat.mul_zero]; exact h, by decide⟩
theorem Tt {R y s q : Nat} (h : Hlv R y (s + 1) q) (hc : y * 2 ^ s ≤ R - y * q) : Hlv R y s (q + 2 ^ s) ∧ R - y * q - y * 2 ^ s = R - y * (q + 2 ^ s) := by
  obtain ⟨h1, h2, h3, h4⟩ := h
  rw [Nat.pow_succ, ← Nat.mul_assoc] at h3
  rw [Nat.pow_succ] at h4
  have e : y * (q + 2 ^ s) = y * q + y * 2 ^ s := Nat.mul_add _ _ _
  unfold Hlv
  rw [e]
  generalize y * 2 ^ s = p at *
  generalize y * q = z at *
  generalize 2 ^ s = u at *
  omega
theorem X3 {R y s q : Nat} (h : Hlv R y (s + 1) q) (hc : ¬ y * 2 ^ s ≤ R - y * q) : Hlv R y s q := by
  obtain ⟨h1, h2, h3, h4⟩ := h
  rw [Nat.pow_succ] at h4
  exact ⟨by omega, h2, by omega, by omega⟩
theorem Tv {R y q : Nat} (h : Hlv R y 0 q) : q = R / y ∧ R - y * q = R % y := by
  obtain ⟨h1, h2, h3, h4⟩ := h
  rw [Nat.pow_zero, Nat.mul_one] at h3
  have hy : 0 < y := by omega
  have e : R = (R - y * q) + y * q := by omega
  refine ⟨?_, ?_⟩
  · conv => rhs; rw [e, Nat.add_mul_div_left _ _ hy, Nat.div_eq_of_lt h3, Nat.zero_add]
  · conv => rhs; rw [e, Nat.add_mul_mod_self_left, Nat.mod_eq_of_lt h3]
theorem Tu {R y t q : Nat} (h : R < y * B32) : (Bj B32 (R - y * q)).length ≤ (Bj B32 y).length + 1 := Px (Nat.lt_of_le_of_lt (Nat.sub_le _ _) h)
theorem Ux {s : Nat} (hs : s < 32) : IntKind.u64.wrap (1 * 2 ^ min ((s : Int)).toNat 64) = ((2 ^ s : Nat) : Int) := by
  rw [N6 hs (by decide) (by decide), Int.one_mul, Sy]
theorem Aeg {s : Nat} (hs : s < 32) : 2 ^ s ≤ 2147483648 := Nat.pow_le_pow_right (n := 2) (by decide) (show s ≤ 31 by omega)
theorem Xw {y s : Nat} (hy : 0 < y) (hs : s < 32) : (Bj B32 (y * 2 ^ s)).length ≤ (Bj B32 y).length + 1 :=
  Px (Nat.mul_lt_mul_of_pos_left (Nat.lt_of_le_of_lt (Aeg hs) (by decide)) hy)
theorem Ad8 {d : Nat} (h : d < B32) : trm [(d : Int)] = Bj B32 d := Fu (by decide) (fun x hx => by rw [List.mem_singleton] at hx; subst hx; exact ⟨by omega, by exact_mod_cast h⟩) (by simp [vb])
theorem Up {x y : Nat} (h : y ≤ x) : 0 ≤ Du (x : Int) y := by unfold Du; (repeat' split) <;> omega
theorem Un {x y : Nat} (h : ¬ 0 ≤ Du (x : Int) y) : x < y := Nat.lt_of_not_le fun hle => h (Up hle)
theorem Zl {n : Nat} (h : n < 4611686018427387904) : IntKind.i64.wrap (Int.tdiv (n : Int) 32) = ((n / 32 : Nat) : Int) := by
  rw [Int.tdiv_eq_ediv_of_nonneg (by omega), Ap (by omega) (by omega)]; omega
theorem Aef {n : Nat} : Int.tmod (n : Int) 32 = ((n % 32 : Nat) : Int) := by
  rw [Int.tmod_eq_emod_of_nonneg (by omega)]; omega
structure Qd (x y k : Nat) (Q : List Int) : Prop where
  r : rng B32 Q
  v : vb B32 Q = ((x / B32 ^ k / y : Nat) : Int)
  l : Q.length = (Bj B32 x).length - k
theorem Af6 {x y : Nat} : Qd x y (Bj B32 x).length [] := ⟨fun z hz => by simp at hz, by rw [Abg, Nat.zero_div]; rfl, by simp⟩
theorem Qd.next {x y k : Nat} {Q : List Int} (h : Qd x y k Q) (hy : 0 < y) (hk : 0 < k) (hkl : k ≤ (Bj B32 x).length) : Qd x y (k - 1) (((x / B32 ^ k % y * B32 + x / B32 ^ (k - 1) % B32) / y : Nat) :: Q) := by
  have hd := Mj (x := x) hy hk
  have hR := Afk (x := x) (k := k) hy
  refine ⟨Vx h.r (Int.natCast_nonneg _) (Int.ofNat_lt.2 (Nat.div_lt_of_lt_mul hR)), ?_, by rw [List.length_cons, h.l]; omega⟩
  show ((((x / B32 ^ k % y * B32 + x / B32 ^ (k - 1) % B32) / y : Nat) : Int)) + (B32 : Int) * vb B32 Q = _
  rw [h.v, hd.1, Int.natCast_add, Int.natCast_mul, Int.add_comm]
theorem Qd.fin {x y : Nat} {Q : List Int} (h : Qd x y 0 Q) : trm Q = Bj B32 (x / y) := Fu (by decide) h.r (by rw [h.v, Nat.pow_zero, Nat.div_one])


theorem Rh {k : Nat} {v w : Int} (hw : w ≠ 0) : (wq k v w).natAbs ≤ v.natAbs ∧ (v - wq k v w * w).natAbs ≤ w.natAbs := by
  by_cases hr : rn v w ≠ 0 ∧ gro k v w = true
  · have h := I1 hw hr.1 hr.2
    rw [← h.2, ← h.1, El, El]
    exact ⟨M4 hw hr.1, (Mz hw).2⟩
  · have h := H5 (k := k) hw (by
      by_cases h1 : rn v w = 0
      · exact .inl h1
      · refine .inr ?_
        cases hg : gro k v w
        · rfl
        · exact absurd ⟨h1, hg⟩ hr)
    rw [← h.2, ← h.1, El, El]
    exact ⟨Qu, (Mz hw).1⟩
theorem E8 {v w : Int} (h : v.natAbs ≤ w.natAbs) : (dg v).length ≤ (dg w).length := Xx h
theorem Adf : (dg 1).length = 1 := by
  have h : lm 1 = [1] := by rw [← Aab (by decide) (by decide)]; rfl
  have e : dg 1 = Bj B32 1 := rfl
  rw [e, Dd (by decide) (by decide)]
  have : 1 / B32 = 0 := rfl
  rw [this, Dg]; rfl
theorem zfl {v w : Int} : zs (ng v w) (v.natAbs / w.natAbs) = sgd (ng v w) (qn v w) := by
  unfold zs sgd qn
  rw [← Int.natCast_ediv]
theorem Xh {v w : Int} : rn v w = ((v.natAbs % w.natAbs : Nat) : Int) := by unfold rn; rw [← Int.natCast_emod]
theorem Acz {v w : Int} (h : ng v w = false ∨ v.natAbs % w.natAbs = 0) : zs (ng v w) (v.natAbs / w.natAbs) = flo v w := by
  rw [zfl]
  unfold flo sgd
  rw [Xh]
  rcases h with h | h
  · rw [h]; simp
  · rw [h]; simp
theorem Aes {v w : Int} (h1 : ng v w = true) (h2 : ¬ v.natAbs % w.natAbs = 0) : zs (ng v w) (v.natAbs / w.natAbs) - 1 = flo v w := by
  rw [zfl]
  unfold flo sgd
  rw [Xh, h1, if_pos rfl, if_pos rfl, if_neg (by omega)]
theorem Nk {n : Nat} : ((Bj B32 n).length : Int) = 0 ↔ n = 0 := by
  rw [← Ml (n := n), ← List.length_eq_zero_iff]; omega


theorem O3 {k : Nat} {v w : Int} (hw : w ≠ 0) : (v - wq k v w * w = sgd (decide (v < 0)) (rn v w) ∧ (rn v w = 0 ∨ gro k v w = false)) ∨ (v - wq k v w * w = sgd (!decide (v < 0)) (w.natAbs - rn v w) ∧ rn v w ≠ 0 ∧ gro k v w = true) := by
  by_cases hr : rn v w ≠ 0 ∧ gro k v w = true
  · exact .inr ⟨(I1 hw hr.1 hr.2).2.symm, hr⟩
  · have h1 : rn v w = 0 ∨ gro k v w = false := by
      by_cases h1 : rn v w = 0
      · exact .inl h1
      · refine .inr ?_
        cases hg : gro k v w
        · rfl
        · exact absurd ⟨h1, hg⟩ hr
    exact .inl ⟨(H5 hw h1).2.symm, h1⟩
theorem Aa2 {k : Nat} {v w : Int} (hw : w ≠ 0) : (v - wq k v w * w).natAbs < w.natAbs := by
  obtain ⟨hx, h0, h1, h2⟩ := Er (v := v) hw
  rcases O3 (k := k) (v := v) hw with ⟨e, h⟩ | ⟨e, h3, h4⟩ <;> rw [e, El] <;> omega
theorem Rg {v w : Int} (hw : w ≠ 0) : 0 ≤ v - wq 4 v w * w ∧ v - wq 4 v w * w < w.natAbs := by
  obtain ⟨hx, h0, h1, h2⟩ := Er (v := v) hw
  have hl := Aa2 (k := 4) (v := v) hw
  have hp : 0 ≤ v - wq 4 v w * w := by
    rcases O3 (k := 4) (v := v) hw with ⟨e, h⟩ | ⟨e, h3, h4⟩
    · rw [e]
      unfold sgd
      rcases h with h | h
      · rw [h]; split <;> omega
      · have hv : decide (v < 0) = false := h
        rw [hv]; simpa using h0
    · rw [e]
      have hv : decide (v < 0) = true := h4
      rw [hv]
      unfold sgd
      simp only [Bool.not_true, Bool.false_eq_true, if_false]
      omega
  omega


def Ag6 (x : Int) (r : List Int) (e : Int) : Prop := (e = 0 ∧ r = lm x ∧ Bm x ≤ 67108864) ∨ (e = 3 ∧ r = [] ∧ 67108864 < Bm x)
def lbN (a : List Int) (m : Int) : Nat → List Int × Int
  | 0 => ([], 0)
  | i + 1 => ((lbN a m i).1 ++ [(a.getD i 0 * m % 18446744073709551616 + (lbN a m i).2) % 18446744073709551616], a.getD i 0 * m / 18446744073709551616 + (a.getD i 0 * m % 18446744073709551616 + (lbN a m i).2) / 18446744073709551616)
def lbL (a : List Int) (m : Int) : List Int := (lbN a m a.length).1 ++ [(lbN a m a.length).2]
theorem G1 {v w : Int} (h1 : 0 < w) : 0 ≤ v % w ∧ v % w < w := ⟨Int.emod_nonneg _ (by omega), Int.emod_lt_of_pos _ h1⟩
theorem Vp {v : Int} (h : 0 ≤ v) : vl (lm v) = v := by rw [Og]; omega


def pmS (m r h e : Nat) : Nat := if e % 2 = 0 then h * h % m else h * h % m * r % m
def pmK (m r : Nat) : Nat → Nat → Nat
  | 0, _ => 1 % m
  | f + 1, e => pmS m r (pmK m r f (e / 2)) e
def Ab6 (p : Nat) : Bool := (List.range 32).all fun d => decide (d < 2) || decide (p < d * d) || decide (p % d ≠ 0)
def Agi (p : Nat) : Bool := !Ab6 p || (List.range 32).all fun r => Nat.beq (pmK p r 10 p) (r % p)
theorem euc {v w : Int} (hw : w ≠ 0) : v - wq 4 v w * w = v % w := by
  have h := Rg (v := v) hw
  generalize hr : v - wq 4 v w * w = r at *
  have hv : v = r + w * wq 4 v w := by rw [Int.mul_comm]; omega
  conv => rhs; rw [hv, Int.add_mul_emod_self_left]
  rcases Int.lt_or_le 0 w with h1 | h1
  · rw [Int.emod_eq_of_lt h.1 (by omega)]
  · rw [← Int.emod_neg, Int.emod_eq_of_lt h.1 (by omega)]
theorem J1 (v w : Int) : v % (w.natAbs : Int) = v % w := by
  rcases Int.lt_or_le w 0 with h | h
  · rw [show (w.natAbs : Int) = -w by omega, Int.emod_neg]
  · rw [show (w.natAbs : Int) = w by omega]


structure Co (a b r s x y : Int) : Prop where
  dr : b ∣ a * x - r
  ds : b ∣ a * y - s
  gc : ∀ d : Int, (d ∣ r ∧ d ∣ s) ↔ (d ∣ a ∧ d ∣ b)
  bx : x.natAbs ≤ b.natAbs
  by_ : y.natAbs ≤ b.natAbs
  br : r.natAbs ≤ max a.natAbs b.natAbs
  bs : s.natAbs ≤ b.natAbs
  st : (r = a ∧ s = b ∧ x = 1 ∧ y = 0) ∨ (r = b ∧ 0 ≤ s ∧ s < b.natAbs ∧ x = 0 ∧ y = 1) ∨
       (0 < r ∧ 0 ≤ s ∧ s < r ∧ ((0 ≤ x ∧ y ≤ 0 ∧ x * s - y * r = b.natAbs) ∨ (x ≤ 0 ∧ 0 ≤ y ∧ y * r - x * s = b.natAbs))) ∨
       (0 < r ∧ 0 ≤ s ∧ s < r ∧ x = 1 ∧ 0 ≤ y ∧ y * r = b.natAbs + s)
theorem Aaz {a b : Int} (hb : b ≠ 0) : Co a b a b 1 0 :=
  ⟨⟨0, by rw [Int.mul_one, Int.mul_zero]; omega⟩, ⟨-1, by rw [Int.mul_zero, Int.mul_neg, Int.mul_one]; omega⟩, fun d => Iff.rfl, by omega, by omega, by omega, by omega, .inl ⟨rfl, rfl, rfl, rfl⟩⟩
theorem On {b s : Int} (hs : 0 < s) : (b / s).natAbs ≤ b.natAbs := by
  rcases Int.lt_or_le b 0 with h | h
  · have h1 : b / s ≤ 0 := by
      have := Int.ediv_neg_of_neg_of_pos h hs; omega
    have h2 : b ≤ b / s := by
      rw [Int.le_ediv_iff_mul_le hs]
      have h3 : b * s ≤ b * 1 := Int.mul_le_mul_of_nonpos_left (by omega) (by omega)
      omega
    omega
  · have := Int.ediv_nonneg h (Int.le_of_lt hs)
    have := Int.ediv_le_self s h
    omega
theorem Co.next {a b r s x y : Int} (hb : b ≠ 0) (h : Co a b r s x y) (hs : s ≠ 0) {q : Int} (hq : r - q * s = r % s) : Co a b s (r % s) y (x - q * y) := by
  have hm0 : 0 ≤ r % s := Int.emod_nonneg _ hs
  have hm1 : r % s < s.natAbs := Int.emod_lt _ hs
  obtain ⟨k1, hk1⟩ := h.dr
  obtain ⟨k2, hk2⟩ := h.ds
  have hbs := h.bs
  have hbr := h.br
  have hN : (0 : Int) < b.natAbs := by omega
  have e1 : (x - q * y) * s = x * s - q * y * s := Int.sub_mul _ _ _
  have e2 : y * (r % s) = y * r - q * y * s := by rw [← hq, Int.mul_sub, ← Int.mul_assoc, Int.mul_comm y q]
  have hby := h.by_
  have hbx := h.bx
  have key : (x - q * y).natAbs ≤ b.natAbs ∧ ((s = a ∧ r % s = b ∧ y = 1 ∧ x - q * y = 0) ∨ (s = b ∧ 0 ≤ r % s ∧ r % s < b.natAbs ∧ y = 0 ∧ x - q * y = 1) ∨
       (0 < s ∧ 0 ≤ r % s ∧ r % s < s ∧ ((0 ≤ y ∧ x - q * y ≤ 0 ∧ y * (r % s) - (x - q * y) * s = b.natAbs) ∨ (y ≤ 0 ∧ 0 ≤ x - q * y ∧ (x - q * y) * s - y * (r % s) = b.natAbs))) ∨
       (0 < s ∧ 0 ≤ r % s ∧ r % s < s ∧ y = 1 ∧ 0 ≤ x - q * y ∧ (x - q * y) * s = b.natAbs + r % s)) := by
    have bound : ∀ z : Int, 0 < s → 0 ≤ z → z * s ≤ b.natAbs → z.natAbs ≤ b.natAbs := fun z h1 h2 h3 => by
      have : z * 1 ≤ z * s := Int.mul_le_mul_of_nonneg_left (by omega) h2
      omega
    rcases h.st with ⟨h1, h2, h3, h4⟩ | ⟨h1, h2, h3, h4, h5⟩ | ⟨h1, h2, h3, h4⟩ | ⟨h1, h2, h3, h4, h5, h6⟩
    · subst h1; subst h2; subst h3; subst h4
      rw [Int.mul_zero]
      exact ⟨by omega, .inr (.inl ⟨rfl, hm0, hm1, rfl, by omega⟩)⟩
    · subst h1; subst h4; subst h5
      have hs0 : 0 < s := by omega
      have hqe : q = r / s := by
        have := Int.emod_add_mul_ediv r s
        have e3 : q * s = r / s * s := by rw [Int.mul_comm (r / s)]; omega
        exact Int.eq_of_mul_eq_mul_right (by omega) e3
      have hb2 := On (b := r) hs0
      rw [← hqe] at hb2
      rw [Int.mul_one] at e1 e2 ⊢
      rw [Int.zero_mul] at e1
      refine ⟨by omega, .inr (.inr ?_)⟩
      rcases Int.lt_or_le r 0 with hr | hr
      · refine .inr ⟨hs0, hm0, by omega, rfl, ?_, by omega⟩
        have := Int.ediv_neg_of_neg_of_pos hr hs0
        omega
      · refine .inl ⟨hs0, hm0, by omega, .inl ⟨by omega, ?_, by omega⟩⟩
        have := Int.ediv_nonneg hr (Int.le_of_lt hs0)
        omega
    · have hs0 : 0 < s := by omega
      have hq0 : 0 ≤ q := by
        rcases Int.lt_or_le q 0 with hh | hh
        · exfalso
          have := Int.mul_neg_of_neg_of_pos hh hs0
          omega
        · exact hh
      rcases h4 with ⟨h5, h6, h7⟩ | ⟨h5, h6, h7⟩
      · have f1 : 0 ≤ q * -y := Int.mul_nonneg hq0 (by omega)
        rw [Int.mul_neg] at f1
        have f2 : 0 ≤ -y * (r % s) := Int.mul_nonneg (by omega) hm0
        rw [Int.neg_mul] at f2
        exact ⟨bound _ hs0 (by omega) (by omega), .inr (.inr (.inl ⟨hs0, hm0, by omega, .inr ⟨h6, by omega, by omega⟩⟩))⟩
      · have f1 : 0 ≤ q * y := Int.mul_nonneg hq0 h6
        have f2 : 0 ≤ y * (r % s) := Int.mul_nonneg h6 hm0
        have f3 := bound (-(x - q * y)) hs0 (by omega) (by rw [Int.neg_mul]; omega)
        exact ⟨by omega, .inr (.inr (.inl ⟨hs0, hm0, by omega, .inl ⟨h6, by omega, by omega⟩⟩))⟩
    · have hs0 : 0 < s := by omega
      have hq0 : 0 < q := by
        rcases Int.lt_or_le 0 q with hh | hh
        · exact hh
        · exfalso
          have := Int.mul_nonneg (show 0 ≤ -q by omega) (Int.le_of_lt hs0)
          rw [Int.neg_mul] at this
          omega
      have hy0 : 0 < y := by
        rcases Int.lt_or_le 0 y with hh | hh
        · exact hh
        · exfalso
          have : y = 0 := by omega
          rw [this, Int.zero_mul] at h6
          omega
      subst h4
      have f1 : 0 < q * y := Int.mul_pos hq0 hy0
      have f2 : 0 ≤ y * (r % s) := Int.mul_nonneg h5 hm0
      have f3 := bound (-(1 - q * y)) hs0 (by omega) (by rw [Int.neg_mul]; omega)
      exact ⟨by omega, .inr (.inr (.inl ⟨hs0, hm0, by omega, .inl ⟨h5, by omega, by omega⟩⟩))⟩
  refine ⟨h.ds, ⟨k1 - q * k2, ?_⟩, fun d => ?_, h.by_, key.1, by omega, by omega, key.2⟩
  · rw [← hq, Int.mul_sub a, Int.mul_sub b, ← hk1, Int.mul_left_comm b, ← hk2, Int.mul_sub q, Int.mul_left_comm a]; omega
  · rw [← h.gc d]
    constructor
    · rintro ⟨h1, h2⟩
      refine ⟨?_, h1⟩
      have : r = r % s + q * s := by omega
      rw [this]
      exact Int.dvd_add h2 (Int.dvd_trans h1 (Int.dvd_mul_left q s))
    · rintro ⟨h1, h2⟩
      refine ⟨h2, ?_⟩
      rw [← hq]
      exact Int.dvd_sub h1 (Int.dvd_trans h2 (Int.dvd_mul_left q s))
theorem Co.fin {a b r x y : Int} (h : Co a b r 0 x y) : (∀ d : Int, d ∣ r ↔ (d ∣ a ∧ d ∣ b)) ∧ b ∣ a * x - r ∧ r ∣ a ∧ r ∣ b := by
  have h1 : ∀ d : Int, d ∣ r ↔ (d ∣ a ∧ d ∣ b) := fun d => by
    rw [← h.gc d]
    exact ⟨fun hd => ⟨hd, Int.dvd_zero d⟩, fun hd => hd.1⟩
  have h2 := (h1 r).1 (Int.dvd_refl r)
  exact ⟨h1, h.dr, h2.1, h2.2⟩


structure CoE (a b g x : Int) : Prop where
  g0 : 0 ≤ g
  gc : ∀ d : Int, d ∣ g ↔ (d ∣ a ∧ d ∣ b)
  dx : b ∣ a * x - g
  bx : x.natAbs ≤ b.natAbs
  bg : g.natAbs ≤ max a.natAbs b.natAbs
theorem Co.pos {a b r x y : Int} (h : Co a b r 0 x y) (hr : 0 ≤ r) : CoE a b r x := ⟨hr, h.fin.1, h.dr, h.bx, h.br⟩
theorem Co.neg {a b r x y : Int} (h : Co a b r 0 x y) (hr : r < 0) : CoE a b (-r) (-x) := by
  have hb := h.bx
  have hr2 := h.br
  refine ⟨by omega, fun d => by rw [Int.dvd_neg]; exact h.fin.1 d, ?_, by omega, by omega⟩
  have : a * -x - -r = -(a * x - r) := by rw [Int.mul_neg]; omega
  rw [this]
  exact (Int.dvd_neg).2 h.dr
theorem CoE.da {a b g x : Int} (h : CoE a b g x) : g ∣ a ∧ g ∣ b := (h.gc g).1 (Int.dvd_refl g)
theorem CoE.ne {a b g x : Int} (h : CoE a b g x) (hb : b ≠ 0) : g ≠ 0 := fun e => by
  have := h.da.2
  rw [e, Int.zero_dvd] at this
  exact hb this
theorem CoE.le {a b g x : Int} (h : CoE a b g x) (hb : b ≠ 0) : g.natAbs ≤ b.natAbs := Nat.le_of_dvd (by omega) (Int.natAbs_dvd_natAbs.2 h.da.2)
theorem G8 {v w : Int} (h : v.natAbs ≤ 2 * w.natAbs) : Bm v ≤ Bm w + 1 := by
  refine C2.2 ?_
  have h1 : w.natAbs < 2 ^ Bm w := C2.1 (Nat.le_refl _)
  rw [Nat.pow_succ]
  omega
theorem Ha {r a b : Int} {M : Nat} (h : r.natAbs ≤ max a.natAbs b.natAbs) (ha : Bm a ≤ M) (hb : Bm b ≤ M) : Bm r ≤ M := by
  rcases Nat.le_total a.natAbs b.natAbs with h' | h'
  · exact Nat.le_trans (A5 (by omega)) hb
  · exact Nat.le_trans (A5 (by omega)) ha
theorem Aek {v : Int} (h : inI v) : lm v = fl ((v.natAbs : Nat) : Int) := Jw (by unfold inI at h; omega)
theorem G9 (v w : Int) : Bm (v * w) ≤ Bm v + Bm w := by
  refine C2.2 ?_
  rw [Int.natAbs_mul, Nat.pow_add]
  have h1 : v.natAbs < 2 ^ Bm v := C2.1 (Nat.le_refl _)
  have h2 : w.natAbs < 2 ^ Bm w := C2.1 (Nat.le_refl _)
  exact Nat.mul_lt_mul'' h1 h2


theorem Jx (a b : Int) : Bm (a - b) ≤ max (Bm a) (Bm b) + 1 := by
  refine C2.2 ?_
  have h1 : a.natAbs < 2 ^ Bm a := C2.1 (Nat.le_refl _)
  have h2 : b.natAbs < 2 ^ Bm b := C2.1 (Nat.le_refl _)
  have h3 : 2 ^ Bm a ≤ 2 ^ max (Bm a) (Bm b) := Nat.pow_le_pow_right (by decide) (by omega)
  have h4 : 2 ^ Bm b ≤ 2 ^ max (Bm a) (Bm b) := Nat.pow_le_pow_right (by decide) (by omega)
  rw [Nat.pow_succ]
  omega
theorem Fc {v w g x : Int} (h : CoE v w g x) (hw : w ≠ 0) : 0 < qn w g ∧ (w.natAbs : Int) = g * qn w g ∧ qn w g ≤ w.natAbs := by
  have hg := h.ne hw
  have g0 := h.g0
  have hd : g ∣ (w.natAbs : Int) := by
    have h1 := Int.natAbs_dvd_natAbs.2 h.da.2
    obtain ⟨k, hk⟩ := h1
    refine ⟨k, ?_⟩
    have : ((w.natAbs : Nat) : Int) = ((g.natAbs * k : Nat) : Int) := by rw [hk]
    rw [this, Int.natCast_mul]
    congr 1
    omega
  have e : qn w g = (w.natAbs : Int) / g := by
    unfold qn
    rw [show (g.natAbs : Int) = g by omega]
  obtain ⟨k, hk⟩ := hd
  have hk2 : (w.natAbs : Int) / g = k := by rw [hk, Int.mul_ediv_cancel_left _ hg]
  rw [e, hk2]
  have hk0 : 0 < k := by
    rcases Int.lt_or_le 0 k with hh | hh
    · exact hh
    · exfalso
      have : g * k ≤ 0 := Int.mul_nonpos_of_nonneg_of_nonpos g0 hh
      omega
  refine ⟨hk0, hk, ?_⟩
  rw [hk]
  have : 1 * k ≤ g * k := Int.mul_le_mul_of_nonneg_right (by omega) (by omega)
  omega
theorem Aao {v w g x : Int} (h : CoE v w g x) (hw : w ≠ 0) : w ∣ g - v * (x % qn w g) := by
  obtain ⟨h1, h2, h3⟩ := Fc h hw
  obtain ⟨k, hk⟩ := h.da.1
  have e := Int.emod_add_mul_ediv x (qn w g)
  obtain ⟨c, hc⟩ := h.dx
  generalize hX : x % qn w g = X at *
  generalize hD : x / qn w g = D at *
  have e2 : v * x = v * X + k * (w.natAbs : Int) * D := by
    rw [← e, Int.mul_add, h2, hk]
    congr 1
    rw [Int.mul_assoc, ← Int.mul_assoc, Int.mul_comm g k, Int.mul_assoc k, Int.mul_assoc, Int.mul_assoc]
  have hwa : w ∣ (w.natAbs : Int) := Int.dvd_natAbs.2 (Int.dvd_refl w)
  obtain ⟨n, hn⟩ := hwa
  refine ⟨-c + k * n * D, ?_⟩
  have e3 : w * (k * n * D) = k * (w.natAbs : Int) * D := by
    rw [hn, ← Int.mul_assoc, Int.mul_left_comm w k, Int.mul_assoc k, Int.mul_assoc]
  rw [Int.mul_add, e3, Int.mul_neg, ← hc]
  omega
theorem M3 {D w : Int} (k : Nat) (hw : w ≠ 0) (h : w ∣ D) : wq k D w * w = D := by
  have hl := Aa2 (k := k) (v := D) hw
  obtain ⟨c, hc⟩ := h
  have hd : w ∣ D - wq k D w * w := ⟨c - wq k D w, by rw [Int.mul_sub, ← hc, Int.mul_comm w (wq k D w)]⟩
  have h0 : D - wq k D w * w = 0 := by
    have h1 := Int.natAbs_dvd_natAbs.2 hd
    have h2 := Nat.eq_zero_of_dvd_of_lt h1 hl
    omega
  omega
def InvP (v w : Int) (s : Bool) (l : List Int) (e : Int) : Prop :=
  ∃ g x : Int, CoE (v % w) (w.natAbs : Int) g x ∧ ((g ≠ 1 ∧ s = false ∧ l = [] ∧ e = 61) ∨ (g = 1 ∧ s = decide (x % (w.natAbs : Int) < 0) ∧ l = lm (x % (w.natAbs : Int)) ∧ e = 0))
theorem Lx {v w g g2 x x2 : Int} (h : CoE v w g x) (h2 : CoE (v % w) (w.natAbs : Int) g2 x2) : g2 = g := by
  have hww : ∀ d : Int, d ∣ (w.natAbs : Int) ↔ d ∣ w := fun d => Int.dvd_natAbs
  have key : ∀ d : Int, (d ∣ v % w ∧ d ∣ (w.natAbs : Int)) ↔ (d ∣ v ∧ d ∣ w) := fun d => by
    rw [hww]
    have e := Int.emod_add_mul_ediv v w
    constructor
    · rintro ⟨h1, h2⟩
      refine ⟨?_, h2⟩
      rw [← e]
      exact Int.dvd_add h1 (Int.dvd_trans h2 (Int.dvd_mul_right w _))
    · rintro ⟨h1, h2⟩
      refine ⟨?_, h2⟩
      have : v % w = v - w * (v / w) := by omega
      rw [this]
      exact Int.dvd_sub h1 (Int.dvd_trans h2 (Int.dvd_mul_right w _))
  have d1 : g2 ∣ g := (h.gc g2).2 ((key g2).1 ((h2.gc g2).1 (Int.dvd_refl g2)))
  have d2 : g ∣ g2 := (h2.gc g).2 ((key g).2 ((h.gc g).1 (Int.dvd_refl g)))
  have := Nat.dvd_antisymm (Int.natAbs_dvd_natAbs.2 d1) (Int.natAbs_dvd_natAbs.2 d2)
  have := h.g0
  have := h2.g0
  omega
theorem Z8 {v w x : Int} (hw : w ≠ 0) (h : CoE (v % w) (w.natAbs : Int) 1 x) : w ∣ v * (x % (w.natAbs : Int)) - 1 := by
  obtain ⟨c, hc⟩ := h.dx
  have e1 := Int.emod_add_mul_ediv v w
  have e2 := Int.emod_add_mul_ediv x (w.natAbs : Int)
  obtain ⟨n, hn⟩ := (Int.dvd_natAbs.2 (Int.dvd_refl w) : w ∣ (w.natAbs : Int))
  generalize hr : v % w = r at *
  generalize hX : x % (w.natAbs : Int) = X at *
  generalize v / w = q at *
  generalize x / (w.natAbs : Int) = D at *
  -- v X - 1 = (r + w q) X - 1 = r X + w q X - 1; r X = r x - r n w D
  have e3 : r * x = r * X + w * (r * (n * D)) := by
    rw [← e2, Int.mul_add, hn, Int.mul_left_comm w, Int.mul_assoc w]
  refine ⟨n * c - r * (n * D) + q * X, ?_⟩
  rw [Int.mul_add, Int.mul_sub, ← Int.mul_assoc w n, ← hn, ← hc, e3, ← e1, Int.add_mul, Int.mul_assoc w]
  omega


theorem Oh {s : Bool} {l : List Int} (u : A3 l) : Bm (sv s l) ≤ 64 * l.length := by
  rw [← (E1 (s := s) u rfl).2.2]
  exact Kj l
theorem InvP.no {v w g x : Int} {s : Bool} {l : List Int} {e : Int} (h : InvP v w s l e) (hE : CoE v w g x) (hg : g ≠ 1) : e = 61 := by
  obtain ⟨g2, x2, h2, h3⟩ := h
  have := Lx hE h2
  rcases h3 with ⟨_, _, _, h⟩ | ⟨h, _⟩
  · exact h
  · omega
theorem Acr {g : Int} (h0 : 0 ≤ g) (hg : g ≠ 0) : (1 < (Bm g : Int)) ↔ g ≠ 1 := by
  have h1 : Bm g ≤ 1 ↔ g.natAbs < 2 ^ 1 := C2
  omega

theorem Ae2 (n : Nat) (hn : n < 1000000) (rs : Nat → List Int) (hlen : ∀ j, j < n → (rs j).length < 1099511627776) : SpecM Try.prog 15 [.o 0 0 0 n] (Cp n (L6 n rs) (owR rs) []) (fun o _ => o = .ret (.b true)) := by
  refine Jq [(0, .o 0 0 0 n)] rfl (_) rfl Try.func15 rfl (zlb rfl) fun Γ hN hds => ?_
  have hd := B5 112 hN
  refine Cs (H' := Cp n (L6 n rs) (owF rs 0) []) V2 <| zsr <| zas rfl (hd 2 rfl) <| Ab <| Af <| zsr <| zmv rfl (hd 13 rfl) <| Ac (Eo Y0 rfl rfl) (hd 14 rfl) <| zmv rfl (hd 15 rfl) <| Ab <| Aw ?_
  refine B4 (G := Nat) (fun i => i ≤ n) (fun i => [(15, .i .i64 (i : Int)), (3, .u), (4, .u), (5, .u), (16, .u), (17, .u), (18, .u), (19, .u), (20, .u), (21, .u), (22, .u), (23, .u), (24, .u), (25, .u), (26, .u), (27, .u), (28, .u), (29, .u), (30, .u), (31, .u), (32, .u), (33, .u)]) (fun i => Cp n (L6 n rs) (owF rs i) []) (fun i => n - i) 0 ?_ ?_ rfl ?_
  · exact Nat.zero_le _
  · exact (.cons rfl (.v9 (.v9 (.u .nil))))
  · rintro i hc1; refine zsr <| Ac (Ch rfl rfl) (hd 16 rfl) <| Ab <| Af ?_
    refine Bu rfl (fun h1 => ?_) (fun h1 => ?_)
    · have hi : i < n := by omega
      have hl := hlen i hi
      refine Am <| Af <| Aw <| zsr <| zmv rfl (hd 17 rfl) <| Ac (Ci (i := i) Y0 rfl rfl rfl (by first | rfl | omega) (by first | omega | (dsimp only; omega)) rfl) (hd 18 rfl) <| Ac (A8 Od rfl rfl (Zi hi rfl)) (hd 19 rfl) <| zas rfl (hd 3 rfl) <| zas rfl (hd 4 rfl) <| Ab <| Af <| Cs (H' := Cp n (L6 n rs) (upd (owF rs i) i (owK rs i 0)) []) Aeh ?_; refine Ag <| zmv rfl (hd 20 rfl) <| Ac (Eo Hv rfl (Pg hi)) (hd 21 rfl) <| zmv rfl (hd 22 rfl) <| Ab <| Aw ?_
      refine B4 (G := Nat) (fun k => k ≤ (rs i).length) (fun k => [(22, .i .i64 (k : Int)), (5, .u), (23, .u), (24, .u), (25, .u), (26, .u), (27, .u), (28, .u), (29, .u), (30, .u), (31, .u), (32, .u)]) (fun k => Cp n (L6 n rs) (upd (owF rs i) i (owK rs i k)) []) (fun k => (rs i).length - k) 0 ?_ ?_ rfl ?_
      · exact Nat.zero_le _
      · exact (.cons rfl (.v9 (.u .nil)))
      · rintro k hc2; refine zsr <| Ac (Ch rfl rfl) (hd 23 rfl) <| Ab <| Af ?_
        refine Bu rfl (fun h2 => ?_) (fun h2 => ?_)
        · have hk : k < (rs i).length := by omega
          have hkl : k < (List.replicate k (owC i) ++ (rs i).drop k).length := by simp; omega
          refine Am <| Af <| Aw <| zsr <| zmv rfl (hd 24 rfl) <| zas rfl (hd 5 rfl) <| Ab <| Ag <| zmv rfl (hd 25 rfl) <| zmv rfl (hd 26 rfl) <| zmv rfl (hd 27 rfl) <| Ac (Hq rfl rfl (by decide) rfl) (hd 28 rfl) ?_; refine Ac (A9 rfl rfl (r := owC i) (by rw [show ((i : Int).tmod 251) = ((i % 251 : Nat) : Int) from rfl, Ap (by omega) (by omega)]; unfold owC; omega)) (hd 29 rfl) <| Ac (D1 Mt H7 rfl (r := owC i) (by unfold owC; rw [Bh (by omega) (by omega)])) (hd 30 rfl) <| Ac (Ci (i := k) Hv rfl (Pg hi) rfl rfl (by omega) rfl) (hd 31 rfl) <| A1 (Cc rfl rfl (Pg hi) Bw (by omega)) <| Ab <| Ag <| Ac (A9 rfl rfl (Ap (by first | omega | (dsimp only; omega)) (by first | omega | (dsimp only; omega)))) (hd 32 rfl) <| zmv rfl (hd 22 rfl) <| Ab ?_
          refine ⟨k + 1, ?_, ?_, (Zn hi (by omega)), Ba 24 rfl rfl ?_⟩
          · omega
          · omega
          · exact (.cons rfl (.v9 (.u .nil)))
        · refine By <| Ag <| Ac (A9 rfl rfl (Ap (by first | omega | (dsimp only; omega)) (by first | omega | (dsimp only; omega)))) (hd 33 rfl) <| zmv rfl (hd 15 rfl) <| Ab ?_
          refine ⟨i + 1, ?_, ?_, (Ab9 (by omega) (by omega)), Ba 46 rfl rfl ?_⟩
          · omega
          · omega
          · exact (.cons rfl (.v9 (.v9 (.u .nil))))
    · refine By <| Af <| Af <| Cs (H' := Cp n (owL n rs 0) (owG rs 0) []) (Ab8 (by omega)) <| Ag <| zmv rfl (hd 34 rfl) <| Ac (Eo Y0 rfl rfl) (hd 35 rfl) <| zmv rfl (hd 36 rfl) <| Ab <| Aw ?_
      refine B4 (G := Nat × List Ob) (fun g => g.1 ≤ n) (fun g => [(36, .i .i64 (g.1 : Int)), (6, .u), (7, .u), (8, .u), (37, .u), (38, .u), (39, .u), (40, .u), (41, .u), (42, .u), (43, .u), (44, .u), (45, .u), (46, .u), (47, .u), (48, .u), (49, .u), (50, .u), (51, .u), (52, .u), (53, .u), (54, .u), (55, .u), (56, .u), (57, .u), (58, .u), (59, .u), (60, .u), (61, .u)]) (fun g => Cp n (owL n rs g.1) (owG rs g.1) g.2) (fun g => n - g.1) (0, []) ?_ ?_ rfl ?_
      · exact Nat.zero_le _
      · exact (.cons rfl (.v9 (.v9 (.v5 (.u (.u (.u .nil)))))))
      · rintro ⟨i, J⟩ hc1
        dsimp only at hc1 ⊢
        refine zsr <| Ac (Ch rfl rfl) (hd 37 rfl) <| Ab <| Af ?_
        refine Bu rfl (fun h3 => ?_) (fun h3 => ?_)
        · have hi : i < n := by omega
          have hl := hlen i hi
          refine Am <| Af <| Aw <| zsr <| zmv rfl (hd 38 rfl) <| Ac (Ci (i := i) Y0 rfl rfl rfl (by first | rfl | omega) (by first | omega | (dsimp only; omega)) rfl) (hd 39 rfl) <| Ac (A8 Od rfl rfl (V4 hi)) (hd 40 rfl) <| zas rfl (hd 6 rfl) <| zas rfl (hd 7 rfl) <| Ab <| Af <| Ag ?_; refine zmv rfl (hd 41 rfl) <| Ac (Dv rfl rfl (r := ((5 * i : Nat) : Int)) (by rw [Ap (by omega) (by omega)]; omega)) (hd 42 rfl) <| Ac (A9 rfl rfl (r := ((300 + 5 * i : Nat) : Int)) (by rw [Ap (by omega) (by omega)]; omega)) (hd 43 rfl) <| Ac (D1 Mt H7 rfl (r := ((300 + 5 * i : Nat) : Int)) (by rw [Bh (by omega) (by omega)]; try omega)) (hd 44 rfl) <| zas rfl (hd 8 rfl) <| Ab <| zsr <| zmv rfl (hd 45 rfl) <| zmv rfl (hd 46 rfl) <| zmv rfl (hd 47 rfl) <| Ac (A9 rfl rfl (r := ((300 + 5 * i + 1 : Nat) : Int)) (by rw [Bh (by omega) (by omega)]; try omega)) (hd 48 rfl) <| zmv rfl (hd 49 rfl) ?_; refine Ac (A9 rfl rfl (r := ((300 + 5 * i + 2 : Nat) : Int)) (by rw [Bh (by omega) (by omega)]; try omega)) (hd 50 rfl) <| zmv rfl (hd 51 rfl) <| Ac (A9 rfl rfl (r := ((300 + 5 * i + 3 : Nat) : Int)) (by rw [Bh (by omega) (by omega)]; try omega)) (hd 52 rfl) <| zmv rfl (hd 53 rfl) <| Ac (A9 rfl rfl (r := ((300 + 5 * i + 4 : Nat) : Int)) (by rw [Bh (by omega) (by omega)]; try omega)) (hd 54 rfl) <| Ay (Hs (id := n + 1 + J.length) (xs := [.tmp 46, .tmp 48, .tmp 50, .tmp 52, .tmp 54]) Aaf rfl (Aa rfl (Aa rfl (Aa rfl (Aa rfl (Aa rfl Ad))))) rfl (F3 rfl) (by decide) Sj) (hd 55 rfl) <| Afi (H' := Cp n (owL n rs i) (owG rs i) (J ++ [⟨79, 1, 0, true, A2 .u64 (owB i)⟩])) Abx <| To Aaf rfl (Zo hi) (by simp [A2]) rfl (Yx Zd rfl rfl) (by omega) (by unfold maxLen; omega) (hd 56 rfl) <| Afi (Zq hi) <| zas rfl (hd 7 rfl) <| Ab <| Ag <| zmv rfl (hd 57 rfl) ?_; refine zmv rfl (hd 58 rfl) <| zmv rfl (hd 59 rfl) <| Ac (Ci (i := i) Y0 rfl rfl rfl (by first | rfl | omega) (by first | omega | (dsimp only; omega)) rfl) (hd 60 rfl) <| A1 (Ae rfl rfl rfl Aea rfl (by simp [cellsV, Kv, Pg hi, owE]) (by simp [owL]; omega)) <| Ab <| Ag <| Ac (A9 rfl rfl (Ap (by first | omega | (dsimp only; omega)) (by first | omega | (dsimp only; omega)))) (hd 61 rfl) <| zmv rfl (hd 36 rfl) <| Ab ?_
          refine ⟨(i + 1, _), ?_, ?_, (Zp hi), Ba 59 rfl rfl ?_⟩
          · show i + 1 ≤ n; omega
          · show n - (i + 1) < n - i; omega
          · exact (.cons rfl (.v9 (.v9 (.v5 (.u (.u (.u .nil)))))))
        · refine By <| Af <| zsr <| zmv rfl (hd 62 rfl) <| Ac (Eo Y0 rfl rfl) (hd 63 rfl) <| zmv rfl (hd 64 rfl) <| Ab <| Aw ?_
          refine B4 (G := Nat) (fun q => q ≤ n) (fun q => [(64, .i .i64 (q : Int)), (2, .u), (9, .u), (10, .u), (11, .u), (12, .u), (65, .u), (66, .u), (67, .u), (68, .u), (69, .u), (70, .u), (71, .u), (72, .u), (73, .u), (74, .u), (75, .u), (76, .u), (77, .u), (78, .u), (79, .u), (80, .u), (81, .u), (82, .u), (83, .u), (84, .u), (85, .u), (86, .u), (87, .u), (88, .u), (89, .u), (90, .u), (91, .u), (92, .u), (93, .u), (94, .u), (95, .u), (96, .u), (97, .u), (98, .u), (99, .u), (100, .u), (101, .u), (102, .u), (103, .u), (104, .u), (105, .u), (106, .u), (107, .u), (108, .u), (109, .u), (110, .u), (111, .u)]) (fun q => Cp n (owL n rs i) (owG rs i) J) (fun q => n - q) 0 ?_ ?_ rfl ?_
          · exact Nat.zero_le _
          · exact (.cons rfl (.v9 (.v9 (.v9 (.v9 (.v9 (.u (.u .nil))))))))
          · rintro q hc2; refine zsr <| Ac (Ch rfl rfl) (hd 65 rfl) <| Ab <| Af ?_
            refine Bu rfl (fun h4 => ?_) (fun h4 => ?_)
            · have hi : q < n := by omega
              have hl := hlen q hi
              have hm : ¬ i < n := by omega
              refine Am <| Af <| Aw <| zsr <| zmv rfl (hd 66 rfl) <| Ac (Ci (i := q) Y0 rfl rfl rfl (by first | rfl | omega) (by first | omega | (dsimp only; omega)) rfl) (hd 67 rfl) <| Ac (A8 Od rfl rfl (V3 hi hm)) (hd 68 rfl) <| zas rfl (hd 9 rfl) <| zas rfl (hd 10 rfl) <| Ab <| Af <| Ag ?_; refine zmv rfl (hd 69 rfl) <| Ac (Eo Hv rfl (Gv hi hm)) (hd 70 rfl) <| zmv rfl (hd 71 rfl) <| Ab <| Aw ?_
              refine B4 (G := Nat) (fun k => k ≤ (rs q).length + 5) (fun k => [(71, .i .i64 (k : Int)), (2, .u), (11, .u), (12, .u), (72, .u), (73, .u), (74, .u), (75, .u), (76, .u), (77, .u), (78, .u), (79, .u), (80, .u), (81, .u), (82, .u), (83, .u), (84, .u), (85, .u), (86, .u), (87, .u), (88, .u), (89, .u), (90, .u), (91, .u), (92, .u), (93, .u), (94, .u), (95, .u), (96, .u), (97, .u), (98, .u), (99, .u), (100, .u), (101, .u), (102, .u), (103, .u), (104, .u), (105, .u), (106, .u), (107, .u), (108, .u), (109, .u), (110, .u)]) (fun k => Cp n (owL n rs i) (owG rs i) J) (fun k => (rs q).length + 5 - k) 0 ?_ ?_ rfl ?_
              · exact Nat.zero_le _
              · exact (.cons rfl (.v9 (.v9 (.v9 (.v9 (.u (.u .nil)))))))
              · rintro k hc3; refine zsr <| Ac (Ch rfl rfl) (hd 72 rfl) <| Ab <| Af ?_
                refine Bu rfl (fun h5 => ?_) (fun h5 => ?_)
                · have hk : k < (rs q).length + 5 := by omega
                  have hkl := Aca (rs := rs) (i := q)
                  refine Am <| Af <| Aw <| zsr <| zmv rfl (hd 73 rfl) <| Ac (Ci (i := k) Hv rfl (Gv hi hm) rfl rfl (by omega) rfl) (hd 74 rfl) <| Ac (B0 (Es Bw rfl (Gv hi hm) (by omega)) (congrArg (V.i .u64) (Ab7 hk))) (hd 75 rfl) <| zas rfl (hd 11 rfl) <| zas rfl (hd 12 rfl) <| Ab <| Af <| Ag ?_; refine zmv rfl (hd 76 rfl) <| zmv rfl (hd 77 rfl) <| Ac (Eo Hv rfl (Gv hi hm)) (hd 78 rfl) <| Ac (B1 rfl rfl (r := (((rs q).length : Nat) : Int)) (by rw [Ap (by omega) (by omega)]; omega)) (hd 79 rfl) <| Ac (Ch rfl rfl) (hd 80 rfl) <| zmv rfl (hd 81 rfl) ?_
                  refine Fo 81 rfl (fun h6 => ?_) (fun h6 => ?_)
                  · refine Bn 81 rfl rfl (A0 rfl) (hd 82 rfl) <| Bn 81 rfl rfl (A0 rfl) (hd 83 rfl) <| Bn 81 rfl rfl (Hq rfl rfl (by decide) rfl) (hd 84 rfl) <| Bn 81 rfl rfl (A9 rfl rfl (r := owC q) (by rw [show ((q : Int).tmod 251) = ((q % 251 : Nat) : Int) from rfl, Ap (by omega) (by omega)]; unfold owC; omega)) (hd 85 rfl) <| Bn 81 rfl rfl (D1 Mt H7 rfl (r := owC q) (by unfold owC; rw [Bh (by omega) (by omega)])) (hd 86 rfl) <| Bn 81 rfl rfl (Cd (Cm rfl rfl) (fun h => h (if_pos (by omega)))) (hd 87 rfl) <| Ac (Cg rfl rfl) (hd 88 rfl) <| zmv rfl (hd 89 rfl) <| Bn 89 rfl rfl (A0 rfl) (hd 90 rfl) <| Bn 89 rfl rfl (A0 rfl) (hd 91 rfl) <| Bn 89 rfl rfl (Eo Hv rfl (Gv hi hm)) (hd 92 rfl) <| Bn 89 rfl rfl (B1 rfl rfl (r := (((rs q).length : Nat) : Int)) (by rw [Ap (by omega) (by omega)]; omega)) (hd 93 rfl) <| Bn 89 rfl rfl (Eu rfl rfl) (hd 94 rfl) ?_; refine Bn 89 rfl rfl (A0 rfl) (hd 95 rfl) ?_
                    refine Fo 95 rfl (fun h7 => ?_) (fun h7 => ?_)
                    · refine Bn 95 rfl rfl (A0 rfl) (hd 96 rfl) <| Bn 95 rfl rfl (A0 rfl) (hd 97 rfl) <| Bn 95 rfl rfl (Dv rfl rfl (r := ((5 * q : Nat) : Int)) (by rw [Ap (by omega) (by omega)]; omega)) (hd 98 rfl) <| Bn 95 rfl rfl (A9 rfl rfl (r := ((300 + 5 * q : Nat) : Int)) (by rw [Ap (by omega) (by omega)]; omega)) (hd 99 rfl) <| Bn 95 rfl rfl (A0 rfl) (hd 100 rfl) <| Bn 95 rfl rfl (A9 rfl rfl (r := ((300 + 5 * q + k : Nat) : Int)) (by rw [Ap (by omega) (by omega)]; omega)) (hd 101 rfl) <| Bn 95 rfl rfl (A0 rfl) (hd 102 rfl) <| Bn 95 rfl rfl (Eo Hv rfl (Gv hi hm)) (hd 103 rfl) <| Bn 95 rfl rfl (B1 rfl rfl (r := ((300 + 5 * q + k - ((rs q).length + 5) : Nat) : Int)) (by rw [Ap (by omega) (by omega)]; omega)) (hd 104 rfl) <| Bn 95 rfl rfl (A9 rfl rfl (r := ((300 + 5 * q + (k - (rs q).length) : Nat) : Int)) (by rw [Ap (by omega) (by omega)]; omega)) (hd 105 rfl) <| Bn 95 rfl rfl (D1 Mt H7 rfl (r := ((300 + 5 * q + (k - (rs q).length) : Nat) : Int)) (by rw [Bh (by omega) (by omega)]; try omega)) (hd 106 rfl) <| Bn 95 rfl rfl (Cd (Cm rfl rfl) (fun h => h (if_neg (by omega)))) (hd 107 rfl) <| Bn 89 rfl rfl (Cg rfl rfl) (hd 108 rfl) ?_; refine Ac (B9 rfl rfl) (hd 109 rfl) <| Ab <| Bl rfl <| Am <| Ag <| Ac (A9 rfl rfl (Ap (by first | omega | (dsimp only; omega)) (by first | omega | (dsimp only; omega)))) (hd 110 rfl) <| zmv rfl (hd 71 rfl) <| Ab ?_
                      refine ⟨k + 1, ?_, ?_, rfl, Ba 87 rfl rfl ?_⟩
                      · omega
                      · omega
                      · exact (.cons rfl (.v9 (.v9 (.v9 (.v9 (.u (.u .nil)))))))
                    · refine B6 95 rfl rfl rfl (hd 96 rfl) <| B6 95 rfl rfl rfl (hd 97 rfl) <| B6 95 rfl rfl rfl (hd 98 rfl) <| B6 95 rfl rfl rfl (hd 99 rfl) <| B6 95 rfl rfl rfl (hd 100 rfl) <| B6 95 rfl rfl rfl (hd 101 rfl) <| B6 95 rfl rfl rfl (hd 102 rfl) <| B6 95 rfl rfl rfl (hd 103 rfl) <| B6 95 rfl rfl rfl (hd 104 rfl) <| B6 95 rfl rfl rfl (hd 105 rfl) <| B6 95 rfl rfl rfl (hd 106 rfl) <| B6 95 rfl rfl rfl (hd 107 rfl) <| Bn 89 rfl rfl (B9 rfl rfl) (hd 108 rfl) ?_; refine Ac (B9 rfl rfl) (hd 109 rfl) <| Ab <| Bl rfl <| Am <| Ag <| Ac (A9 rfl rfl (Ap (by first | omega | (dsimp only; omega)) (by first | omega | (dsimp only; omega)))) (hd 110 rfl) <| zmv rfl (hd 71 rfl) <| Ab ?_
                      refine ⟨k + 1, ?_, ?_, rfl, Ba 87 rfl rfl ?_⟩
                      · omega
                      · omega
                      · exact (.cons rfl (.v9 (.v9 (.v9 (.v9 (.u (.u .nil)))))))
                  · refine B6 81 rfl rfl rfl (hd 82 rfl) <| B6 81 rfl rfl rfl (hd 83 rfl) <| B6 81 rfl rfl rfl (hd 84 rfl) <| B6 81 rfl rfl rfl (hd 85 rfl) <| B6 81 rfl rfl rfl (hd 86 rfl) <| B6 81 rfl rfl rfl (hd 87 rfl) <| Ac (B9 rfl rfl) (hd 88 rfl) <| zmv rfl (hd 89 rfl) <| Bn 89 rfl rfl (A0 rfl) (hd 90 rfl) <| Bn 89 rfl rfl (A0 rfl) (hd 91 rfl) <| Bn 89 rfl rfl (Eo Hv rfl (Gv hi hm)) (hd 92 rfl) <| Bn 89 rfl rfl (B1 rfl rfl (r := (((rs q).length : Nat) : Int)) (by rw [Ap (by omega) (by omega)]; omega)) (hd 93 rfl) <| Bn 89 rfl rfl (Eu rfl rfl) (hd 94 rfl) ?_; refine Bn 89 rfl rfl (A0 rfl) (hd 95 rfl) ?_
                    refine Fo 95 rfl (fun h10 => ?_) (fun h10 => ?_)
                    · refine Bn 95 rfl rfl (A0 rfl) (hd 96 rfl) <| Bn 95 rfl rfl (A0 rfl) (hd 97 rfl) <| Bn 95 rfl rfl (Dv rfl rfl (r := ((5 * q : Nat) : Int)) (by rw [Ap (by omega) (by omega)]; omega)) (hd 98 rfl) <| Bn 95 rfl rfl (A9 rfl rfl (r := ((300 + 5 * q : Nat) : Int)) (by rw [Ap (by omega) (by omega)]; omega)) (hd 99 rfl) <| Bn 95 rfl rfl (A0 rfl) (hd 100 rfl) <| Bn 95 rfl rfl (A9 rfl rfl (r := ((300 + 5 * q + k : Nat) : Int)) (by rw [Ap (by omega) (by omega)]; omega)) (hd 101 rfl) <| Bn 95 rfl rfl (A0 rfl) (hd 102 rfl) <| Bn 95 rfl rfl (Eo Hv rfl (Gv hi hm)) (hd 103 rfl) <| Bn 95 rfl rfl (B1 rfl rfl (r := ((300 + 5 * q + k - ((rs q).length + 5) : Nat) : Int)) (by rw [Ap (by omega) (by omega)]; omega)) (hd 104 rfl) <| Bn 95 rfl rfl (A9 rfl rfl (r := ((300 + 5 * q + (k - (rs q).length) : Nat) : Int)) (by rw [Ap (by omega) (by omega)]; omega)) (hd 105 rfl) <| Bn 95 rfl rfl (D1 Mt H7 rfl (r := ((300 + 5 * q + (k - (rs q).length) : Nat) : Int)) (by rw [Bh (by omega) (by omega)]; try omega)) (hd 106 rfl) <| Bn 95 rfl rfl (Cd (Cm rfl rfl) (fun h => h (if_neg (by omega)))) (hd 107 rfl) <| Bn 89 rfl rfl (Cg rfl rfl) (hd 108 rfl) ?_; refine Ac (B9 rfl rfl) (hd 109 rfl) <| Ab <| Bl rfl <| Am <| Ag <| Ac (A9 rfl rfl (Ap (by first | omega | (dsimp only; omega)) (by first | omega | (dsimp only; omega)))) (hd 110 rfl) <| zmv rfl (hd 71 rfl) <| Ab ?_
                      refine ⟨k + 1, ?_, ?_, rfl, Ba 87 rfl rfl ?_⟩
                      · omega
                      · omega
                      · exact (.cons rfl (.v9 (.v9 (.v9 (.v9 (.u (.u .nil)))))))
                    · refine B6 95 rfl rfl rfl (hd 96 rfl) <| B6 95 rfl rfl rfl (hd 97 rfl) <| B6 95 rfl rfl rfl (hd 98 rfl) <| B6 95 rfl rfl rfl (hd 99 rfl) <| B6 95 rfl rfl rfl (hd 100 rfl) <| B6 95 rfl rfl rfl (hd 101 rfl) <| B6 95 rfl rfl rfl (hd 102 rfl) <| B6 95 rfl rfl rfl (hd 103 rfl) <| B6 95 rfl rfl rfl (hd 104 rfl) <| B6 95 rfl rfl rfl (hd 105 rfl) <| B6 95 rfl rfl rfl (hd 106 rfl) <| B6 95 rfl rfl rfl (hd 107 rfl) <| Bn 89 rfl rfl (B9 rfl rfl) (hd 108 rfl) ?_; refine Ac (B9 rfl rfl) (hd 109 rfl) <| Ab <| Bl rfl <| Am <| Ag <| Ac (A9 rfl rfl (Ap (by first | omega | (dsimp only; omega)) (by first | omega | (dsimp only; omega)))) (hd 110 rfl) <| zmv rfl (hd 71 rfl) <| Ab ?_
                      refine ⟨k + 1, ?_, ?_, rfl, Ba 87 rfl rfl ?_⟩
                      · omega
                      · omega
                      · exact (.cons rfl (.v9 (.v9 (.v9 (.v9 (.u (.u .nil)))))))
                · refine By <| Ag <| Ac (A9 rfl rfl (Ap (by first | omega | (dsimp only; omega)) (by first | omega | (dsimp only; omega)))) (hd 111 rfl) <| zmv rfl (hd 64 rfl) <| Ab ?_
                  refine ⟨q + 1, ?_, ?_, rfl, Ba 108 (by kernel_rfl) (by kernel_rfl) ?_⟩
                  · omega
                  · omega
                  · exact (.cons rfl (.v9 (.v9 (.v9 (.v9 (.v9 (.u (.u .nil))))))))
            · refine By <| zsr <| zas rfl (hd 2 rfl) <| Ab <| As ?_
              refine ⟨_, (.cons rfl .nil), rfl, (Acc (m := i)), ?_⟩
              exact rfl

theorem Fh (l : List Int) (hl : l.length < 1099511627776) : Spec Try.prog 61 [.n false .u64 l] (fun o => o = .ret (.n false .u64 (trm l))) := by
  refine Az [(0, .n false .u64 l)] rfl Try.func61 rfl (zlb rfl) fun Γ hN hds hL hR => ?_
  have hd := B5 21 hN
  refine zsr <| zas rfl (hd 2 rfl) <| Ab <| Af <| Aw ?_
  refine B4 (G := Nat) (fun k => k ≤ l.length ∧ tN l k = tN l l.length) (fun k => [(0, .n false .u64 (l.take k)), (3, .u), (4, .u), (5, .u), (6, .u), (7, .u), (8, .u), (9, .u), (10, .u), (11, .u), (12, .u), (13, .u), (14, .u), (15, .u), (16, .u), (17, .u), (18, .u), (19, .u)]) (fun _ => _) (fun k => k) l.length ?_ ?_ rfl ?_
  · exact ⟨Nat.le_refl _, rfl⟩
  · exact (.cons (by rw [List.take_length]; rfl) (.v9 (.v5 (.u (.u .nil)))))
  · rintro k ⟨hc1, hc2⟩
    have hm : (l.take k).length = k := by rw [List.length_take]; omega
    refine Af <| zsr <| zmv rfl (hd 3 rfl) <| Ac (Av Bo rfl) (hd 4 rfl) <| Ac (C0 rfl rfl) (hd 5 rfl) <| zmv rfl (hd 6 rfl) ?_
    refine Fo 6 rfl (fun h1 => ?_) (fun h1 => ?_)
    · refine Bn 6 rfl rfl (A0 rfl) (hd 7 rfl) <| Bn 6 rfl rfl (A0 rfl) (hd 8 rfl) <| Bn 6 rfl rfl (Av Bo rfl) (hd 9 rfl) <| Bn 6 rfl rfl (B1 rfl rfl (Ap (by omega) (by omega))) (hd 10 rfl) <| Bn 6 rfl rfl (B8 (i := k - 1) Bo rfl rfl (by first | rfl | omega) (by omega)) (hd 11 rfl) <| Bn 6 rfl rfl (B7 Bw rfl rfl) (hd 12 rfl) <| Bn 6 rfl rfl (Dy rfl rfl) (hd 13 rfl) <| Ac (Cg rfl rfl) (hd 14 rfl) <| Ab ?_
      refine Bu rfl (fun h2 => ?_) (fun h2 => ?_)
      · refine Am <| Aw <| Ag <| zmv rfl (hd 15 rfl) <| zmv rfl (hd 16 rfl) <| Ac (Av Bo rfl) (hd 17 rfl) <| Ac (B1 rfl rfl (Ap (by omega) (by omega))) (hd 18 rfl) <| Ac (Il Bo rfl Gi (C8 rfl (show ((l.take k).length : Int) - 1 = ((k - 1 : Nat) : Int) by omega)) (.inl rfl) (by omega) (by omega)) (hd 19 rfl) <| zas rfl (hd 0 rfl) <| Ab ?_
        refine ⟨k - 1, ?_, ?_, rfl, Ba 37 rfl rfl ?_⟩
        · exact ⟨by omega, by rw [← hc2, R2 (by omega) (by rw [← It (show k - 1 < k by omega)]; assumption)]⟩
        · omega
        · exact (.cons (by show some (V.n false .u64 _) = some (V.n false .u64 _); rw [List.drop_zero, List.take_take, Nat.min_eq_left (by omega)]) (.v9 (.v5 (.u (.u .nil)))))
      · refine By <| zsr <| zmv rfl (hd 20 rfl) <| zas rfl (hd 2 rfl) <| Ab <| As ?_
        refine ⟨_, _, (.cons rfl .nil), .n, ?_⟩
        unfold trm
        rw [← hc2, N3 (by omega) (by rw [← It (show k - 1 < k by omega)]; assumption)]
    · refine B6 6 rfl rfl rfl (hd 7 rfl) <| B6 6 rfl rfl rfl (hd 8 rfl) <| B6 6 rfl rfl rfl (hd 9 rfl) <| B6 6 rfl rfl rfl (hd 10 rfl) <| B6 6 rfl rfl rfl (hd 11 rfl) <| B6 6 rfl rfl rfl (hd 12 rfl) <| B6 6 rfl rfl rfl (hd 13 rfl) <| Ac (B9 rfl rfl) (hd 14 rfl) <| Ab <| Bl rfl <| By <| Af <| Ag ?_; refine zmv rfl (hd 20 rfl) <| zas rfl (hd 2 rfl) <| Ab <| As ?_
      refine ⟨_, _, (.cons rfl .nil), .n, ?_⟩
      unfold trm
      rw [← hc2, Ae9 (by omega)]

theorem E9 (l : List Int) (hl : l.length < 1099511627776) : Spec Try.prog 48 [.n false .u64 l] (fun o => o = .ret (.n true .u64 (trm l))) := by
  refine Az [(0, .n false .u64 l)] rfl Try.func48 rfl (zlb rfl) fun Γ hN hds hL hR => ?_
  have hd := B5 6 hN
  have hm := C7 l
  refine zsr <| zas rfl (hd 2 rfl) <| Ab <| zsr <| zmv rfl (hd 3 rfl) ?_
  refine Aj Try.f61 (Fh l hl) rfl Try.func61 rfl rfl (Aa rfl Ad) (.cons .n .nil) (hd 4 rfl) ?_ (fun ch hp => by simp at hp)
  rintro _ ⟨⟩; refine Ay (Ts (id := 0) Ky rfl rfl Abl (by omega) (by unfold maxLen; omega) rfl) (hd 5 rfl) <| zas rfl (hd 2 rfl) <| Ab <| As ?_
  refine ⟨_, _, (.cons rfl .nil), (.o rfl (by simp) rfl), ?_⟩
  rw [List.drop_zero, List.take_length]

set_option maxRecDepth 100000 in
theorem U9 (x : Nat) (hx : x < 18446744073709551616) : Spec Try.prog 62 [.i .u64 (x : Int)] (fun o => o = .ret (.i .i64 (bl 64 x : Int))) := by
  refine Az [(0, .i .u64 (x : Int))] rfl Try.func62 rfl (zlb rfl) fun Γ hN hds hL hR => ?_
  have hd := B5 25 hN
  refine zsr <| zas rfl (hd 2 rfl) <| Ab ?_
  refine Cu (G := Nat × Nat) (fun g => bl 64 x = g.2 + bl 64 g.1 ∧ g.1 < 4294967296 ∧ g.2 ≤ 32) (fun g => [(0, .i .u64 (g.1 : Int)), (2, .i .i64 (g.2 : Int)), (3, .u), (4, .u), (5, .u), (6, .u)]) ?_ ?_
  · refine zsr <| zmv rfl (hd 3 rfl) <| Ac (Eu rfl rfl) (hd 4 rfl) <| Ab ?_
    refine Bu rfl (fun h1 => ?_) (fun h1 => ?_)
    · refine zsr <| zmv rfl (hd 5 rfl) <| Ac (B0 (E4 rfl rfl (by first | omega | (dsimp only; omega)) rfl) (show V.i .u64 _ = V.i .u64 ((x / 4294967296 : Nat) : Int) from congrArg (V.i .u64) (Kc (by decide)))) (hd 6 rfl) <| zas rfl (hd 0 rfl) <| Ab <| Ag <| zas rfl (hd 2 rfl) <| Ab ?_
      refine ⟨(x / 4294967296, 32), ?_, rfl, Ba 6 rfl rfl ?_⟩
      · exact ⟨by have h9 := Jg (k := 32) (by decide) (show 2 ^ 32 ≤ x by omega) (by omega); rw [show 2 ^ 32 = 4294967296 by decide] at h9; dsimp only; omega, by dsimp only; omega, by dsimp only; omega⟩
      · exact (.cons rfl (.cons (by show some (V.i .i64 _) = some (V.i .i64 _); rfl) (.u (.u (.u (.u .nil))))))
    · refine Am ?_
      refine ⟨(x, 0), ?_, rfl, Ba 2 rfl rfl ?_⟩
      · exact ⟨by dsimp only; omega, by dsimp only; omega, by dsimp only; omega⟩
      · exact (.cons rfl (.cons (by show some (V.i .i64 _) = some (V.i .i64 _); rfl) (.u (.u (.u (.u .nil))))))
  · rintro ⟨x1, n1⟩ ⟨he1, hx1, hn1⟩
    dsimp only at he1 hx1 hn1
    refine Cu (G := Nat × Nat) (fun g => bl 64 x = g.2 + bl 64 g.1 ∧ g.1 < 65536 ∧ g.2 ≤ 48) (fun g => [(0, .i .u64 (g.1 : Int)), (2, .i .i64 (g.2 : Int)), (7, .u), (8, .u), (9, .u), (10, .u), (11, .u), (12, .u)]) ?_ ?_
    · refine zsr <| zmv rfl (hd 7 rfl) <| Ac (Eu rfl rfl) (hd 8 rfl) <| Ab ?_
      refine Bu rfl (fun h2 => ?_) (fun h2 => ?_)
      · refine zsr <| zmv rfl (hd 9 rfl) <| Ac (B0 (E4 rfl rfl (by first | omega | (dsimp only; omega)) rfl) (show V.i .u64 _ = V.i .u64 ((x1 / 65536 : Nat) : Int) from congrArg (V.i .u64) (Kc (by decide)))) (hd 10 rfl) <| zas rfl (hd 0 rfl) <| Ab <| Ag <| zmv rfl (hd 11 rfl) <| Ac (A9 rfl rfl (r := ((n1 + 16 : Nat) : Int)) (by rw [Ap (by omega) (by omega)]; omega)) (hd 12 rfl) <| zas rfl (hd 2 rfl) <| Ab ?_
        refine ⟨(x1 / 65536, n1 + 16), ?_, rfl, Ba 8 rfl rfl ?_⟩
        · exact ⟨by have h9 := Jg (k := 16) (by decide) (show 2 ^ 16 ≤ x1 by omega) (by omega); rw [show 2 ^ 16 = 65536 by decide] at h9; dsimp only; omega, by dsimp only; omega, by dsimp only; omega⟩
        · exact (.cons rfl (.cons (by show some (V.i .i64 _) = some (V.i .i64 _); rfl) (.v5 (.u .nil))))
      · refine Am ?_
        refine ⟨(x1, n1), ?_, rfl, Ba 2 rfl rfl ?_⟩
        · exact ⟨by dsimp only; omega, by dsimp only; omega, by dsimp only; omega⟩
        · exact (.cons rfl (.cons (by show some (V.i .i64 _) = some (V.i .i64 _); rfl) (.v5 (.u .nil))))
    · rintro ⟨x2, n2⟩ ⟨he2, hx2, hn2⟩
      dsimp only at he2 hx2 hn2
      refine Cu (G := Nat × Nat) (fun g => bl 64 x = g.2 + bl 64 g.1 ∧ g.1 < 256 ∧ g.2 ≤ 56) (fun g => [(0, .i .u64 (g.1 : Int)), (2, .i .i64 (g.2 : Int)), (13, .u), (14, .u), (15, .u), (16, .u), (17, .u), (18, .u)]) ?_ ?_
      · refine zsr <| zmv rfl (hd 13 rfl) <| Ac (Eu rfl rfl) (hd 14 rfl) <| Ab ?_
        refine Bu rfl (fun h3 => ?_) (fun h3 => ?_)
        · refine zsr <| zmv rfl (hd 15 rfl) <| Ac (B0 (E4 rfl rfl (by first | omega | (dsimp only; omega)) rfl) (show V.i .u64 _ = V.i .u64 ((x2 / 256 : Nat) : Int) from congrArg (V.i .u64) (Kc (by decide)))) (hd 16 rfl) <| zas rfl (hd 0 rfl) <| Ab <| Ag <| zmv rfl (hd 17 rfl) <| Ac (A9 rfl rfl (r := ((n2 + 8 : Nat) : Int)) (by rw [Ap (by omega) (by omega)]; omega)) (hd 18 rfl) <| zas rfl (hd 2 rfl) <| Ab ?_
          refine ⟨(x2 / 256, n2 + 8), ?_, rfl, Ba 8 rfl rfl ?_⟩
          · exact ⟨by have h9 := Jg (k := 8) (by decide) (show 2 ^ 8 ≤ x2 by omega) (by omega); rw [show 2 ^ 8 = 256 by decide] at h9; dsimp only; omega, by dsimp only; omega, by dsimp only; omega⟩
          · exact (.cons rfl (.cons (by show some (V.i .i64 _) = some (V.i .i64 _); rfl) (.v5 (.u .nil))))
        · refine Am ?_
          refine ⟨(x2, n2), ?_, rfl, Ba 2 rfl rfl ?_⟩
          · exact ⟨by dsimp only; omega, by dsimp only; omega, by dsimp only; omega⟩
          · exact (.cons rfl (.cons (by show some (V.i .i64 _) = some (V.i .i64 _); rfl) (.v5 (.u .nil))))
      · rintro ⟨x3, n3⟩ ⟨he3, hx3, hn3⟩
        dsimp only at he3 hx3 hn3
        refine zsr <| zmv rfl (hd 19 rfl) <| zmv rfl (hd 20 rfl) <| Ac (D1 H7 Ae8 rfl (Yq (by first | omega | (dsimp only; omega)) (by first | omega | (dsimp only; omega)))) (hd 21 rfl) <| Ac (Acm (b := Tj) (i := x3) Af0 (by kernel_rfl) rfl rfl (show x3 < 256 by omega)) (hd 22 rfl) ?_
        have h7 := Nc hx3
        have h8 := Uv 64 x3
        refine Ac (D1 Ae8 Mt rfl (Ap (by first | omega | (dsimp only; omega)) (by first | omega | (dsimp only; omega)))) (hd 23 rfl) <| Ac (A9 rfl rfl (Ap (by first | omega | (dsimp only; omega)) (by first | omega | (dsimp only; omega)))) (hd 24 rfl) <| zas rfl (hd 2 rfl) <| Ab <| As ?_
        refine ⟨_, _, (.cons rfl .nil), .i, ?_⟩
        have h7 := Nc hx3
        rw [h7, he3]
        rfl

theorem Jk (v : Int) : Spec Try.prog 63 [.i .u64 v] (fun o => o = .ret (.n true .u64 (if v = 0 then [] else [v]))) := by
  refine Az [(0, .i .u64 v)] rfl Try.func63 rfl (zlb rfl) fun Γ hN hds hL hR => ?_
  have hd := B5 7 hN
  refine zsr <| zas rfl (hd 2 rfl) <| Ab <| Af <| zsr <| zmv rfl (hd 3 rfl) <| Ac (Dy rfl rfl) (hd 4 rfl) <| Ab ?_
  refine Bu rfl (fun h1 => ?_) (fun h1 => ?_)
  · refine zsr <| zas rfl (hd 2 rfl) <| Ab <| As ?_
    refine ⟨_, _, (.cons rfl .nil), (.nil (fr := true) (k := .u64)), ?_⟩
    rw [if_pos (by assumption)]
  · refine Am <| zsr <| zmv rfl (hd 5 rfl) <| Ay (Hs (id := 0) (xs := [.tmp 5]) Ky rfl (Aa rfl Ad) rfl (F3 rfl) (by decide) rfl) (hd 6 rfl) <| zas rfl (hd 2 rfl) <| Ab <| As ?_
    refine ⟨_, _, (.cons rfl .nil), (.o (T := 79) (k := .u64) (l := [v]) rfl (by simp) rfl), ?_⟩
    rw [if_neg (by assumption)]
    rfl

theorem Ed (l : List Int) (hl : l.length < 1099511627776) (hu : A3 l) : Spec Try.prog 33 [.n false .u64 l] (fun o => o = .ret (.i .i64 (Dp l : Int))) := by
  refine Az [(0, .n false .u64 l)] rfl Try.func33 rfl (zlb rfl) fun Γ hN hds hL hR => ?_
  have hd := B5 20 hN
  have hm := C7 l
  refine zsr <| zas rfl (hd 2 rfl) <| Ab <| zsr <| zmv rfl (hd 3 rfl) ?_
  refine Aj Try.f61 (Fh l hl) rfl Try.func61 rfl rfl (Aa rfl Ad) (.cons .n .nil) (hd 4 rfl) ?_ (fun ch hp => by simp at hp)
  rintro _ ⟨⟩; refine zas rfl (hd 0 rfl) <| Ab <| Af <| zsr <| zmv rfl (hd 5 rfl) <| Ac (Av Bo rfl) (hd 6 rfl) <| Ac (Dy rfl rfl) (hd 7 rfl) <| Ab ?_
  refine Bu rfl (fun h1 => ?_) (fun h1 => ?_)
  · refine zsr <| zas rfl (hd 2 rfl) <| Ab <| As ?_
    refine ⟨_, _, (.cons rfl .nil), .i, ?_⟩
    unfold Dp
    rw [if_pos (by omega)]
    rfl
  · have htop := Ny (Bk hu) (i := (trm l).length - 1) (by omega)
    have hbl := Uv 64 ((trm l).getD ((trm l).length - 1) 0).toNat
    refine Am <| zsr <| zmv rfl (hd 8 rfl) <| Ac (Av Bo rfl) (hd 9 rfl) <| Ac (B1 rfl rfl (Ap (by omega) (by omega))) (hd 10 rfl) <| Ac (Dv rfl rfl (Ap (by omega) (by omega))) (hd 11 rfl) <| zmv rfl (hd 12 rfl) <| zmv rfl (hd 13 rfl) <| Ac (Av Bo rfl) (hd 14 rfl) <| Ac (B1 rfl rfl (Ap (by omega) (by omega))) (hd 15 rfl) <| Ac (B8 (i := (trm l).length - 1) Bo rfl rfl (by first | rfl | omega) (by omega)) (hd 16 rfl) <| Ac (B0 (B7 Bw rfl rfl) (show V.i .u64 ((trm l).getD ((trm l).length - 1) 0) = V.i .u64 (((trm l).getD ((trm l).length - 1) 0).toNat : Int) by rw [Int.toNat_of_nonneg htop.1])) (hd 17 rfl) ?_
    refine Aj Try.f62 (U9 ((trm l).getD ((trm l).length - 1) 0).toNat (by omega)) rfl Try.func62 rfl rfl (Aa rfl Ad) (.cons .i .nil) (hd 18 rfl) ?_ (fun ch hp => by simp at hp)
    rintro _ ⟨⟩; refine Ac (A9 rfl rfl (Ap (by omega) (by omega))) (hd 19 rfl) <| zas rfl (hd 2 rfl) <| Ab <| As ?_
    refine ⟨_, _, (.cons rfl .nil), .i, ?_⟩
    unfold Dp
    rw [if_neg (by omega)]
    show Out.ret (V.i .i64 _) = Out.ret (V.i .i64 _)
    congr 2
    omega

theorem E6 (a b : List Int) (ha : a.length < 4294967296) (hb : b.length < 4294967296) : Spec Try.prog 71 [.n false .u64 a, .n false .u64 b] (fun o => o = .ret (.i .i64 (Lk (trm a) (trm b)))) := by
  refine Az [(0, .n false .u64 a), (1, .n false .u64 b)] rfl Try.func71 rfl (zlb rfl) fun Γ hN hds hL hR => ?_
  have hd := B5 45 hN
  have hma := C7 a
  have hmb := C7 b
  refine zsr <| zas rfl (hd 4 rfl) <| Ab <| zsr <| zmv rfl (hd 6 rfl) ?_
  refine Aj Try.f61 (Fh a (by omega)) rfl Try.func61 rfl rfl (Aa rfl Ad) (.cons .n .nil) (hd 7 rfl) ?_ (fun ch hp => by simp at hp)
  rintro _ ⟨⟩; refine zmv rfl (hd 8 rfl) ?_
  refine Aj Try.f61 (Fh b (by omega)) rfl Try.func61 rfl rfl (Aa rfl Ad) (.cons .n .nil) (hd 9 rfl) ?_ (fun ch hp => by simp at hp)
  rintro _ ⟨⟩; refine zas rfl (hd 0 rfl) <| zas rfl (hd 1 rfl) <| Ab <| Af <| zsr <| zmv rfl (hd 10 rfl) <| Ac (Av Bo rfl) (hd 11 rfl) <| zmv rfl (hd 12 rfl) <| Ac (Av Bo rfl) (hd 13 rfl) <| Ac (Cm rfl rfl) (hd 14 rfl) <| Ab ?_
  refine Bu rfl (fun h1 => ?_) (fun h1 => ?_)
  · refine Af <| zsr <| zmv rfl (hd 15 rfl) <| Ac (Av Bo rfl) (hd 16 rfl) <| zmv rfl (hd 17 rfl) <| Ac (Av Bo rfl) (hd 18 rfl) <| Ac (Ch rfl rfl) (hd 19 rfl) <| Ab ?_
    refine Bu rfl (fun h2 => ?_) (fun h2 => ?_)
    · refine zsr <| zas rfl (hd 4 rfl) <| Ab <| As ?_
      refine ⟨_, _, (.cons rfl .nil), .i, ?_⟩
      unfold Lk
      rw [if_pos (by omega)]
    · refine Am <| zsr <| zas rfl (hd 4 rfl) <| Ab <| As ?_
      refine ⟨_, _, (.cons rfl .nil), .i, ?_⟩
      unfold Lk
      rw [if_neg (by omega), if_pos (by omega)]
  · refine Am <| Af <| zsr <| zmv rfl (hd 20 rfl) <| Ac (Av Bo rfl) (hd 21 rfl) <| Ac (B1 rfl rfl (Ap (by omega) (by omega))) (hd 22 rfl) <| zas rfl (hd 5 rfl) <| Ab <| Aw ?_
    refine B4 (G := Nat) (fun k => k ≤ (trm a).length ∧ Jf (trm a) (trm b) k = Jf (trm a) (trm b) (trm a).length) (fun k => [(5, .i .i64 ((k : Int) - 1)), (4, .u), (23, .u), (24, .u), (25, .u), (26, .u), (27, .u), (28, .u), (29, .u), (30, .u), (31, .u), (32, .u), (33, .u), (34, .u), (35, .u), (36, .u), (37, .u), (38, .u), (39, .u), (40, .u), (41, .u), (42, .u), (43, .u), (44, .u)]) (fun _ => _) (fun k => k) (trm a).length ?_ ?_ rfl ?_
    · exact ⟨Nat.le_refl _, rfl⟩
    · exact (.cons rfl (.v9 (.v9 (.u (.u (.u .nil))))))
    · rintro k ⟨hc1, hc2⟩; refine Af <| zsr <| zmv rfl (hd 23 rfl) <| Ac (Eu rfl rfl) (hd 24 rfl) <| Ab ?_
      refine Bu rfl (fun h3 => ?_) (fun h3 => ?_)
      · refine Am <| Af <| Aw <| Af <| Af <| Be (n := 9) _ rfl B2 <| Ax 0 [2, 3, 8] (Ao (A0 rfl) (hd 27 rfl)) rfl <| Ax 1 [2, 3, 8] (Ao (A0 rfl) (hd 28 rfl)) rfl <| Ax 2 [3, 8] (Ao (B8 (i := k - 1) Bo rfl rfl (by omega) (by omega)) (hd 29 rfl)) rfl <| zal 3 (Ao (B7 Bw rfl rfl) (hd 30 rfl)) rfl <| Ax 4 [6, 7, 8] (Ao (A0 rfl) (hd 31 rfl)) rfl <| Ax 5 [6, 7, 8] (Ao (A0 rfl) (hd 32 rfl)) rfl <| Ax 6 [7, 8] (Ao (B8 (i := k - 1) Bo rfl rfl (by omega) (by omega)) (hd 33 rfl)) rfl ?_; refine zal 7 (Ao (B7 Bw rfl rfl) (hd 34 rfl)) rfl <| zal 8 (Ao (Ch rfl rfl) (hd 35 rfl)) rfl <| Bi (by kernel_rfl) ?_
        refine Bu rfl (fun h4 => ?_) (fun h4 => ?_)
        · refine zsr <| zas rfl (hd 4 rfl) <| Ab <| As ?_
          refine ⟨_, _, (.cons rfl .nil), .i, ?_⟩
          unfold Lk
          rw [if_neg (by omega), if_neg (by omega), ← hc2, Uq (by omega) (by assumption)]
        · refine Am <| Af <| Be (n := 9) _ rfl B2 <| Ax 0 [2, 3, 8] (Ao (A0 rfl) (hd 36 rfl)) rfl <| Ax 1 [2, 3, 8] (Ao (A0 rfl) (hd 37 rfl)) rfl <| Ax 2 [3, 8] (Ao (B8 (i := k - 1) Bo rfl rfl (by omega) (by omega)) (hd 38 rfl)) rfl <| zal 3 (Ao (B7 Bw rfl rfl) (hd 39 rfl)) rfl <| Ax 4 [6, 7, 8] (Ao (A0 rfl) (hd 40 rfl)) rfl <| Ax 5 [6, 7, 8] (Ao (A0 rfl) (hd 41 rfl)) rfl <| Ax 6 [7, 8] (Ao (B8 (i := k - 1) Bo rfl rfl (by omega) (by omega)) (hd 42 rfl)) rfl <| zal 7 (Ao (B7 Bw rfl rfl) (hd 43 rfl)) rfl <| zal 8 (Ao (C0 rfl rfl) (hd 44 rfl)) rfl <| Bi (by kernel_rfl) ?_
          refine Bu rfl (fun h5 => ?_) (fun h5 => ?_)
          · refine zsr <| zas rfl (hd 4 rfl) <| Ab <| As ?_
            refine ⟨_, _, (.cons rfl .nil), .i, ?_⟩
            unfold Lk
            rw [if_neg (by omega), if_neg (by omega), ← hc2, Ur (by omega) (by assumption)]
          · refine Am <| Ag <| zmv rfl (hd 25 rfl) <| Ac (B1 rfl rfl (Ap (by omega) (by omega))) (hd 26 rfl) <| zas rfl (hd 5 rfl) <| Ab ?_
            refine ⟨k - 1, ?_, ?_, rfl, Ba 47 rfl rfl ?_⟩
            · exact ⟨by omega, by rw [← hc2]; exact Us (by omega) (by assumption) (by assumption)⟩
            · omega
            · exact (.cons (by show some (V.i .i64 _) = some (V.i .i64 _); congr 2; omega) (.v9 (.v9 (.u (.u (.u .nil))))))
      · refine By <| zsr <| zas rfl (hd 4 rfl) <| Ab <| As ?_
        refine ⟨_, _, (.cons rfl .nil), .i, ?_⟩
        unfold Lk
        rw [if_neg (by omega), if_neg (by omega), ← hc2]
        obtain rfl : k = 0 := by omega
        rfl

theorem Ry (l : List Int) (hl : l.length < 1099511627776) (hu : A3 l) (h : Dp (trm l) ≤ 67108864) : Spec Try.prog 101 [.n false .u64 l] (fun o => o = .ret (.t [.n false .u64 (trm l), .i .i64 0])) := by
  refine Az [(0, .n false .u64 l)] rfl Try.func101 rfl (zlb rfl) fun Γ hN hds hL hR => ?_
  have hd := B5 10 hN
  have hm := C7 l
  refine zsr <| zas rfl (hd 2 rfl) <| zas rfl (hd 3 rfl) <| Ab <| zsr <| zmv rfl (hd 4 rfl) ?_
  refine Aj Try.f61 (Fh l hl) rfl Try.func61 rfl rfl (Aa rfl Ad) (.cons .n .nil) (hd 5 rfl) ?_ (fun ch hp => by simp at hp)
  rintro _ ⟨⟩; refine zas rfl (hd 0 rfl) <| Ab <| Af <| zsr <| zmv rfl (hd 6 rfl) ?_
  refine Aj Try.f33 (Ed (trm l) (by omega) (Bk hu)) rfl Try.func33 rfl rfl (Aa rfl Ad) (.cons .n .nil) (hd 7 rfl) ?_ (fun ch hp => by simp at hp)
  rintro _ ⟨⟩; refine Ac (Cd (C0 rfl rfl) (by omega)) (hd 8 rfl) <| Ab <| Bl rfl <| Am <| zsr <| zmv rfl (hd 9 rfl) <| zas rfl (hd 2 rfl) <| zas rfl (hd 3 rfl) <| Ab <| As ?_
  refine ⟨_, _, (.cons rfl (.cons rfl .nil)), (.t1 .n (.t1 .i .t0)), ?_⟩
  exact rfl

theorem O9 (l : List Int) (hl : l.length < 1099511627776) (hu : A3 l) (h : 67108864 < Dp (trm l)) : Spec Try.prog 101 [.n false .u64 l] (fun o => o = .ret (.t [.n false .u64 [], .i .i64 3])) := by
  refine Az [(0, .n false .u64 l)] rfl Try.func101 rfl (zlb rfl) fun Γ hN hds hL hR => ?_
  have hd := B5 10 hN
  have hm := C7 l
  refine zsr <| zas rfl (hd 2 rfl) <| zas rfl (hd 3 rfl) <| Ab <| zsr <| zmv rfl (hd 4 rfl) ?_
  refine Aj Try.f61 (Fh l hl) rfl Try.func61 rfl rfl (Aa rfl Ad) (.cons .n .nil) (hd 5 rfl) ?_ (fun ch hp => by simp at hp)
  rintro _ ⟨⟩; refine zas rfl (hd 0 rfl) <| Ab <| Af <| zsr <| zmv rfl (hd 6 rfl) ?_
  refine Aj Try.f33 (Ed (trm l) (by omega) (Bk hu)) rfl Try.func33 rfl rfl (Aa rfl Ad) (.cons .n .nil) (hd 7 rfl) ?_ (fun ch hp => by simp at hp)
  rintro _ ⟨⟩; refine Ac (Ft (C0 rfl rfl) (by omega)) (hd 8 rfl) <| Ab <| Dm rfl <| zsr <| zas rfl (hd 2 rfl) <| zas rfl (hd 3 rfl) <| Ab <| As ?_
  refine ⟨_, _, (.cons rfl (.cons rfl .nil)), (.t1 (.nil (fr := false) (k := .u64)) (.t1 .i .t0)), ?_⟩
  exact rfl
end Go.Proofs.Ythbbbopbglbagaa.Vc
