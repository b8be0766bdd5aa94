/- The law WholeTower of surdtop returns true for every two naturals and every cut of bulk at most 1048576 Texts joined: Pe, Pf, Pg, Ph, Pi, Pj, Pk, Pl, Pm, Pn, Po, Pp, Pq, Qd, Qe, Qy, Za, Qf, Zb, Zc, Zd, Zf, Zg, Zh, Zi, Zj, Zo, Qg, Qh, Qi, Qj, Qk, Ql, Qn, Qo, Qp. -/
import Derived.Test.YtcfdclehmpfkcaaK5
set_option linter.unusedVariables false
set_option linter.unusedSimpArgs false
/- The powers by which great numbers are parted; what the parts' digits make. -/
namespace Go.Proofs.Ytcfdclehmpfkcaa.Vc
open Go Go.RowKit
def pwV (b k : Nat) : V := .n true .u64 (lm ((b ^ 2 ^ k : Nat) : Int))
def pwR (b K : Nat) : List (List V) := (List.range K).map fun k => [pwV b k]
theorem pw_length {b K : Nat} : (pwR b K).length = K := by simp [pwR]
theorem pw_snoc {b K : Nat} : (pwR b K).flatten ++ [pwV b K] = (pwR b (K + 1)).flatten := by
  unfold pwR
  rw [List.range_succ, List.map_append, List.flatten_append]
  rfl
theorem pw_one {b : Nat} : [pwV b 0] = (pwR b 1).flatten := rfl
theorem pw_mono {b j k : Nat} (hb : 2 ≤ b) (h : j ≤ k) : lenV ((b ^ 2 ^ j : Nat) : Int) ≤ lenV ((b ^ 2 ^ k : Nat) : Int) := by
  refine lenV_mono ?_
  rw [Int.natAbs_natCast, Int.natAbs_natCast]
  exact Nat.pow_le_pow_right (by omega) (Nat.pow_le_pow_right (by decide) h)
theorem pw_big {b k : Nat} {v : Int} (hv : lenV v ≤ 67108864) (h0 : 0 ≤ v) (h : 67108864 < lenV ((b ^ 2 ^ k : Nat) : Int)) : v.toNat < b ^ 2 ^ k := by
  rcases Nat.lt_or_ge v.toNat (b ^ 2 ^ k) with h1 | h1
  · exact h1
  · have := lenV_mono (v := ((b ^ 2 ^ k : Nat) : Int)) (w := v) (by rw [Int.natAbs_natCast]; omega)
    omega
theorem errL_len {x : Int} {r : List Int} {e : Int} (h : ErrL x r e) : r.length ≤ 1048576 := by
  rcases h with ⟨_, h, hh⟩ | ⟨_, h, _⟩
  · rw [h]; exact lenV_lm hh
  · rw [h]; simp
theorem errL_u {x : Int} {r : List Int} {e : Int} (h : ErrL x r e) : u64s r := by
  rcases h with ⟨_, h, hh⟩ | ⟨_, h, _⟩
  · rw [h]; exact lm_u _
  · rw [h]; exact fun x hx => by simp at hx
theorem errL_ne {x : Int} {r : List Int} {e : Int} (h : ErrL x r e) (he : e ≠ 0) : 67108864 < lenV x := by
  rcases h with ⟨h, _⟩ | ⟨_, _, h⟩
  · exact absurd h he
  · exact h
theorem errL_eq {x : Int} {r : List Int} {e : Int} (h : ErrL x r e) (he : e = 0) : r = lm x ∧ lenV x ≤ 67108864 := by
  rcases h with ⟨_, h⟩ | ⟨h, _⟩
  · exact h
  · omega
theorem pw_at {b K k : Nat} (h : k < K) : (pwR b K)[k]? = some [pwV b k] := by
  unfold pwR
  rw [List.getElem?_map, List.getElem?_range h]; rfl
theorem pw_flat {b : Nat} : ∀ K, (pwR b K).flatten = (List.range K).map (pwV b)
  | 0 => rfl
  | K + 1 => by rw [← pw_snoc, pw_flat K, List.range_succ, List.map_append]; rfl
theorem pw_flen {b K : Nat} : (pwR b K).flatten.length = K := by rw [pw_flat]; simp
theorem pw_fat {b K k : Nat} (h : k < K) : (pwR b K).flatten[k]? = some (pwV b k) := by
  rw [pw_flat, List.getElem?_map, List.getElem?_range h]; rfl
theorem pw_sz {b K : Nat} : ∀ r ∈ pwR b K, r.length = 1 := fun r hr => by
  obtain ⟨k, _, rfl⟩ := List.mem_map.1 hr; rfl
theorem pw_pure {b K : Nat} : ∀ r ∈ pwR b K, r.all pureV = true := fun r hr => by
  obtain ⟨k, _, rfl⟩ := List.mem_map.1 hr; rfl
theorem pw_id {b K n : Nat} : (pwR b K).flatten.all (idB n) = true := by
  rw [pw_flat, List.all_map, List.all_eq_true]; intro x _; rfl
theorem pw_pos {b k : Nat} (hb : 2 ≤ b) : 0 < b ^ 2 ^ k := Nat.pow_pos (by omega)
theorem pw_sq {b k : Nat} : b ^ 2 ^ k * b ^ 2 ^ k = b ^ 2 ^ (k + 1) := by
  rw [← Nat.pow_add]; congr 1; rw [Nat.pow_succ]; omega
theorem pw_sqI {b k : Nat} : vl (lm ((b ^ 2 ^ k : Nat) : Int)) * vl (lm ((b ^ 2 ^ k : Nat) : Int)) = ((b ^ 2 ^ (k + 1) : Nat) : Int) := by
  rw [vl_lm (Int.natCast_nonneg _), ← Int.natCast_mul, pw_sq]
/-- So many powers are no greater than a number: few they are. -/
theorem pw_cap {b k x L : Nat} (hb : 2 ≤ b) (h : b ^ 2 ^ k ≤ x) (hx : x < 2 ^ L) : 2 ^ k < L := by
  have h1 : 2 ^ 2 ^ k ≤ b ^ 2 ^ k := Nat.pow_le_pow_left hb _
  exact (Nat.pow_lt_pow_iff_right (by decide : 1 < 2)).1 (Nat.lt_of_le_of_lt h1 (Nat.lt_of_le_of_lt h hx))
theorem pw_cap26 {b k x : Nat} (hb : 2 ≤ b) (h : b ^ 2 ^ k ≤ x) (hx : x < 2 ^ 67108864) : k ≤ 26 := by
  have h1 := pw_cap hb h hx
  have h2 : 2 ^ k < 2 ^ 26 := h1
  have := (Nat.pow_lt_pow_iff_right (by decide : 1 < 2)).1 h2
  omega
theorem two_cap {k n : Nat} (h : k ≤ n) : 2 ^ k ≤ 2 ^ n := Nat.pow_le_pow_right (by decide) h
theorem nat_of {l : List Int} (hu : u64s l) : ((vl l).toNat : Int) = vl l := Int.toNat_of_nonneg (vl_nonneg hu)
theorem lenV_pow {v : Int} {L : Nat} (h0 : 0 ≤ v) (h : lenV v ≤ L) : v.toNat < 2 ^ L := by
  have h1 : v.natAbs < 2 ^ L := nbits_le.1 h
  have : v.toNat = v.natAbs := by omega
  omega
theorem digs_le_len {b : Nat} {l : List Int} (hu : u64s l) (hb : 2 ≤ b) : (digs b (vl l).toNat).length ≤ 64 * l.length := by
  refine digs_len hb _ _ ?_
  have h := vl_lt hu
  have h0 := vl_nonneg hu
  rw [pB_pow] at h
  have h1 : (vl l).toNat < 2 ^ (64 * l.length) := by omega
  exact Nat.lt_of_lt_of_le h1 (Nat.pow_le_pow_left hb _)
theorem part_q {b j x : Nat} (h : x < b ^ 2 ^ (j + 1)) : x / b ^ 2 ^ j < b ^ 2 ^ j := by
  rw [← pw_sq] at h
  exact Nat.div_lt_of_lt_mul h
theorem part_r {b j x : Nat} (hb : 2 ≤ b) : x % b ^ 2 ^ j < b ^ 2 ^ j := Nat.mod_lt _ (pw_pos hb)
theorem part_join {b j x : Nat} (hb : 2 ≤ b) (h : x < b ^ 2 ^ (j + 1)) : hdg b (2 ^ j) (x / b ^ 2 ^ j) ++ hdg b (2 ^ j) (x % b ^ 2 ^ j) = hdg b (2 ^ (j + 1)) x := by
  rw [hdg_app hb (part_q h) (part_r hb), Nat.div_add_mod' x]
  congr 1; rw [Nat.pow_succ]; omega
theorem qn_nat2 {v : Int} {p x : Nat} (h : v = (x : Int)) : (vl (lm (qn v (p : Int)))).toNat = x / p := by
  subst h
  rw [show qn (x : Int) (p : Int) = ((x / p : Nat) : Int) from by unfold qn; simp, vl_lm (Int.natCast_nonneg _)]; rfl
theorem rn_nat2 {v : Int} {p x : Nat} (h : v = (x : Int)) : (vl (lm (rn v (p : Int)))).toNat = x % p := by
  subst h
  rw [show rn (x : Int) (p : Int) = ((x % p : Nat) : Int) from by unfold rn; simp, vl_lm (Int.natCast_nonneg _)]; rfl
/-- Where the noughts at the front end. -/
theorem cut_at {b m x i : Nat} (hb : 2 ≤ b) (hx : x ≠ 0) (hm : (digs b x).length ≤ m) (hi : i ≤ m - (digs b x).length) (hend : (hdg b m x).length - 1 ≤ i ∨ (hdg b m x).getD i 0 ≠ 0) : i = m - (digs b x).length := by
  have h1 : 0 < (digs b x).length := List.length_pos_iff.2 (digs_ne hb hx)
  rcases hend with h | h
  · rw [hdg_le] at h; omega
  · rcases Nat.lt_or_ge i (m - (digs b x).length) with hlt | hge
    · exfalso
      apply h
      rw [hdg_cut hb hx, List.getD_eq_getElem?_getD, List.getElem?_append_left (by simpa using hlt), List.getElem?_replicate, if_pos hlt]
      rfl
    · omega
theorem cut_next {b m x i : Nat} (hb : 2 ≤ b) (hx : x ≠ 0) (hm : (digs b x).length ≤ m) (hi : i ≤ m - (digs b x).length) (h0 : (hdg b m x).getD i 0 = 0) : i + 1 ≤ m - (digs b x).length := by
  rcases Nat.lt_or_ge i (m - (digs b x).length) with hlt | hge
  · exact hlt
  · exfalso
    obtain rfl : i = m - (digs b x).length := by omega
    apply hdg_head hb hx
    rw [hdg_cut hb hx, List.getD_eq_getElem?_getD, List.getElem?_append_right (by simp)] at h0
    simpa using h0
theorem cut_drop {b m x : Nat} (hb : 2 ≤ b) (hx : x ≠ 0) : (hdg b m x).drop (m - (digs b x).length) = hdg b 1 x := by
  rw [hdg_cut hb hx, List.drop_append_of_le_length (by simp)]
  simp
end Go.Proofs.Ytcfdclehmpfkcaa.Vc

/- The letters of digits; texts of digits: which stands later; in plain Lean. -/
namespace Go.Proofs.Ytcfdclehmpfkcaa.Vc
open Go Go.RowKit
def ltrTab : ByteArray := ⟨#[48, 49, 50, 51, 52, 53, 54, 55, 56, 57, 97, 98, 99, 100, 101, 102, 103, 104, 105, 106, 107, 108, 109, 110, 111, 112, 113, 114, 115, 116, 117, 118, 119, 120, 121, 122]⟩
def ltr (x : Int) : Int := byteAt ltrTab x.toNat
def ltrB (x : Int) : UInt8 := UInt8.ofNat (ltr x).toNat
def txt (l : List Int) : ByteArray := ⟨(l.map ltrB).toArray⟩
theorem ltr_rng (x : Int) : 0 ≤ ltr x ∧ ltr x < 256 := byteAt_range _ _
theorem ltrB_to (x : Int) : ((ltrB x).toNat : Int) = ltr x := by
  have h := ltr_rng x
  unfold ltrB
  rw [UInt8.toNat_ofNat_of_lt' (by show (ltr x).toNat < 256; omega)]
  omega
theorem txt_I (l : List Int) : bytesI (txt l) = l.map ltr := by
  unfold bytesI txt
  rw [List.toList_toArray, List.map_map]
  exact List.map_congr_left fun x _ => ltrB_to x
theorem txt_size (l : List Int) : (txt l).size = l.length := by
  have := bytesI_len (txt l)
  rw [txt_I, List.length_map] at this
  omega
theorem txt_getD {l : List Int} {i : Nat} (h : i < l.length) : (l.map ltr).getD i 0 = ltr (l.getD i 0) := by
  rw [List.getD_eq_getElem?_getD, List.getElem?_map, List.getD_eq_getElem?_getD, List.getElem?_eq_getElem h]; rfl
theorem rng36 {b : Nat} (hb : b ≤ 36) {l : List Int} (h : rng b l) : rng 36 l := fun x hx => by have := h x hx; omega
end Go.Proofs.Ytcfdclehmpfkcaa.Vc

/- What digits and texts say, in plain Lean. -/
namespace Go.Proofs.Ytcfdclehmpfkcaa.Vc
open Go Go.RowKit
/-- The number that digits say, the highest first. -/
def hv (b : Nat) (l : List Int) : Int := vb b l.reverse
theorem hv_snoc {b : Nat} {l : List Int} {d : Int} : hv b (l ++ [d]) = hv b l * b + d := by
  unfold hv
  rw [List.reverse_append]
  show d + (b : Int) * vb b l.reverse = _
  rw [Int.mul_comm, Int.add_comm]
theorem hv_app {b : Nat} (l m : List Int) : hv b (l ++ m) = hv b l * (b : Int) ^ m.length + hv b m := by
  unfold hv
  rw [List.reverse_append, vb_append, List.length_reverse, Int.add_comm, Int.mul_comm]
theorem hv_step {b i : Nat} {l : List Int} (h : i < l.length) : hv b (l.take (i + 1)) = hv b (l.take i) * b + l.getD i 0 := by
  have := take_pred (l := l) (k := i + 1) (by omega) (by omega)
  rw [Nat.add_sub_cancel] at this
  rw [this, hv_snoc]
theorem rng_rev {b : Nat} {l : List Int} (h : rng b l) : rng b l.reverse := fun x hx => h x (List.mem_reverse.1 hx)
theorem hv_nonneg {b : Nat} {l : List Int} (h : rng b l) : 0 ≤ hv b l := vb_nonneg (rng_rev h)
theorem hv_lt {b : Nat} {l : List Int} (h : rng b l) : hv b l < (b : Int) ^ l.length := by
  have := vb_lt (rng_rev h)
  rwa [List.length_reverse] at this
theorem hv_12 {b : Nat} {l : List Int} (hb : b ≤ 36) (hb0 : 2 ≤ b) (h : rng b l) (hl : l.length ≤ 12) : hv b l < 4738381338321616896 := by
  have h1 := hv_lt h
  have h2 : b ^ l.length ≤ 36 ^ 12 := Nat.le_trans (Nat.pow_le_pow_left hb _) (Nat.pow_le_pow_right (by decide) hl)
  have h3 : (b : Int) ^ l.length = ((b ^ l.length : Nat) : Int) := by simp
  rw [h3] at h1
  have h4 : (36 : Nat) ^ 12 = 4738381338321616896 := by decide
  omega
theorem hv_drop1 {b : Nat} {l : List Int} (h0 : l.getD 0 0 = 0) : hv b (l.drop 1) = hv b l := by
  cases l with
  | nil => rfl
  | cons x l =>
    have : x = 0 := h0
    subst this
    unfold hv
    rw [List.reverse_cons]
    exact (vb_app b l.reverse 1).symm
theorem hv_dropI {b i : Nat} {l : List Int} (h0 : (l.drop i).getD 0 0 = 0) (h : hv b (l.drop i) = hv b l) : hv b (l.drop (i + 1)) = hv b l := by
  rw [← h, ← hv_drop1 (l := l.drop i) h0, List.drop_drop]
theorem rng_drop {b : Nat} {l : List Int} (h : rng b l) (k : Nat) : rng b (l.drop k) := fun x hx => h x (List.mem_of_mem_drop hx)
/-- A byte as a digit; 36: none. -/
def dgv (c : Int) : Int := if 48 ≤ c ∧ c ≤ 57 then c - 48 else if 97 ≤ c ∧ c ≤ 122 then c - 97 + 10 else 36
theorem dgv_rng {c : Int} (h0 : 0 ≤ c) (h1 : c < 256) : 0 ≤ dgv c ∧ dgv c ≤ 36 := by
  unfold dgv; split <;> (try split) <;> omega
def dgs (s : ByteArray) : List Int := (bytesI s).map dgv
theorem dgs_len (s : ByteArray) : (dgs s).length = s.size := by simp [dgs, bytesI_len]
theorem bytesI_getD {s : ByteArray} {i : Nat} (h : i < s.size) : (bytesI s).getD i 0 = byteAt s i := by
  unfold bytesI byteAt
  rw [dif_pos h, List.getD_eq_getElem?_getD, List.getElem?_map, Array.getElem?_toList, Array.getElem?_eq_getElem (by simpa using h)]
  rfl
theorem dgs_getD {s : ByteArray} {i : Nat} (h : i < s.size) : (dgs s).getD i 0 = dgv (byteAt s i) := by
  unfold dgs
  rw [List.getD_eq_getElem?_getD, List.getElem?_map]
  have h1 := bytesI_getD h
  rw [List.getD_eq_getElem?_getD] at h1
  have h2 : i < (bytesI s).length := by rw [bytesI_len]; exact h
  rw [List.getElem?_eq_getElem h2] at h1 ⊢
  rw [← h1]; rfl
theorem dgv_ltr {x : Int} (h0 : 0 ≤ x) (h1 : x < 36) : dgv (ltr x) = x := by
  obtain ⟨a, rfl⟩ : ∃ a : Nat, x = a := ⟨x.toNat, by omega⟩
  have key : ∀ a : Fin 36, dgv (ltr (a.val : Int)) = (a.val : Int) := by decide +kernel
  exact key ⟨a, by omega⟩
theorem dgs_txt {l : List Int} (h : rng 36 l) : dgs (txt l) = l := by
  unfold dgs
  rw [txt_I, List.map_map]
  conv => rhs; rw [← List.map_id l]
  exact List.map_congr_left fun x hx => dgv_ltr (h x hx).1 (h x hx).2
end Go.Proofs.Ytcfdclehmpfkcaa.Vc

/- The order of numbers and the order of their texts, in plain Lean. -/
namespace Go.Proofs.Ytcfdclehmpfkcaa.Vc
open Go Go.RowKit
theorem hv_hdg {b : Nat} (hb : 2 ≤ b) (m x : Nat) : hv b (hdg b m x) = x := by
  unfold hv hdg
  rw [List.reverse_reverse, padD_vb hb]
theorem hv_cons {b : Nat} {x : Int} {l : List Int} : hv b (x :: l) = x * (b : Int) ^ l.length + hv b l := by
  have := hv_app (b := b) [x] l
  rw [List.singleton_append] at this
  rw [this]
  congr 1
  unfold hv; simp [vb]
def ordW (s t : ByteArray) : Int := if s.size < t.size ∨ (s.size = t.size ∧ Op.bytesLess s.toList t.toList = true) then -1 else if s = t then 0 else 1
end Go.Proofs.Ytcfdclehmpfkcaa.Vc

/- Powers, and numbers of many digits, in plain Lean. -/
namespace Go.Proofs.Ytcfdclehmpfkcaa.Vc
open Go Go.RowKit
theorem and1i {n : Nat} (h1 : n < 9223372036854775808) : bitop .and .i64 (n : Int) 1 = ((n % 2 : Nat) : Int) := by
  unfold bitop
  simp only [IntKind.bits]
  have e1 : (BitVec.ofInt 64 (n : Int)).toNat = n := by
    rw [BitVec.toNat_ofInt]; simp; omega
  have e2 : (BitVec.ofInt 64 1).toNat = 1 := by decide
  have e3 : (BitVec.ofInt 64 (n : Int) &&& BitVec.ofInt 64 1).toNat = n % 2 := by
    rw [BitVec.toNat_and, e1, e2]
    simp
  show IntKind.i64.wrap (((BitVec.ofInt 64 (n : Int) &&& BitVec.ofInt 64 1).toNat : Nat) : Int) = _
  rw [e3, wrap_i64 (by omega) (by omega)]
def PW (v n : Nat) : Int := ((v ^ n : Nat) : Int)
theorem PW_0 {v : Nat} : PW v 0 = 1 := rfl
theorem PW_1 {v : Nat} : PW v 1 = v := by unfold PW; rw [Nat.pow_one]
theorem PW_nn {v n : Nat} : 0 ≤ PW v n := Int.natCast_nonneg _
theorem PW_pos {v n : Nat} (hv : 2 ≤ v) : PW v n ≠ 0 := by
  have := Nat.pow_pos (n := n) (show 0 < v by omega)
  unfold PW; omega
theorem PW_add {v m n : Nat} : PW v m * PW v n = PW v (m + n) := by
  unfold PW; rw [← Int.natCast_mul, Nat.pow_add]
theorem PW_sq {v m : Nat} : vl (lm (PW v m)) * vl (lm (PW v m)) = PW v (2 * m) := by
  rw [vl_lm PW_nn, PW_add]; congr 1; omega
theorem PW_s {v m : Nat} : vl (lm (PW v m)) * vl (lm (v : Int)) = PW v (m + 1) := by
  rw [vl_lm PW_nn, vl_lm (Int.natCast_nonneg _), ← PW_1 (v := v), PW_add]
theorem PW_mono {v m n : Nat} (hv : 2 ≤ v) (h : m ≤ n) : lenV (PW v m) ≤ lenV (PW v n) := by
  refine lenV_mono ?_
  unfold PW
  rw [Int.natAbs_natCast, Int.natAbs_natCast]
  exact Nat.pow_le_pow_right (by omega) h
theorem errL_fit {x : Int} {r : List Int} {e : Int} (h : ErrL x r e) (hx : lenV x ≤ 67108864) : r = lm x ∧ e = 0 := by
  rcases h with ⟨h, h2, _⟩ | ⟨_, _, h⟩
  · exact ⟨h2, h⟩
  · omega
theorem lenV_ge {x : Int} {k : Nat} (h : 2 ^ k ≤ x.natAbs) : k + 1 ≤ lenV x := by
  unfold lenV
  rcases Nat.lt_or_ge (nbits x.natAbs) (k + 1) with h1 | h1
  · have := nbits_le.1 (show nbits x.natAbs ≤ k by omega)
    omega
  · exact h1
theorem lenV_pw {x : Int} (h : x ≠ 0) : 2 ^ (lenV x - 1) ≤ x.natAbs := by
  rcases Nat.lt_or_ge x.natAbs (2 ^ (lenV x - 1)) with h1 | h1
  · have h2 := nbits_le.2 h1
    have h3 : nbits x.natAbs = lenV x := rfl
    have h4 : 0 < lenV x := nbits_pos (by omega)
    omega
  · exact h1
theorem lenV_2 {v : Nat} (hv : 2 ≤ v) : 2 ≤ lenV (v : Int) := lenV_ge (k := 1) (by rw [Int.natAbs_natCast]; exact hv)
theorem PW_len {v n : Nat} (hv : 2 ≤ v) : (lenV (v : Int) - 1) * n + 1 ≤ lenV (PW v n) := by
  refine lenV_ge ?_
  have h := lenV_pw (x := (v : Int)) (by omega)
  rw [Int.natAbs_natCast] at h
  unfold PW
  rw [Int.natAbs_natCast, Nat.pow_mul]
  exact Nat.pow_le_pow_left h n
theorem PW_n {v n : Nat} (hv : 2 ≤ v) : n + 1 ≤ lenV (PW v n) := by
  have h1 := PW_len (n := n) hv
  have h2 := lenV_2 hv
  have h3 : 1 * n ≤ (lenV (v : Int) - 1) * n := Nat.mul_le_mul_right n (by omega)
  omega
/-- Numbers of few digits have few bits. -/
theorem lenV_digK {b n K : Nat} {x : Int} (hb : b ≤ 36) (hb0 : 2 ≤ b) (h0 : 0 ≤ x) (hx : x ≤ PW b n) (hK : 6 * n < K) : lenV x ≤ K := by
  refine nbits_le.2 ?_
  have h1 : b ^ n ≤ 2 ^ (6 * n) := by
    rw [Nat.pow_mul]
    exact Nat.pow_le_pow_left (by omega) n
  have h4 : x.natAbs ≤ b ^ n := by unfold PW at hx; omega
  exact Nat.lt_of_le_of_lt (Nat.le_trans h4 h1) (Nat.pow_lt_pow_right (by decide) hK)
theorem lenV_dig {b n : Nat} {x : Int} (hb : b ≤ 36) (hb0 : 2 ≤ b) (h0 : 0 ≤ x) (hx : x ≤ PW b n) (hn : n ≤ 2097152) : lenV x ≤ 16777216 := lenV_digK hb hb0 h0 hx (by omega)
theorem PW_fit {b n : Nat} (hb : b ≤ 36) (hb0 : 2 ≤ b) (hn : n ≤ 2097152) : lenV (PW b n) ≤ 16777216 := lenV_dig hb hb0 PW_nn (Int.le_refl _) hn
theorem hv_split {b k : Nat} (l : List Int) (hk : k ≤ l.length) : hv b l = hv b (l.take (l.length - k)) * PW b k + hv b (l.drop (l.length - k)) := by
  have h := hv_app (b := b) (l.take (l.length - k)) (l.drop (l.length - k))
  rw [List.take_append_drop, List.length_drop, show l.length - (l.length - k) = k by omega] at h
  rw [h, show (b : Int) ^ k = PW b k by unfold PW; simp]
/-- What the map of powers keeps. -/
def cF (b n : Nat) : V := .n false .u64 (lm (PW b n))
end Go.Proofs.Ytcfdclehmpfkcaa.Vc

/- Digits one by one, texts letter by letter, in plain Lean. -/
namespace Go.Proofs.Ytcfdclehmpfkcaa.Vc
open Go Go.RowKit
theorem rOf_v {l : List Int} (hu : u64s l) : trm (dig l) = digs B32 (vl l).toNat := by
  rw [trm_dig (s := false) hu rfl]
  show digs 4294967296 (vl l).natAbs = digs 4294967296 (vl l).toNat
  have := vl_nonneg hu
  rw [show (vl l).natAbs = (vl l).toNat by omega]
theorem digs_dg {v : Int} (h : 0 ≤ v) : digs B32 v.toNat = dg v := by
  show digs 4294967296 v.toNat = digs 4294967296 v.natAbs
  rw [show v.natAbs = v.toNat by omega]
end Go.Proofs.Ytcfdclehmpfkcaa.Vc

/- Noughts ahead of digits, places behind a point, in plain Lean. -/
namespace Go.Proofs.Ytcfdclehmpfkcaa.Vc
open Go Go.RowKit
def padZ (l : List Int) (j : Nat) : List Int := List.replicate j 0 ++ l
def zfill (m i : Nat) : List Int := List.replicate i 48 ++ List.replicate (m - i) 0
/-- What stands ahead of the point, and behind it. -/
def ptx (s : ByteArray) (k : Nat) : ByteArray := s.extract 0 (s.size - k) ++ ⟨#[46]⟩ ++ s.extract (s.size - k) s.size
end Go.Proofs.Ytcfdclehmpfkcaa.Vc

/- Digits whose number fits, in plain Lean. -/
namespace Go.Proofs.Ytcfdclehmpfkcaa.Vc
open Go Go.RowKit
theorem hv_lead {b : Nat} {l : List Int} (hb : 2 ≤ b) (hr : rng b l) (h0 : l.getD 0 0 ≠ 0) : PW b (l.length - 1) ≤ hv b l := by
  cases l with
  | nil => exact absurd rfl h0
  | cons x l =>
    rw [hv_cons]
    have hx := hr x (List.mem_cons_self ..)
    have h1 : x ≠ 0 := h0
    have h2 := hv_nonneg (b := b) (l := l) fun y hy => hr y (List.mem_cons_of_mem _ hy)
    have h3 : (0 : Int) < (b : Int) ^ l.length := Int.pow_pos (by omega)
    have h4 : 1 * (b : Int) ^ l.length ≤ x * (b : Int) ^ l.length := Int.mul_le_mul_of_nonneg_right (by omega) (by omega)
    show PW b l.length ≤ _
    unfold PW
    rw [Int.natCast_pow]
    omega
theorem PW_small {b n : Nat} (hb : b ≤ 36) (hb0 : 2 ≤ b) (hn : n ≤ 2097152) : lenV (PW b n) ≤ 67108864 := Nat.le_trans (PW_fit hb hb0 hn) (by decide)
theorem lead_len {b : Nat} {l : List Int} (hb : 2 ≤ b) (hr : rng b l) (hf : lenV (hv b l) ≤ 67108864) (hd : l.length = 0 ∨ l.getD 0 0 ≠ 0) : l.length ≤ 67108864 := by
  rcases hd with h | h
  · omega
  · have h1 := hv_lead hb hr h
    have h2 := PW_n (n := l.length - 1) hb
    have h3 : lenV (PW b (l.length - 1)) ≤ lenV (hv b l) := lenV_mono (by have := PW_nn (v := b) (n := l.length - 1); omega)
    omega
theorem lead_fit {b : Nat} {l : List Int} (hb : 2 ≤ b) (hb2 : b ≤ 36) (hr : rng b l) (hf : lenV (hv b l) ≤ 67108864) (hd : l.length = 0 ∨ l.getD 0 0 ≠ 0) : lenV (PW b ((l.length + 1) / 2)) ≤ 67108864 := by
  by_cases h1 : l.length ≤ 1
  · exact PW_small hb2 hb (by omega)
  · have h2 : l.getD 0 0 ≠ 0 := hd.resolve_left (by omega)
    have h3 := hv_lead hb hr h2
    refine Nat.le_trans (PW_mono hb (m := (l.length + 1) / 2) (n := l.length - 1) (by omega)) (Nat.le_trans (lenV_mono ?_) hf)
    have := PW_nn (v := b) (n := l.length - 1)
    omega
theorem half_fit {b : Nat} {l : List Int} {k : Nat} (hb : 2 ≤ b) (hr : rng b l) (hk : k ≤ l.length) (hf : lenV (hv b l) ≤ 67108864) :
    lenV (hv b (l.take (l.length - k))) ≤ 67108864 ∧ lenV (hv b (l.drop (l.length - k))) ≤ 67108864 ∧ lenV (hv b (l.take (l.length - k)) * PW b k) ≤ 67108864 := by
  have h1 := hv_split (b := b) (k := k) l hk
  have h2 := hv_nonneg (rng_take hr (l.length - k))
  have h3 := hv_nonneg (rng_drop hr (l.length - k))
  have h4 := PW_nn (v := b) (n := k)
  have h5 := PW_pos (v := b) (n := k) hb
  have h6 : hv b (l.take (l.length - k)) * 1 ≤ hv b (l.take (l.length - k)) * PW b k := Int.mul_le_mul_of_nonneg_left (by omega) h2
  exact ⟨Nat.le_trans (lenV_mono (by omega)) hf, Nat.le_trans (lenV_mono (by omega)) hf, Nat.le_trans (lenV_mono (by omega)) hf⟩
theorem cmpL_same {l : List Int} (hu : u64s l) : cmpL (trm (lm (vl l))) (trm l) = 0 := by
  rcases cmpL_val (lm_u (vl l)) hu with ⟨h, _⟩ | ⟨_, h⟩ | ⟨_, h⟩
  · exact h
  · rw [vl_lm (vl_nonneg hu)] at h; omega
  · rw [vl_lm (vl_nonneg hu)] at h; omega
end Go.Proofs.Ytcfdclehmpfkcaa.Vc

/- Decimal texts of whole numbers, in plain Lean. -/
namespace Go.Proofs.Ytcfdclehmpfkcaa.Vc
open Go Go.RowKit
def wtxt (v : Int) : ByteArray := if v < 0 then (⟨#[45]⟩ : ByteArray) ++ txt (hdg 10 1 v.natAbs) else txt (hdg 10 1 v.natAbs)
end Go.Proofs.Ytcfdclehmpfkcaa.Vc

/- Digits that a table tells, in plain Lean. -/
namespace Go.Proofs.Ytcfdclehmpfkcaa.Vc
open Go Go.RowKit
def dgm (b : Nat) (s : ByteArray) : List Int := (dgs s).map fun d => if d < (b : Int) then d else -1
end Go.Proofs.Ytcfdclehmpfkcaa.Vc

/- Nine decimal digits at a time, in plain Lean. -/
namespace Go.Proofs.Ytcfdclehmpfkcaa.Vc
open Go Go.RowKit
def tab10 : ByteArray := ⟨#[48, 49, 50, 51, 52, 53, 54, 55, 56, 57]⟩
end Go.Proofs.Ytcfdclehmpfkcaa.Vc

/- Newton's steps toward a root, in plain Lean. -/
namespace Go.Proofs.Ytcfdclehmpfkcaa.Vc
open Go Go.RowKit
theorem two_sq (x r : Nat) : 2 * (x * r) ≤ x * x + r * r := by
  rcases Nat.le_total x r with h | h
  · obtain ⟨d, rfl⟩ := Nat.exists_eq_add_of_le h
    have e1 : x * (x + d) = x * x + x * d := Nat.mul_add _ _ _
    have e2 : (x + d) * (x + d) = x * x + x * d + (x * d + d * d) := by rw [Nat.add_mul, Nat.mul_add, Nat.mul_add, Nat.mul_comm d x]
    omega
  · obtain ⟨d, rfl⟩ := Nat.exists_eq_add_of_le h
    have e1 : (r + d) * r = r * r + r * d := by rw [Nat.add_mul, Nat.mul_comm d r]
    have e2 : (r + d) * (r + d) = r * r + r * d + (r * d + d * d) := by rw [Nat.add_mul, Nat.mul_add, Nat.mul_add, Nat.mul_comm d r]
    omega
theorem amgm (x r : Nat) : ∀ n : Nat, (n + 1) * (x ^ n * r) ≤ n * x ^ (n + 1) + r ^ (n + 1)
  | 0 => by simp
  | n + 1 => by
    have ih := amgm x r n
    have h2 := two_sq x r
    have i1 : ((n + 1) * (x ^ n * r)) * r ≤ (n * x ^ (n + 1) + r ^ (n + 1)) * r := Nat.mul_le_mul_right r ih
    have i2 : ((n + 1) * x ^ n) * (2 * (x * r)) ≤ ((n + 1) * x ^ n) * (x * x + r * r) := Nat.mul_le_mul_left _ h2
    have a1 : ((n + 1) * (x ^ n * r)) * r = n * (x ^ n * r * r) + x ^ n * r * r := by rw [Nat.mul_assoc, Nat.add_mul, Nat.one_mul]
    have a2 : (n * x ^ (n + 1) + r ^ (n + 1)) * r = n * (x ^ n * x * r) + r ^ (n + 1) * r := by rw [Nat.add_mul, Nat.pow_succ, Nat.mul_assoc]
    have a3 : ((n + 1) * x ^ n) * (2 * (x * r)) = 2 * (n * (x ^ n * x * r) + x ^ n * x * r) := by
      rw [show x ^ n * x * r = x ^ n * (x * r) from Nat.mul_assoc _ _ _, Nat.mul_assoc, Nat.add_mul, Nat.one_mul, Nat.mul_add, Nat.mul_left_comm (x ^ n) 2, Nat.mul_left_comm n 2]
    have a4 : ((n + 1) * x ^ n) * (x * x + r * r) = n * (x ^ n * x * x) + x ^ n * x * x + (n * (x ^ n * r * r) + x ^ n * r * r) := by
      rw [Nat.mul_add, Nat.mul_assoc, Nat.mul_assoc, Nat.add_mul, Nat.add_mul, Nat.one_mul, Nat.one_mul, ← Nat.mul_assoc (x ^ n) x x, ← Nat.mul_assoc (x ^ n) r r]
    have e1 : (n + 1 + 1) * (x ^ (n + 1) * r) = n * (x ^ n * x * r) + x ^ n * x * r + x ^ n * x * r := by rw [Nat.pow_succ, Nat.add_mul, Nat.add_mul, Nat.one_mul]
    have e2 : (n + 1) * x ^ (n + 1 + 1) = n * (x ^ n * x * x) + x ^ n * x * x := by rw [Nat.pow_succ, Nat.pow_succ, Nat.add_mul, Nat.one_mul]
    have e3 : r ^ (n + 1 + 1) = r ^ (n + 1) * r := rfl
    omega
def nwt (a x n : Nat) : Nat := (n * x + a / x ^ n) / (n + 1)
theorem nw_low {a x r n : Nat} (hx : 0 < x) (h : r ^ (n + 1) ≤ a) : r ≤ nwt a x n := by
  unfold nwt
  rw [Nat.le_div_iff_mul_le (by omega)]
  have hp : 0 < x ^ n := Nat.pow_pos hx
  have hg := amgm x r n
  have h1 : r * (n + 1) - n * x ≤ a / x ^ n := by
    rw [Nat.le_div_iff_mul_le hp, Nat.sub_mul]
    have e1 : r * (n + 1) * x ^ n = (n + 1) * (x ^ n * r) := by rw [Nat.mul_comm r, Nat.mul_assoc, Nat.mul_comm r]
    have e2 : n * x * x ^ n = n * x ^ (n + 1) := by rw [Nat.pow_succ, Nat.mul_assoc, Nat.mul_comm x]
    omega
  omega
theorem nw_exit {a x n : Nat} (hx : 0 < x) (h : x ≤ nwt a x n) : x ^ (n + 1) ≤ a := by
  unfold nwt at h
  rw [Nat.le_div_iff_mul_le (by omega)] at h
  have hp : 0 < x ^ n := Nat.pow_pos hx
  have e : x * (n + 1) = n * x + x := by rw [Nat.mul_add, Nat.mul_one, Nat.mul_comm]
  have h1 : x ≤ a / x ^ n := by omega
  rw [Nat.le_div_iff_mul_le hp] at h1
  rw [Nat.pow_succ, Nat.mul_comm]
  exact h1
structure RootIs (a k r : Nat) : Prop where
  le : r ^ k ≤ a
  lt : a < (r + 1) ^ k
theorem RootIs.is {a k r x : Nat} (h : RootIs a k r) (h1 : r ≤ x) (h2 : x ^ k ≤ a) : x = r := by
  rcases Nat.lt_or_ge r x with h3 | h3
  · have h4 := Nat.pow_le_pow_left h3 k
    have h5 := h.lt
    have h6 : (r + 1) ^ k ≤ a := Nat.le_trans h4 h2
    omega
  · omega
theorem root_2 {a k r : Nat} (h : RootIs a k r) (hk : k < lenV (a : Int)) : 2 ≤ r := by
  have h1 : 2 ^ k ≤ a := by
    have := lenV_pw (x := (a : Int)) (fun e => by rw [e] at hk; simp [lenV, nbits] at hk)
    rw [Int.natAbs_natCast] at this
    exact Nat.le_trans (Nat.pow_le_pow_right (by decide) (by omega)) this
  rcases Nat.lt_or_ge r 2 with h2 | h2
  · have h3 : (r + 1) ^ k ≤ 2 ^ k := Nat.pow_le_pow_left (by omega) k
    have := h.lt
    omega
  · exact h2
/-- Where Newton starts: above the root. -/
theorem root_start {a k r m : Nat} (h : RootIs a k r) (hk : 0 < k) (hm : (lenV (a : Int) + k - 1) / k = m) : r ≤ 2 ^ m := by
  have h1 : a < 2 ^ lenV (a : Int) := by
    have := nbits_le.1 (Nat.le_refl (lenV (a : Int)))
    rwa [Int.natAbs_natCast] at this
  have h2 : lenV (a : Int) ≤ m * k := by
    have h3 := Nat.div_add_mod (lenV (a : Int) + k - 1) k
    have h4 := Nat.mod_lt (lenV (a : Int) + k - 1) hk
    rw [hm, Nat.mul_comm] at h3
    omega
  have h3 : 2 ^ lenV (a : Int) ≤ (2 ^ m) ^ k := by rw [← Nat.pow_mul]; exact Nat.pow_le_pow_right (by decide) h2
  rcases Nat.le_total r (2 ^ m) with h4 | h4
  · exact h4
  · have h5 := Nat.pow_le_pow_left h4 k
    have := h.le
    omega
theorem start_mul {L k m : Nat} (hm : (L + k - 1) / k = m) : m * (k - 1) ≤ L + k := by
  have h3 := Nat.div_mul_le_self (L + k - 1) k
  rw [hm] at h3
  have h4 : m * (k - 1) ≤ m * k := Nat.mul_le_mul_left m (by omega)
  omega
theorem start_le {L k m : Nat} (hk : 0 < k) (hL : 0 < L) (hm : (L + k - 1) / k = m) : m ≤ L := by
  rw [← hm]
  have h1 : L + k - 1 ≤ L * k := by
    obtain ⟨L', rfl⟩ : ∃ x, L = x + 1 := ⟨L - 1, by omega⟩
    obtain ⟨k', rfl⟩ : ∃ x, k = x + 1 := ⟨k - 1, by omega⟩
    rw [Nat.add_mul, Nat.mul_add, Nat.one_mul, Nat.mul_one]
    omega
  calc (L + k - 1) / k ≤ L * k / k := Nat.div_le_div_right h1
    _ = L := Nat.mul_div_cancel _ hk
theorem pw_len2 {x n m : Nat} (h : x ≤ 2 ^ m) : lenV (PW x n) ≤ m * n + 1 := by
  refine nbits_le.2 ?_
  unfold PW
  rw [Int.natAbs_natCast]
  have h1 : x ^ n ≤ 2 ^ (m * n) := by rw [Nat.pow_mul]; exact Nat.pow_le_pow_left h n
  exact Nat.lt_of_le_of_lt h1 (Nat.pow_lt_pow_right (by decide) (by omega))
theorem len_2m {x m : Nat} (h : x ≤ 2 ^ m) : lenV (x : Int) ≤ m + 1 := by
  have := pw_len2 (n := 1) h
  rwa [PW_1, Nat.mul_one] at this
theorem qn_pw {a x n : Nat} : qn (a : Int) (PW x n) = ((a / x ^ n : Nat) : Int) := by
  unfold qn PW
  rw [Int.natAbs_natCast, Int.natAbs_natCast]
  rfl
theorem nwt_i {a x n : Nat} : ((x : Int) * (n : Int) + ((a / x ^ n : Nat) : Int)) / ((n + 1 : Nat) : Int) = ((nwt a x n : Nat) : Int) := by
  rw [show (x : Int) * (n : Int) = ((n * x : Nat) : Int) by rw [Nat.mul_comm]; rfl]
  rfl
theorem or_z {v : Int} (h0 : 0 ≤ v) (h1 : v < 18446744073709551616) : bitop .or .u64 0 v = v := by
  have h := (or_lo (c := 0) (x := v) (s := 0) (by decide) (by decide) (by decide) h0).1
  have e : loS v 0 = v := by unfold loS; rw [Int.pow_zero, Int.mul_one]; omega
  rw [e] at h
  omega
/-- 2 to the n, limb by limb. -/
def twoL (n : Nat) : List Int := List.replicate (n / 64) 0 ++ [((2 ^ (n % 64) : Nat) : Int), 0]
def twoS (n i : Nat) : List Int := if i = 0 then List.replicate (n / 64 + 2) 0 else twoL n
theorem two64 (n : Nat) : 0 ≤ ((2 ^ (n % 64) : Nat) : Int) ∧ ((2 ^ (n % 64) : Nat) : Int) < 18446744073709551616 := by
  have h : 2 ^ (n % 64) < 2 ^ 64 := Nat.pow_lt_pow_right (by decide) (Nat.mod_lt _ (by decide))
  have e : (2 : Nat) ^ 64 = 18446744073709551616 := by decide
  generalize 2 ^ (n % 64) = u at *
  omega
theorem twoL_len {n : Nat} : (twoL n).length = n / 64 + 2 := by unfold twoL; simp
theorem twoS_len {n i : Nat} : (twoS n i).length = n / 64 + 2 := by unfold twoS; split <;> simp [twoL_len]
theorem twoL_u {n : Nat} : u64s (twoL n) := by
  refine u64s_app (u64s_zeros _) fun x hx => ?_
  have h := two64 n
  simp only [List.mem_cons, List.mem_nil_iff, or_false] at hx
  rcases hx with rfl | rfl
  · exact h
  · exact ⟨by decide, by decide⟩
theorem twoL_vl {n : Nat} : vl (twoL n) = ((2 ^ n : Nat) : Int) := by
  unfold twoL
  rw [vl_app, vl_zeros, List.length_replicate, pB_pow, Int.zero_add]
  have e : vl [((2 ^ (n % 64) : Nat) : Int), 0] = ((2 ^ (n % 64) : Nat) : Int) := by simp [vl]
  rw [e, ← Int.natCast_mul, ← Nat.pow_add, Nat.div_add_mod]
theorem twoL_trm {n : Nat} : trm (twoL n) = lm ((2 ^ n : Nat) : Int) := trm_lm twoL_u twoL_vl
theorem twoS_0 {n j : Nat} : (twoS n 0).getD j 0 = 0 := by unfold twoS; rw [if_pos rfl]; exact getD_zeros _ _
theorem twoS_00 {n : Nat} : twoS n 0 = List.replicate (n / 64 + 2) 0 := by unfold twoS; rw [if_pos rfl]
theorem twoS_1 {n : Nat} : twoS n 1 = twoL n := by unfold twoS; rw [if_neg (by decide)]
theorem twoS_at {n : Nat} : ((twoS n 0).set ((0 + n / 64) * 1) ((2 ^ (n % 64) : Nat) : Int)).getD ((0 + (n / 64 + 1)) * 1) 0 = 0 := by
  rw [Nat.mul_one, Nat.zero_add, Nat.mul_one, Nat.zero_add, List.getD_eq_getElem?_getD, List.getElem?_set_ne (by omega), ← List.getD_eq_getElem?_getD]
  exact twoS_0
theorem twoS_set {n : Nat} : ((twoS n 0).set ((0 + n / 64) * 1) ((2 ^ (n % 64) : Nat) : Int)).set ((0 + (n / 64 + 1)) * 1) 0 = twoS n (0 + 1) := by
  rw [Nat.mul_one, Nat.zero_add, Nat.mul_one, Nat.zero_add, twoS_00, twoS_1]
  unfold twoL
  rw [show List.replicate (n / 64 + 2) (0 : Int) = List.replicate (n / 64) 0 ++ [0, 0] from by rw [← List.replicate_append_replicate]; rfl, List.set_append_right _ _ (by simp), List.set_append_right _ _ (by simp)]
  simp
end Go.Proofs.Ytcfdclehmpfkcaa.Vc

/- Greatest common divisors; sizes, in plain Lean. -/
namespace Go.Proofs.Ytcfdclehmpfkcaa.Vc
open Go Go.RowKit
def smallB (K : Nat) (rows : List (List Int)) : Bool := rows.all fun l => decide (lenV (vl l) ≤ K)
theorem smallB_n {K : Nat} {rows : List (List Int)} {i : Nat} (hi : i < rows.length) (h : K < lenV (vl (rows.getD i []))) : smallB K rows = false := by
  rw [Bool.eq_false_iff]
  intro hc
  have h1 := List.all_eq_true.1 hc (rows.getD i []) (by rw [List.getD_eq_getElem?_getD, List.getElem?_eq_getElem hi]; exact List.getElem_mem hi)
  have h2 := of_decide_eq_true h1
  omega
theorem smallB_y {K : Nat} {rows : List (List Int)} (h : ∀ j < rows.length, lenV (vl (rows.getD j [])) ≤ K) : smallB K rows = true := by
  refine List.all_eq_true.2 fun l hl => decide_eq_true ?_
  obtain ⟨j, hj, e⟩ := List.getElem_of_mem hl
  have := h j hj
  rw [List.getD_eq_getElem?_getD, List.getElem?_eq_getElem hj] at this
  rw [← e]; exact this
theorem rows_u {rows : List (List Int)} {N : Nat} (h : ∀ l ∈ rows, l.length < N ∧ u64s l) {i : Nat} (hi : i < rows.length) : (rows.getD i []).length < N ∧ u64s (rows.getD i []) := by
  rw [List.getD_eq_getElem?_getD, List.getElem?_eq_getElem hi]
  exact h _ (List.getElem_mem hi)
end Go.Proofs.Ytcfdclehmpfkcaa.Vc

/- Contracts of numeral.word, nat.Through. -/
namespace Go.Proofs.Ytcfdclehmpfkcaa.Vc
open Go Go.RowKit
set_option maxHeartbeats 4000000 in
theorem word_s (b : Nat) (hb : 2 ≤ b) (hb2 : b ≤ 36) : Spec Try.prog 145 [.i .i64 (b : Int)] (fun o => ∃ n : Nat, o = .ret (.t [.i .u64 ((b ^ n : Nat) : Int), .i .i64 (n : Int)]) ∧ 1 ≤ n ∧ n ≤ 63 ∧ b ^ n ≤ 9223372036854775808) := by
  refine spec_of' [(0, .i .i64 (b : Int))] rfl Try.func145 rfl (Nat.le_of_ble_eq_true rfl) fun Γ hN hds hL hR => ?_
  have hd : ∀ d, Nat.blt d 19 = true → d < Γ.N := fun d h => by rw [hN]; exact Nat.le_of_ble_eq_true h
  refine jc_seq ?_; refine jc_region ?_; refine jo_l (ly_as rfl) (hd 2 rfl) ?_; refine jo_l (ly_as rfl) (hd 3 rfl) ?_; refine jo_nil ?_; refine jc_seq ?_; refine jc_region ?_; refine jo_l (ly_as rfl) (hd 4 rfl) ?_; refine jo_l (ly_as rfl) (hd 5 rfl) ?_; refine jo_nil ?_; refine jc_seq ?_; refine jc_block ?_
  refine jc_loopF (G := Nat × Nat) (fun g => g.2 = b ^ g.1 ∧ 2 ^ g.1 ≤ g.2 ∧ g.2 ≤ 9223372036854775808 ∧ g.1 ≤ 63) (fun g => [(4, .i .u64 (g.2 : Int)), (5, .i .i64 (g.1 : Int)), (6, .u), (7, .u), (8, .u), (9, .u), (10, .u), (11, .u), (12, .u), (13, .u), (14, .u), (15, .u), (16, .u)]) (fun _ => _) (fun g => 64 - g.1) (0, 1) ?_ ?_ rfl ?_
  · exact ⟨rfl, Nat.le_refl _, by decide, by decide⟩
  · exact (.cons rfl (.cons rfl (.u (.u (.u (.u (.u (.u (.u (.u (.u (.u (.u .nil)))))))))))))
  · rintro ⟨n, p⟩ ⟨hc1, hc2, hc3, hc4⟩
    dsimp only at hc1 hc2 hc3 hc4
    refine jc_seq ?_; refine jc_seq ?_; refine jc_region ?_; refine jo_l (ly_mv rfl) (hd 6 rfl) ?_; refine jo_l (ly_mv rfl) (hd 7 rfl) ?_; refine jo_l (ly_conv und3 und82 rfl (r := (b : Int)) (wrap_u64 (by omega) (by omega))) (hd 8 rfl) ?_; refine jo_l (ly_quo rfl rfl (by omega) (r := ((9223372036854775808 / b : Nat) : Int)) (by rw [show ((9223372036854775808 : Int).tdiv (b : Int)) = ((9223372036854775808 / b : Nat) : Int) from rfl]; exact wrap_u64 (Int.natCast_nonneg _) (by have := Nat.div_le_self 9223372036854775808 b; generalize 9223372036854775808 / b = q at *; omega))) (hd 9 rfl) ?_; refine jo_l (ly_le rfl rfl) (hd 10 rfl) ?_; refine jo_nil ?_
    refine jc_if rfl (fun h1 => ?_) (fun h1 => ?_)
    · obtain ⟨hs1, hs2, hs3⟩ := w_step hb hc1 hc2 (by omega : p ≤ 9223372036854775808 / b)
      refine jc_skip ?_; refine jc_block ?_; refine jc_seq ?_; refine jc_region ?_; refine jo_l (ly_mv rfl) (hd 11 rfl) ?_; refine jo_l (ly_mv rfl) (hd 12 rfl) ?_; refine jo_l (ly_conv und3 und82 rfl (r := (b : Int)) (wrap_u64 (by omega) (by omega))) (hd 13 rfl) ?_; refine jo_l (ly_mul rfl rfl (r := ((p * b : Nat) : Int)) (by dsimp only; rw [← Int.natCast_mul]; exact wrap_u64 (by omega) (by omega))) (hd 14 rfl) ?_; refine jo_l (ly_as rfl) (hd 4 rfl) ?_; refine jo_nil ?_; refine jc_region ?_; refine jo_l (ly_mv rfl) (hd 15 rfl) ?_; refine jo_l (ly_add rfl rfl (r := ((n + 1 : Nat) : Int)) (by rw [wrap_i64 (by omega) (by omega)]; omega)) (hd 16 rfl) ?_; refine jo_l (ly_as rfl) (hd 5 rfl) ?_; refine jo_nil ?_
      refine ⟨(n + 1, p * b), ?_, ?_, rfl, cov_n 26 rfl rfl ?_⟩
      · exact ⟨hs1, hs2, hs3, w63 hs2 hs3⟩
      · show 64 - (n + 1) < 64 - n
        omega
      · exact (.cons rfl (.cons rfl (.u (.u (.u (.u (.u (.u (.u (.u (.u (.u (.u .nil)))))))))))))
    · have hn1 := w_exit hb hb2 hc1 (by omega : ¬ p ≤ 9223372036854775808 / b)
      refine jc_exit ?_; refine jc_seq ?_; refine jc_region ?_; refine jo_l (ly_mv rfl) (hd 17 rfl) ?_; refine jo_l (ly_mv rfl) (hd 18 rfl) ?_; refine jo_l (ly_as rfl) (hd 2 rfl) ?_; refine jo_l (ly_as rfl) (hd 3 rfl) ?_; refine jo_nil ?_; refine jc_ret ?_
      refine ⟨_, _, (.cons rfl (.cons rfl .nil)), (.t1 .i (.t1 .i .t0)), ?_⟩
      exact ⟨n, by rw [hc1], hn1, hc4, by omega⟩

set_option maxHeartbeats 4000000 in
theorem Through_s (l : List Int) (d : Int) (hl : l.length < 1073741824) (hu : u64s l) (hd0 : 0 < d) (hd1 : d < 18446744073709551616) (hf : lenN l ≤ 67108864) : Spec Try.prog 146 [.n false .u64 l, .i .u64 d] (fun o => o = .ret (.t [.n false .u64 (lm (vl l / d)), .i .u64 (vl l % d), .i .i64 0])) := by
  refine spec_of' [(0, .n false .u64 l), (1, .i .u64 d)] rfl Try.func146 rfl (Nat.le_of_ble_eq_true rfl) fun Γ hN hds hL hR => ?_
  have hd : ∀ d, Nat.blt d 48 = true → d < Γ.N := fun d h => by rw [hN]; exact Nat.le_of_ble_eq_true h
  have hm := trm_len l
  have uT := u64s_trm hu
  have hde := dv_end (d := d) uT hd0
  rw [vl_trm] at hde
  have hv0 := vl_nonneg hu
  have hq : (vl l / d).natAbs ≤ (vl l).natAbs := by have := Int.ediv_nonneg hv0 (show 0 ≤ d by omega); have := Int.ediv_le_self d hv0; omega
  have hfq : lenV (vl l / d) ≤ 67108864 := Nat.le_trans (lenV_mono hq) (by rw [← lenN_lenV hu rfl]; exact hf)
  refine jc_seq ?_; refine jc_region ?_; refine jo_l (ly_as rfl) (hd 4 rfl) ?_; refine jo_l (ly_as rfl) (hd 5 rfl) ?_; refine jo_l (ly_as rfl) (hd 6 rfl) ?_; refine jo_nil ?_; refine jc_seq ?_; refine jc_seq ?_; refine jc_region ?_; refine jo_l (ly_mv rfl) (hd 11 rfl) ?_; refine jo_l (ly_ff (ly_eq rfl rfl) (by omega)) (hd 12 rfl) ?_; refine jo_nil ?_; refine jc_litf rfl ?_; refine jc_skip ?_; refine jc_seq ?_; refine jc_region ?_; refine jo_l (ly_mv rfl) (hd 13 rfl) ?_
  refine jo_call Try.f71 (trim_s l (by omega)) rfl Try.func71 rfl rfl (ovL_cons rfl ovL_nil) (.cons .n .nil) (hd 14 rfl) ?_ (fun ch hp => by simp at hp)
  rintro y hy; injection hy with hy; subst hy; refine jo_l (ly_as rfl) (hd 0 rfl) ?_; refine jo_nil ?_; refine jc_seq ?_; refine jc_region ?_; refine jo_l (ly_mv rfl) (hd 15 rfl) ?_; refine jo_l (ly_lenn sl28 rfl) (hd 16 rfl) ?_; refine jo_h (hy_mk (m := (trm l).length) el28 rfl rfl rfl (by show 8 * (trm l).length ≤ _; omega) (by unfold maxLen; omega) rfl) (hd 17 rfl) ?_; refine jo_l (ly_as rfl) (hd 7 rfl) ?_; refine jo_nil ?_; refine jc_seq ?_; refine jc_region ?_; refine jo_l (ly_as rfl) (hd 8 rfl) ?_; refine jo_nil ?_; refine jc_seq ?_; refine jc_seq ?_; refine jc_region ?_; refine jo_l (ly_mv rfl) (hd 18 rfl) ?_; refine jo_l (ly_lenn sl28 rfl) (hd 19 rfl) ?_; refine jo_l (ly_sub rfl rfl (wrap_i64 (by omega) (by omega))) (hd 20 rfl) ?_; refine jo_l (ly_as rfl) (hd 9 rfl) ?_; refine jo_nil ?_; refine jc_block ?_; refine jc_H (H' := [⟨90, 1, 0, true, ints .u64 (List.replicate (trm l).length 0 ++ (dvN (trm l) d ((trm l).length - (trm l).length)).1)⟩]) (by rw [Nat.sub_self]; show _ = [(⟨90, 1, 0, true, ints .u64 (List.replicate (trm l).length 0 ++ [])⟩ : Ob)]; rw [List.append_nil]; rfl) ?_
  refine jc_loopF (G := Nat) (fun k => k ≤ (trm l).length) (fun k => [(8, .i .u64 (dvN (trm l) d ((trm l).length - k)).2), (9, .i .i64 ((k : Int) - 1)), (21, .u), (22, .u), (23, .u), (24, .u), (25, .u), (26, .u), (27, .u), (28, .u), (29, .u), (30, .u), (31, .u), (32, .u), (33, .u), (34, .u), (35, .u), (36, .u), (37, .u)]) (fun k => [⟨90, 1, 0, true, ints .u64 (List.replicate k 0 ++ (dvN (trm l) d ((trm l).length - k)).1)⟩]) (fun k => k) (trm l).length ?_ ?_ rfl ?_
  · exact Nat.le_refl _
  · exact (.cons (by show some (V.i .u64 0) = some (V.i .u64 (dvN (trm l) d ((trm l).length - (trm l).length)).2); rw [Nat.sub_self]; rfl) (.cons rfl (.u (.u (.u (.u (.u (.u (.u (.u (.u (.u (.u (.u (.u (.u (.u (.u (.u .nil)))))))))))))))))))
  · rintro k hc1
    have hr := dvN_r (a := trm l) hd0 ((trm l).length - k)
    have hx := u64s_getD uT (k - 1)
    refine jc_seq ?_; refine jc_seq ?_; refine jc_region ?_; refine jo_l (ly_mv rfl) (hd 21 rfl) ?_; refine jo_l (ly_ge rfl rfl) (hd 22 rfl) ?_; refine jo_nil ?_
    refine jc_if rfl (fun h2 => ?_) (fun h2 => ?_)
    · refine jc_skip ?_; refine jc_seq ?_; refine jc_block ?_; refine jc_region ?_; refine jo_l (ly_mv rfl) (hd 26 rfl) ?_; refine jo_l (ly_mv rfl) (hd 27 rfl) ?_; refine jo_l (ly_mv rfl) (hd 28 rfl) ?_; refine jo_l (ly_mv rfl) (hd 29 rfl) ?_; refine jo_l (ly_mv rfl) (hd 30 rfl) ?_; refine jo_l (ly_ian (i := k - 1) sl28 rfl rfl (by omega) (by omega)) (hd 31 rfl) ?_; refine jo_l (ly_ldq one82 rfl rfl) (hd 32 rfl) ?_; refine jo_l (ly_mv rfl) (hd 33 rfl) ?_
      refine jo_call Try.f129 (Div64_s (dvN (trm l) d ((trm l).length - k)).2 ((trm l).getD (k - 1) 0) d hr.1 hr.2 hx.1 hx.2 hd1) rfl Try.func129 rfl rfl (ovL_cons rfl (ovL_cons rfl (ovL_cons rfl ovL_nil))) (.cons .i (.cons .i (.cons .i .nil))) (hd 34 rfl) ?_ (fun ch hp => by simp at hp)
      rintro y hy; injection hy with hy; subst hy; refine jo_l (ly_mv rfl) (hd 25 rfl) ?_; refine jo_l (ly_ext rfl rfl) (hd 35 rfl) ?_; refine jo_l (ly_ext rfl rfl) (hd 36 rfl) ?_; refine jo_l (ly_ia (i := k - 1) sl28 rfl rfl rfl (by omega) (by omega) rfl) (hd 37 rfl) ?_; refine jo_st (sy_storei rfl rfl rfl one82 (by simp only [List.length_append, List.length_replicate, dvN_len]; omega)) ?_; refine jo_l (ly_as rfl) (hd 8 rfl) ?_; refine jo_nil ?_; refine jc_region ?_; refine jo_l (ly_mv rfl) (hd 23 rfl) ?_; refine jo_l (ly_sub rfl rfl (wrap_i64 (by omega) (by omega))) (hd 24 rfl) ?_; refine jo_l (ly_as rfl) (hd 9 rfl) ?_; refine jo_nil ?_
      refine ⟨k - 1, ?_, ?_, (by show [(⟨90, 1, 0, true, ints .u64 _⟩ : Ob)] = [⟨90, 1, 0, true, ints .u64 _⟩]; rw [dv_row (by omega), dv_step (by omega) hc1]), cov_n 38 rfl rfl ?_⟩
      · omega
      · omega
      · exact (.cons (by show some (V.i .u64 _) = some (V.i .u64 _); rw [dv_step (by omega) hc1]) (.cons (by show some (V.i .i64 _) = some (V.i .i64 _); congr 2; omega) (.u (.u (.u (.u (.u (.u (.u (.u (.u (.u (.u (.u (.u (.u (.u (.u (.u .nil)))))))))))))))))))
    · obtain rfl : k = 0 := by omega
      refine jc_exit ?_; refine jc_seq ?_; refine jc_frz (k := .u64) (l := List.replicate 0 0 ++ (dvN (trm l) d ((trm l).length - 0)).1) (l' := (dvN (trm l) d (trm l).length).1) 7 rfl rfl (by simp [dvN_len]) (by rw [Nat.sub_zero, List.drop_zero]; show List.take _ (dvN (trm l) d (trm l).length).1 = _; rw [List.take_of_length_le (by rw [dvN_len]; exact Nat.le_refl _)]) hL ?_; refine jc_region ?_; refine jo_l (ly_mv rfl) (hd 39 rfl) ?_
      refine jo_call Try.f127 (told_ok (dvN (trm l) d (trm l).length).1 (by rw [dvN_len]; omega) (dvN_u uT hd0 _) (by rw [hde.1, lenN_lm]; exact hfq)) rfl Try.func127 rfl rfl (ovL_cons rfl ovL_nil) (.cons .n .nil) (hd 40 rfl) ?_ (fun ch hp => by simp at hp)
      rintro y hy; injection hy with hy; subst hy; refine jo_l (ly_mv rfl) (hd 38 rfl) ?_; refine jo_l (ly_ext rfl rfl) (hd 41 rfl) ?_; refine jo_l (ly_ext rfl rfl) (hd 42 rfl) ?_; refine jo_l (ly_as rfl) (hd 7 rfl) ?_; refine jo_l (ly_as rfl) (hd 10 rfl) ?_; refine jo_nil ?_; refine jc_seq ?_; refine jc_seq ?_; refine jc_region ?_; refine jo_l (ly_mv rfl) (hd 43 rfl) ?_; refine jo_l (ly_ff (ly_ne rfl rfl) (by decide)) (hd 44 rfl) ?_; refine jo_nil ?_; refine jc_litf rfl ?_; refine jc_skip ?_; refine jc_seq ?_; refine jc_region ?_; refine jo_l (ly_mv rfl) (hd 46 rfl) ?_; refine jo_l (ly_mv rfl) (hd 47 rfl) ?_; refine jo_l (ly_as rfl) (hd 4 rfl) ?_; refine jo_l (ly_as rfl) (hd 5 rfl) ?_; refine jo_l (ly_as rfl) (hd 6 rfl) ?_; refine jo_nil ?_; refine jc_ret ?_
      refine ⟨_, _, (.cons rfl (.cons rfl (.cons rfl .nil))), (.t1 .nn (.t1 .i (.t1 .i .t0))), ?_⟩
      rw [Nat.sub_zero, hde.1, hde.2]
end Go.Proofs.Ytcfdclehmpfkcaa.Vc

/- Contract of numeral.digits. -/
namespace Go.Proofs.Ytcfdclehmpfkcaa.Vc
open Go Go.RowKit
set_option maxHeartbeats 4000000 in
theorem digits_n (l : List Int) (b m : Nat) (hl : l.length ≤ 1048576) (hu : u64s l) (hb : 2 ≤ b) (hb2 : b ≤ 36) (hm : m ≤ 1099511627776) : SpecM Try.prog 116 [.n false .u64 l, .i .i64 (b : Int), .i .i64 (m : Int)] [] (fun o G => o = .ret (.o 0 0 0 (hdg b m (vl l).toNat).length) ∧ G = [⟨3, 1, 0, true, ints .i64 (hdg b m (vl l).toNat)⟩]) := by
  refine specS_of [(0, .n false .u64 l), (1, .i .i64 (b : Int)), (2, .i .i64 (m : Int))] rfl Try.func116 rfl (Nat.le_of_ble_eq_true rfl) fun Γ hN hds hL hR => ?_
  have hd : ∀ d, Nat.blt d 102 = true → d < Γ.N := fun d h => by rw [hN]; exact Nat.le_of_ble_eq_true h
  have hlenl := lenN_le l
  have hv0 := vl_nonneg hu
  refine jc_seq ?_; refine jc_region ?_; refine jo_l (ly_as rfl) (hd 6 rfl) ?_; refine jo_nil ?_; refine jc_seq ?_; refine jc_region ?_; refine jo_l (ly_as rfl) (hd 7 rfl) ?_; refine jo_nil ?_; refine jc_seq ?_; refine jc_own0 (id := 0) 7 3 1 rfl rfl ?_; refine jc_region ?_; refine jo_l (ly_mv rfl) (hd 17 rfl) ?_
  refine jo_call Try.f145 (word_s b hb hb2) rfl Try.func145 rfl rfl (ovL_cons rfl ovL_nil) (.cons .i .nil) (hd 18 rfl) ?_ (fun ch hp => by simp at hp)
  rintro y ⟨n, hy, hn1, hn2, hn3⟩; injection hy with hy; subst hy; refine jo_l (ly_mv rfl) (hd 16 rfl) ?_; refine jo_l (ly_ext rfl rfl) (hd 19 rfl) ?_; refine jo_l (ly_ext rfl rfl) (hd 20 rfl) ?_; refine jo_l (ly_as rfl) (hd 8 rfl) ?_; refine jo_l (ly_as rfl) (hd 9 rfl) ?_; refine jo_nil ?_; refine jc_seq ?_; refine jc_block ?_
  refine jc_loopD (G := List Int × Nat × List Int × List Int) 1 (fun g => u64s g.1 ∧ g.1.length ≤ 1048576 ∧ rng b g.2.2.1 ∧ vb b g.2.2.1 + (b : Int) ^ g.2.2.1.length * vl g.1 = vl l ∧ g.2.2.1.length ≤ 67108928 ∧ g.2.2.1.length ≤ g.2.2.2.length ∧ g.2.2.2.take g.2.2.1.length = g.2.2.1) (fun g => [(0, .n false .u64 g.1), (7, .o 0 g.2.1 0 g.2.2.1.length), (10, .u), (11, .u), (12, .u), (21, .u), (22, .u), (23, .u), (24, .u), (25, .u), (26, .u), (27, .u), (28, .u), (29, .u), (30, .u), (31, .u), (32, .u), (33, .u), (34, .u), (35, .u), (36, .u), (37, .u), (38, .u), (39, .u), (40, .u), (41, .u), (42, .u), (43, .u), (44, .u), (45, .u), (46, .u), (47, .u), (48, .u), (49, .u), (50, .u), (51, .u), (52, .u), (53, .u), (54, .u), (55, .u), (56, .u), (57, .u)]) (fun g => [⟨3, 1, g.2.1, true, ints .i64 g.2.2.2⟩]) (fun g => (vl g.1).toNat) (l, 0, [], []) ?_ ?_ rfl hR rfl (fun _ _ => rfl) (fun g _ => .cons ints_id .nil) ?_
  · exact ⟨hu, hl, (fun x hx => by simp at hx), by simp [vb], Nat.zero_le _, Nat.le_refl _, rfl⟩
  · exact (.cons rfl (.cons rfl (.u (.u (.u (.u (.u (.u (.u (.u (.u (.u (.u (.u (.u (.u (.u (.u (.u (.u (.u (.u (.u (.u (.u (.u (.u (.u (.u (.u (.u (.u (.u (.u (.u (.u (.u (.u (.u (.u (.u (.u .nil))))))))))))))))))))))))))))))))))))))))))
  · rintro ⟨A, ver, acc, C⟩ ⟨uA, hA, hr, hI, hal, hC1, hC2⟩
    dsimp only at uA hA hr hI hal hC1 hC2
    have hlA := lenN_le A
    have hvA := vl_nonneg uA
    refine jc_seq ?_; refine jc_seq ?_; refine jc_region ?_; refine jo_l (ly_mv rfl) (hd 21 rfl) ?_
    refine jo_call Try.f33 (Length_s A (by omega) uA) rfl Try.func33 rfl rfl (ovL_cons rfl ovL_nil) (.cons .n .nil) (hd 22 rfl) ?_ (fun ch hp => by simp at hp)
    rintro y hy; injection hy with hy; subst hy; refine jo_l (ly_gt rfl rfl) (hd 23 rfl) ?_; refine jo_nil ?_
    refine jc_if rfl (fun h1 => ?_) (fun h1 => ?_)
    · have hvp : 0 < vl A := by
        rcases Int.lt_or_le 0 (vl A) with h | h
        · exact h
        · have h2 := (lenN_zero uA).2 (by omega)
          omega
      have hcap := dg_cap (L := 1048576) hb hr hvp hu hl hI
      have hbn : (0 : Int) < ((b ^ n : Nat) : Int) := by exact_mod_cast Nat.pow_pos (by omega)
      have hbn2 : ((b ^ n : Nat) : Int) ≤ 9223372036854775808 := by omega
      have hq0 : 0 ≤ vl A / ((b ^ n : Nat) : Int) := Int.ediv_nonneg hvA (by omega)
      have hrl : vl A % ((b ^ n : Nat) : Int) < 18446744073709551616 := by have := Int.emod_lt_of_pos (vl A) hbn; omega
      have hfA : lenV (vl A) ≤ 67108864 := by rw [← lenN_lenV uA rfl]; omega
      have hlq : (lm (vl A / ((b ^ n : Nat) : Int))).length ≤ 1048576 := lenV_lm (Nat.le_trans (lenV_mono (w := vl A) (by have := Int.ediv_le_self ((b ^ n : Nat) : Int) hvA; omega)) hfA)
      refine jc_skip ?_; refine jc_block ?_; refine jc_seq ?_; refine jc_region ?_; refine jo_l (ly_mv rfl) (hd 25 rfl) ?_; refine jo_l (ly_mv rfl) (hd 26 rfl) ?_
      refine jo_call Try.f146 (Through_s A ((b ^ n : Nat) : Int) (by omega) uA hbn (by omega) (by omega)) rfl Try.func146 rfl rfl (ovL_cons rfl (ovL_cons rfl ovL_nil)) (.cons .n (.cons .i .nil)) (hd 27 rfl) ?_ (fun ch hp => by simp at hp)
      rintro y hy; injection hy with hy; subst hy; refine jo_l (ly_mv rfl) (hd 24 rfl) ?_; refine jo_l (ly_ext rfl rfl) (hd 28 rfl) ?_; refine jo_l (ly_ext rfl rfl) (hd 29 rfl) ?_; refine jo_l (ly_ext rfl rfl) (hd 30 rfl) ?_; refine jo_l (ly_as rfl) (hd 10 rfl) ?_; refine jo_l (ly_as rfl) (hd 11 rfl) ?_; refine jo_l (ly_as rfl) (hd 12 rfl) ?_; refine jo_nil ?_; refine jc_seq ?_; refine jc_seq ?_; refine jc_region ?_; refine jo_l (ly_mv rfl) (hd 31 rfl) ?_; refine jo_l (ly_ff (ly_ne rfl rfl) (by decide)) (hd 32 rfl) ?_; refine jo_nil ?_; refine jc_litf rfl ?_; refine jc_skip ?_; refine jc_seq ?_; refine jc_seq ?_; refine jc_region ?_; refine jo_l (ly_mv rfl) (hd 41 rfl) ?_; refine jo_l (ly_mv rfl) (hd 42 rfl) ?_; refine jo_nil ?_; refine jc_block ?_
      refine jc_loopD (G := Nat × Nat × List Int × List Int × Int) 1 (fun g => g.1 ≤ n ∧ rng b g.2.2.1 ∧ g.2.2.1.length = acc.length + g.1 ∧ vb b g.2.2.1 + (b : Int) ^ g.2.2.1.length * g.2.2.2.2 = vb b acc + (b : Int) ^ acc.length * (vl A % ((b ^ n : Nat) : Int)) ∧ 0 ≤ g.2.2.2.2 ∧ g.2.2.2.2 < (b : Int) ^ (n - g.1) ∧ g.2.2.1.length ≤ g.2.2.2.1.length ∧ g.2.2.2.1.take g.2.2.1.length = g.2.2.1 ∧ g.2.2.2.2 < 18446744073709551616) (fun g => [(7, .o 0 g.2.1 0 g.2.2.1.length), (11, .i .u64 g.2.2.2.2), (42, .i .i64 (g.1 : Int)), (43, .u), (44, .u), (45, .u), (46, .u), (47, .u), (48, .u), (49, .u), (50, .u), (51, .u), (52, .u), (53, .u), (54, .u), (55, .u), (56, .u)]) (fun g => [⟨3, 1, g.2.1, true, ints .i64 g.2.2.2.1⟩]) (fun g => n - g.1) (0, ver, acc, C, vl A % ((b ^ n : Nat) : Int)) ?_ ?_ rfl hR rfl (fun _ _ => rfl) (fun g _ => .cons ints_id .nil) ?_
      · exact ⟨Nat.zero_le _, hr, rfl, rfl, (dg_rlt hb).1, (dg_rlt hb).2, hC1, hC2, hrl⟩
      · exact (.cons rfl (.cons rfl (.cons rfl (.u (.u (.u (.u (.u (.u (.u (.u (.u (.u (.u (.u (.u (.u .nil)))))))))))))))))
      · rintro ⟨i, ver2, acc2, C2, r⟩ ⟨hi, hr2, hal2, hI2, h0, h1r, hD1, hD2, hr64⟩
        dsimp only at hi hr2 hal2 hI2 h0 h1r hD1 hD2 hr64
        refine jc_seq ?_; refine jc_region ?_; refine jo_l (ly_lt rfl rfl) (hd 43 rfl) ?_; refine jo_nil ?_; refine jc_seq ?_
        refine jc_if rfl (fun h3 => ?_) (fun h3 => ?_)
        · have hilt : i < n := by omega
          refine jc_skip ?_; refine jc_seq ?_; refine jc_block ?_; refine jc_seq ?_; refine jc_region ?_; refine jo_l (ly_mv rfl) (hd 44 rfl) ?_; refine jo_l (ly_mv rfl) (hd 45 rfl) ?_; refine jo_l (ly_mv rfl) (hd 46 rfl) ?_; refine jo_l (ly_conv und3 und82 rfl (r := (b : Int)) (wrap_u64 (by omega) (by omega))) (hd 47 rfl) ?_; refine jo_l (ly_is (ly_rem rfl rfl (by omega) rfl) (show V.i .u64 _ = V.i .u64 (r % (b : Int)) from congrArg (V.i .u64) (Int.tmod_eq_emod_of_nonneg h0))) (hd 48 rfl) ?_; refine jo_l (ly_conv und82 und3 rfl (r := r % (b : Int)) (wrap_i64 (by have := Int.emod_nonneg r (show (b : Int) ≠ 0 by omega); omega) (by have := Int.emod_lt_of_pos r (show (0 : Int) < b by omega); omega))) (hd 49 rfl) ?_; refine jo_h (hy_lit (id := 1) (xs := [.tmp 49]) el1039 rfl (ovL_cons rfl ovL_nil) rfl (all2_of rfl) (by decide) rfl) (hd 50 rfl) ?_
          refine jo_appI (C := C2) (v := (r % (b : Int))) el1039 rfl rfl hD1 rfl (src_o (cs := ints .i64 [(r % (b : Int))]) rfl rfl rfl) (by show (_ + 1) * 8 ≤ _; first | omega | (dsimp only; omega)) (by show _ + 1 ≤ 9223372036854775807; first | omega | (dsimp only; omega)) (hd 51 rfl) (fun ver' C' hE1 hE2 => ?_)
          refine jo_l (ly_as rfl) (hd 7 rfl) ?_; refine jo_nil ?_; refine jc_region ?_; refine jo_l (ly_mv rfl) (hd 52 rfl) ?_; refine jo_l (ly_mv rfl) (hd 53 rfl) ?_; refine jo_l (ly_conv und3 und82 rfl (r := (b : Int)) (wrap_u64 (by omega) (by omega))) (hd 54 rfl) ?_; refine jo_l (ly_quo rfl rfl (by omega) (r := r / (b : Int)) (by rw [Int.tdiv_eq_ediv_of_nonneg h0]; exact wrap_u64 (Int.ediv_nonneg h0 (by omega)) (by have := Int.ediv_le_self (b : Int) h0; omega))) (hd 55 rfl) ?_; refine jo_l (ly_as rfl) (hd 11 rfl) ?_; refine jo_nil ?_; refine jc_region ?_; refine jo_l (ly_add rfl rfl (r := ((i + 1 : Nat) : Int)) (by rw [wrap_i64 (by omega) (by omega)]; omega)) (hd 56 rfl) ?_; refine jo_l (ly_mv rfl) (hd 42 rfl) ?_; refine jo_nil ?_
          refine ⟨(i + 1, ver', acc2 ++ [r % (b : Int)], C', r / (b : Int)), ?_, ?_, rfl, cov_n 34 rfl rfl ?_⟩
          · exact ⟨by omega, rng_app hr2 (rng_one (Int.emod_nonneg _ (by omega)) (Int.emod_lt_of_pos _ (by omega))), by simp only [List.length_append, List.length_singleton]; omega, by simp only [List.length_append, List.length_singleton]; rw [dg_in]; exact hI2, (dgr_lt hb hilt h0 h1r).1, (dgr_lt hb hilt h0 h1r).2, by simp only [List.length_append, List.length_singleton]; exact hE1, by simp only [List.length_append, List.length_singleton]; rw [hE2, hD2], by have := Int.ediv_le_self (b : Int) h0; dsimp only; omega⟩
          · show n - (i + 1) < n - i
            omega
          · exact (.cons (by show some _ = some _; rw [List.length_append]; rfl) (.cons rfl (.cons rfl (.u (.u (.u (.u (.u (.u (.u (.u (.u (.u (.u (.u (.u (.u .nil)))))))))))))))))
        · obtain rfl : n = i := by omega
          have hr0 := dg_zero h0 h1r
          refine jc_exit ?_; refine jc_region ?_; refine jo_l (ly_mv rfl) (hd 57 rfl) ?_; refine jo_l (ly_as rfl) (hd 0 rfl) ?_; refine jo_nil ?_
          refine ⟨(lm (vl A / ((b ^ n : Nat) : Int)), ver2, acc2, C2), ?_, ?_, rfl, cov_n 79 rfl rfl ?_⟩
          · exact ⟨lm_u _, hlq, hr2, by dsimp only; rw [vl_lm hq0, dg_out hal2 hI2 hr0, hI], by dsimp only; omega, hD1, hD2⟩
          · show (vl (lm _)).toNat < (vl A).toNat
            rw [vl_lm hq0]
            exact dg_less hvp hb hn1
          · exact (.cons rfl (.cons rfl (.u (.u (.u (.u (.u (.u (.u (.u (.u (.u (.u (.u (.u (.u (.u (.u (.u (.u (.u (.u (.u (.u (.u (.u (.u (.u (.u (.u (.u (.u (.u (.u (.u (.u (.u (.u (.u (.u (.u (.u .nil))))))))))))))))))))))))))))))))))))))))))
    · have hv00 : vl A = 0 := (lenN_zero uA).1 (by omega)
      have hvacc : vb b acc = vl l := by rw [hv00, Int.mul_zero, Int.add_zero] at hI; exact hI
      refine jc_exit ?_
      refine jc_meetH (G := Nat) (fun k => k ≤ acc.length ∧ acc.take k = (digs b (vl l).toNat)) (fun k => [(7, .o 0 ver 0 k), (58, .u), (59, .u), (60, .u), (61, .u), (62, .u), (63, .u), (64, .u), (65, .u), (66, .u), (67, .u), (68, .u), (69, .u), (70, .u), (71, .u), (72, .u), (73, .u), (74, .u)]) ?_ ?_
      · refine jc_block ?_
        refine jc_loopF (G := Nat) (fun k => k ≤ acc.length ∧ vb b (acc.take k) = vb b acc) (fun k => [(7, .o 0 ver 0 k), (58, .u), (59, .u), (60, .u), (61, .u), (62, .u), (63, .u), (64, .u), (65, .u), (66, .u), (67, .u), (68, .u), (69, .u), (70, .u), (71, .u), (72, .u), (73, .u), (74, .u)]) (fun _ => _) (fun k => k) acc.length ?_ ?_ rfl ?_
        · exact ⟨Nat.le_refl _, by rw [List.take_length]⟩
        · exact (.cons rfl (.u (.u (.u (.u (.u (.u (.u (.u (.u (.u (.u (.u (.u (.u (.u (.u (.u .nil))))))))))))))))))
        · rintro k ⟨hk, hkv⟩; refine jc_seq ?_; refine jc_seq ?_; refine jc_region ?_; refine jo_l (ly_mv rfl) (hd 58 rfl) ?_; refine jo_l (ly_leno sl1039 rfl rfl) (hd 59 rfl) ?_; refine jo_l (ly_gt rfl rfl) (hd 60 rfl) ?_; refine jo_l (ly_mv rfl) (hd 61 rfl) ?_
          refine jo_ifp 61 rfl (fun h4 => ?_) (fun h4 => ?_)
          · refine jo_g 61 rfl rfl (ly_mv rfl) (hd 62 rfl) ?_; refine jo_g 61 rfl rfl (ly_mv rfl) (hd 63 rfl) ?_; refine jo_g 61 rfl rfl (ly_leno sl1039 rfl rfl) (hd 64 rfl) ?_; refine jo_g 61 rfl rfl (ly_sub rfl rfl (wrap_i64 (by omega) (by omega))) (hd 65 rfl) ?_; refine jo_g 61 rfl rfl (ly_ia (i := k - 1) sl1039 rfl rfl rfl (by omega) (by omega) rfl) (hd 66 rfl) ?_; refine jo_g 61 rfl rfl (ly_is (ly_ldi one3 rfl rfl (by first | omega | (dsimp only; omega))) (show V.i .i64 _ = V.i .i64 (acc.getD (k - 1) 0) by rw [getT hC2 (by omega)])) (hd 67 rfl) ?_; refine jo_g 61 rfl rfl (ly_eq rfl rfl) (hd 68 rfl) ?_; refine jo_l (ly_pick_t rfl rfl) (hd 69 rfl) ?_; refine jo_nil ?_
            refine jc_if rfl (fun h5 => ?_) (fun h5 => ?_)
            · have hz0 := h5
              refine jc_skip ?_; refine jc_block ?_; refine jc_region ?_; refine jo_l (ly_mv rfl) (hd 70 rfl) ?_; refine jo_l (ly_mv rfl) (hd 71 rfl) ?_; refine jo_l (ly_leno sl1039 rfl rfl) (hd 72 rfl) ?_; refine jo_l (ly_sub rfl rfl (wrap_i64 (by omega) (by omega))) (hd 73 rfl) ?_; refine jo_l (ly_slo (l := 0) (h := k - 1) (r := 0) (n := k - 1) sl1039 rfl rfl bnd_none (bnd_some' rfl (by omega)) (by omega) (by omega) rfl (by omega)) (hd 74 rfl) ?_; refine jo_l (ly_as rfl) (hd 7 rfl) ?_; refine jo_nil ?_
              refine ⟨k - 1, ?_, ?_, rfl, cov_n 37 rfl rfl ?_⟩
              · exact ⟨by omega, by rw [cut_step (by omega) hk hz0]; exact hkv⟩
              · omega
              · exact (.cons rfl (.u (.u (.u (.u (.u (.u (.u (.u (.u (.u (.u (.u (.u (.u (.u (.u (.u .nil))))))))))))))))))
            · refine jc_exit ?_
              refine ⟨k, ?_, rfl, cov_n 31 rfl rfl ?_⟩
              · exact ⟨hk, cut_digs hb hk hr (by rw [hkv, hvacc]; exact (Int.toNat_of_nonneg hv0).symm) (by first | (left; omega) | (right; assumption))⟩
              · exact (.cons rfl (.u (.u (.u (.u (.u (.u (.u (.u (.u (.u (.u (.u (.u (.u (.u (.u (.u .nil))))))))))))))))))
          · refine jo_s 61 rfl rfl rfl (hd 62 rfl) ?_; refine jo_s 61 rfl rfl rfl (hd 63 rfl) ?_; refine jo_s 61 rfl rfl rfl (hd 64 rfl) ?_; refine jo_s 61 rfl rfl rfl (hd 65 rfl) ?_; refine jo_s 61 rfl rfl rfl (hd 66 rfl) ?_; refine jo_s 61 rfl rfl rfl (hd 67 rfl) ?_; refine jo_s 61 rfl rfl rfl (hd 68 rfl) ?_; refine jo_l (ly_pick_f rfl rfl) (hd 69 rfl) ?_; refine jo_nil ?_; refine jc_litf rfl ?_; refine jc_exit ?_
            refine ⟨k, ?_, rfl, cov_n 31 rfl rfl ?_⟩
            · exact ⟨hk, cut_digs hb hk hr (by rw [hkv, hvacc]; exact (Int.toNat_of_nonneg hv0).symm) (by first | (left; omega) | (right; assumption))⟩
            · exact (.cons rfl (.u (.u (.u (.u (.u (.u (.u (.u (.u (.u (.u (.u (.u (.u (.u (.u (.u .nil))))))))))))))))))
      · rintro k ⟨hk, hdk⟩
        have hdl : (digs b (vl l).toNat).length = k := by rw [← hdk, List.length_take]; omega
        have hck : C.take k = (digs b (vl l).toNat) := by rw [takeT hC2 hk, hdk]
        refine jc_seq ?_; refine jc_block ?_
        refine jc_loopD (G := Nat × List Int × Nat) 1 (fun g => (digs b (vl l).toNat).length ≤ g.2.2 ∧ g.2.2 ≤ max m (digs b (vl l).toNat).length ∧ g.2.2 ≤ g.2.1.length ∧ g.2.1.take g.2.2 = (digs b (vl l).toNat) ++ List.replicate (g.2.2 - (digs b (vl l).toNat).length) 0) (fun g => [(7, .o 0 g.1 0 g.2.2), (75, .u), (76, .u), (77, .u), (78, .u), (79, .u), (80, .u), (81, .u)]) (fun g => [⟨3, 1, g.1, true, ints .i64 g.2.1⟩]) (fun g => m - g.2.2) (ver, C, k) ?_ ?_ rfl hR rfl (fun _ _ => rfl) (fun g _ => .cons ints_id .nil) ?_
        · exact ⟨by rw [hdl]; exact Nat.le_refl _, by dsimp only; omega, by dsimp only; omega, by dsimp only; rw [hck, hdl, Nat.sub_self]; simp⟩
        · exact (.cons rfl (.u (.u (.u (.u (.u (.u (.u .nil))))))))
        · rintro ⟨ver3, C3, k3⟩ ⟨hp1, hp2, hp3, hp4⟩
          dsimp only at hp1 hp2 hp3 hp4
          refine jc_seq ?_; refine jc_seq ?_; refine jc_region ?_; refine jo_l (ly_mv rfl) (hd 75 rfl) ?_; refine jo_l (ly_leno sl1039 rfl rfl) (hd 76 rfl) ?_; refine jo_l (ly_mv rfl) (hd 77 rfl) ?_; refine jo_l (ly_lt rfl rfl) (hd 78 rfl) ?_; refine jo_nil ?_
          refine jc_if rfl (fun h7 => ?_) (fun h7 => ?_)
          · dsimp only at h7
            refine jc_skip ?_; refine jc_block ?_; refine jc_region ?_; refine jo_l (ly_mv rfl) (hd 79 rfl) ?_; refine jo_h (hy_lit (id := 1) (xs := [.const (.int .i64 0)]) el1039 rfl (ovL_cons rfl ovL_nil) rfl (all2_of rfl) (by decide) rfl) (hd 80 rfl) ?_
            refine jo_appI (C := C3) (v := 0) el1039 rfl rfl hp3 rfl (src_o (cs := ints .i64 [0]) rfl rfl rfl) (by show (_ + 1) * 8 ≤ _; first | omega | (dsimp only; omega)) (by show _ + 1 ≤ 9223372036854775807; first | omega | (dsimp only; omega)) (hd 81 rfl) (fun ver' C' hE1 hE2 => ?_)
            refine jo_l (ly_as rfl) (hd 7 rfl) ?_; refine jo_nil ?_
            refine ⟨(ver', C', k3 + 1), ?_, ?_, rfl, cov_n 16 rfl rfl ?_⟩
            · exact ⟨by dsimp only; omega, by dsimp only; omega, hE1, pad_step hp1 hp4 hE2⟩
            · show m - (k3 + 1) < m - k3
              omega
            · exact (.cons rfl (.u (.u (.u (.u (.u (.u (.u .nil))))))))
          · dsimp only at h7 ⊢
            have hB : (C3.take k3).length = k3 := by rw [List.length_take]; omega
            have hpd := pad_end hp4 hp1 (by omega) hp2
            refine jc_exit ?_; refine jc_seq ?_; refine jc_region ?_; refine jo_l (ly_mv rfl) (hd 82 rfl) ?_; refine jo_l (ly_leno sl1039 rfl rfl) (hd 83 rfl) ?_; refine jo_h (hy_mk (m := k3) el1039 rfl rfl rfl (by show 8 * k3 ≤ _; omega) (by unfold maxLen; omega) rfl) (hd 84 rfl) ?_; refine jo_l (ly_as rfl) (hd 13 rfl) ?_; refine jo_nil ?_; refine jc_seq ?_; refine jc_seq ?_; refine jc_region ?_; refine jo_l (ly_mv rfl) (hd 85 rfl) ?_; refine jo_l (ly_leno sl1039 rfl rfl) (hd 86 rfl) ?_; refine jo_l (ly_mv rfl) (hd 87 rfl) ?_; refine jo_nil ?_; refine jc_block ?_; refine jc_H (H' := [⟨3, 1, ver3, true, ints .i64 C3⟩, ⟨3, 1, 0, true, ints .i64 (revI (C3.take k3) 0)⟩]) (by rw [revI_0, hB]; rfl) ?_
            refine jc_loopF (G := Nat) (fun i => i ≤ k3) (fun i => [(87, .i .i64 (i : Int)), (14, .u), (15, .u), (88, .u), (89, .u), (90, .u), (91, .u), (92, .u), (93, .u), (94, .u), (95, .u), (96, .u), (97, .u), (98, .u), (99, .u), (100, .u)]) (fun i => [⟨3, 1, ver3, true, ints .i64 C3⟩, ⟨3, 1, 0, true, ints .i64 (revI (C3.take k3) i)⟩]) (fun i => k3 - i) 0 ?_ ?_ rfl ?_
            · exact Nat.zero_le _
            · exact (.cons rfl (.u (.u (.u (.u (.u (.u (.u (.u (.u (.u (.u (.u (.u (.u (.u .nil))))))))))))))))
            · rintro i hi9
              have hrl9 := revI_len (B := (C3.take k3)) (i := i) (by rw [hB]; exact hi9)
              refine jc_seq ?_; refine jc_region ?_; refine jo_l (ly_lt rfl rfl) (hd 88 rfl) ?_; refine jo_nil ?_; refine jc_seq ?_
              refine jc_if rfl (fun h8 => ?_) (fun h8 => ?_)
              · refine jc_skip ?_; refine jc_seq ?_; refine jc_block ?_; refine jc_seq ?_; refine jc_region ?_; refine jo_l (ly_mv rfl) (hd 89 rfl) ?_; refine jo_l (ly_ia (i := i) sl1039 rfl rfl rfl (by first | rfl | omega) (by omega) rfl) (hd 90 rfl) ?_; refine jo_l (ly_is (ly_ldi one3 rfl rfl (by first | omega | (dsimp only; omega))) (show V.i .i64 _ = V.i .i64 ((C3.take k3).getD i 0) by rw [getT (acc := (C3.take k3)) (by rw [hB]) (by rw [hB]; omega)])) (hd 91 rfl) ?_; refine jo_l (ly_as rfl) (hd 14 rfl) ?_; refine jo_l (ly_as rfl) (hd 15 rfl) ?_; refine jo_nil ?_
                have hset : (revI (C3.take k3) i).set ((0 + (k3 - 1 - i)) * 1) ((C3.take k3).getD i 0) = revI (C3.take k3) (i + 1) := by
                  rw [Nat.zero_add, Nat.mul_one]
                  have h := revI_set (B := (C3.take k3)) (i := i) (by rw [hB]; omega)
                  rwa [hB] at h
                refine jc_region ?_; refine jo_l (ly_mv rfl) (hd 92 rfl) ?_; refine jo_l (ly_mv rfl) (hd 93 rfl) ?_; refine jo_l (ly_leno sl1039 rfl rfl) (hd 94 rfl) ?_; refine jo_l (ly_sub rfl rfl (wrap_i64 (by omega) (by omega))) (hd 95 rfl) ?_; refine jo_l (ly_mv rfl) (hd 96 rfl) ?_; refine jo_l (ly_sub rfl rfl (r := ((k3 - 1 - i : Nat) : Int)) (by rw [wrap_i64 (by omega) (by omega)]; omega)) (hd 97 rfl) ?_; refine jo_l (ly_mv rfl) (hd 98 rfl) ?_; refine jo_l (ly_ia (i := k3 - 1 - i) sl1039 rfl rfl rfl (by first | rfl | omega) (by omega) rfl) (hd 99 rfl) ?_; refine jo_st (sy_storei rfl rfl rfl one3 (by rw [hrl9, hB]; first | omega | (dsimp only; omega))) ?_; refine jo_nil ?_; refine jc_region ?_; refine jo_l (ly_add rfl rfl (r := ((i + 1 : Nat) : Int)) (by rw [wrap_i64 (by omega) (by omega)]; omega)) (hd 100 rfl) ?_; refine jo_l (ly_mv rfl) (hd 87 rfl) ?_; refine jo_nil ?_
                refine ⟨i + 1, ?_, ?_, (by show [_, (⟨3, 1, 0, true, ints .i64 _⟩ : Ob)] = [_, ⟨3, 1, 0, true, ints .i64 _⟩]; rw [hset]), cov_n 32 rfl rfl ?_⟩
                · omega
                · omega
                · exact (.cons rfl (.u (.u (.u (.u (.u (.u (.u (.u (.u (.u (.u (.u (.u (.u (.u .nil))))))))))))))))
              · obtain rfl : i = k3 := by omega
                have hR : revI (C3.take i) i = (hdg b m (vl l).toNat) := by
                  have h := revI_all (C3.take i)
                  rw [hB] at h
                  rw [h, hpd]; rfl
                have hRl : (hdg b m (vl l).toNat).length = i := by rw [← hR, revI_len (by omega), hB]
                refine jc_exit ?_; refine jc_seq ?_; refine jc_region ?_; refine jo_l (ly_mv rfl) (hd 101 rfl) ?_; refine jo_l (ly_as rfl) (hd 6 rfl) ?_; refine jo_nil ?_; refine jc_ret ?_
                refine ⟨[1], _, (.o 0 0 0 i), (.cons rfl .nil), rfl, rfl, (by decide), (by first | exact idless_cons ints_id idless_nil | exact idless_cons rfl idless_nil), ?_⟩
                exact ⟨by rw [hRl], by rw [← hR]; rfl⟩
end Go.Proofs.Ytcfdclehmpfkcaa.Vc

/- Naturals that are handed in. -/
namespace Go.Proofs.Ytcfdclehmpfkcaa.Vc
open Go Go.RowKit
set_option maxRecDepth 100000 in
theorem openN28 {H : Type} {enc : TypeId × Value → H} {w : World} {sp : Nat → Bool} {held : Bool} {r : Reach} {b0 : Nat} {v : Value} {d : DataW H} {ps : List MemPlace} (hval : Value.okWide Try.prog w r b0 24 v) (hd : DataW.Trod enc Try.prog w 0 sp held 24 v d ps) :
    ∃ l : List Int, Rel w (fun _ => False) w.heap.size [] (.n false .u64 l) v ∧ l.length + 1 ≤ Rows.uptoBulk d ∧ u64s l := by
  obtain ⟨A, len, cap, rfl⟩ := Go.WideShapes.okWide_slice Try.underlying24 hval
  obtain ⟨fuel, hd⟩ := hd
  have hd' : DataW.trod enc Try.prog w 0 sp held fuel 24 [Value.slice A len cap] = some (d, ps) := hd
  obtain ⟨l, k1, k2, k3⟩ := open_numsV Try.underlying24 Try.underlying90 (show Try.prog.cellsOf 90 = 1 by kernel_rfl) hd'
  exact ⟨l, k1, k2, fun y hy => wf_u64 (k3 y hy)⟩

theorem short2n {H : Type} {d0 d1 : DataW H} {r : List (DataW H)} {l0 l1 : List Int} (hk : Rows.uptoSmall H (d0 :: d1 :: r) = true) (h0 : l0.length + 1 ≤ Rows.uptoBulk d0) (h1 : l1.length + 1 ≤ Rows.uptoBulk d1) : l0.length + l1.length ≤ 1048574 := by
  have h : Rows.uptoBulkAll (d0 :: d1 :: r) ≤ 1048576 := of_decide_eq_true hk
  simp only [Rows.uptoBulkAll] at h
  omega
end Go.Proofs.Ytcfdclehmpfkcaa.Vc

/- Contracts of mul.Mul told exactly, nat.Bit, div.limb, plus. -/
namespace Go.Proofs.Ytcfdclehmpfkcaa.Vc
open Go Go.RowKit
set_option maxHeartbeats 4000000 in
theorem mfits_l (l : List Int) (hl : l.length < 1099511627776) (hu : u64s l) : Spec Try.prog 135 [.n false .u64 l] (fun o => ∃ (r : List Int) (e : Int), o = .ret (.t [.n true .u64 r, .i .i64 e]) ∧ ErrL (vl l) r e) := by
  refine spec_of' [(0, .n false .u64 l)] rfl Try.func135 rfl (Nat.le_of_ble_eq_true rfl) fun Γ hN hds hL hR => ?_
  have hd : ∀ d, Nat.blt d 10 = true → d < Γ.N := fun d h => by rw [hN]; exact Nat.le_of_ble_eq_true h
  have hm := trm_len l
  refine jc_seq ?_; refine jc_region ?_; refine jo_l (ly_as rfl) (hd 2 rfl) ?_; refine jo_l (ly_as rfl) (hd 3 rfl) ?_; refine jo_nil ?_; refine jc_seq ?_; refine jc_region ?_; refine jo_l (ly_mv rfl) (hd 4 rfl) ?_
  refine jo_call Try.f99 (Norm_s l hl) rfl Try.func99 rfl rfl (ovL_cons rfl ovL_nil) (.cons .n .nil) (hd 5 rfl) ?_ (fun ch hp => by simp at hp)
  rintro y hy; injection hy with hy; subst hy; refine jo_l (ly_as rfl) (hd 0 rfl) ?_; refine jo_nil ?_; refine jc_seq ?_; refine jc_seq ?_; refine jc_region ?_; refine jo_l (ly_mv rfl) (hd 6 rfl) ?_
  refine jo_call Try.f33 (Length_s (trm l) (by omega) (u64s_trm hu)) rfl Try.func33 rfl rfl (ovL_cons rfl ovL_nil) (.cons .n .nil) (hd 7 rfl) ?_ (fun ch hp => by simp at hp)
  rintro y hy; injection hy with hy; subst hy; refine jo_l (ly_gt rfl rfl) (hd 8 rfl) ?_; refine jo_nil ?_
  refine jc_if rfl (fun h1 => ?_) (fun h1 => ?_)
  · refine jc_seq ?_; refine jc_region ?_; refine jo_l (ly_as rfl) (hd 2 rfl) ?_; refine jo_l (ly_as rfl) (hd 3 rfl) ?_; refine jo_nil ?_; refine jc_ret ?_
    refine ⟨_, _, (.cons rfl (.cons rfl .nil)), (.t1 (.nil (fr := true) (k := .u64)) (.t1 .i .t0)), ?_⟩
    exact ⟨[], 3, rfl, errL_big hu rfl (by rw [lenN_trm] at *; omega)⟩
  · refine jc_skip ?_; refine jc_seq ?_; refine jc_region ?_; refine jo_l (ly_mv rfl) (hd 9 rfl) ?_; refine jo_l (ly_as rfl) (hd 2 rfl) ?_; refine jo_l (ly_as rfl) (hd 3 rfl) ?_; refine jo_nil ?_; refine jc_ret ?_
    refine ⟨_, _, (.cons rfl (.cons rfl .nil)), (.t1 .n (.t1 .i .t0)), ?_⟩
    exact ⟨_, 0, rfl, errL_ok hu rfl (by rw [lenN_trm] at *; omega)⟩

set_option maxHeartbeats 4000000 in
theorem product_l (a b : List Int) (hla : a.length < 4294967296) (hlb : b.length < 4294967296) (ua : u64s a) (ub : u64s b) : Spec Try.prog 102 [.n false .u64 a, .n false .u64 b, .f 106 []] (fun o => ∃ (r : List Int) (e : Int), o = .ret (.t [.n true .u64 r, .i .i64 e]) ∧ ErrL (vl a * vl b) r e) := by
  refine spec_of' [(0, .n false .u64 a), (1, .n false .u64 b), (2, .f 106 [])] rfl Try.func102 rfl (Nat.le_of_ble_eq_true rfl) fun Γ hN hds hL hR => ?_
  have hd : ∀ d, Nat.blt d 22 = true → d < Γ.N := fun d h => by rw [hN]; exact Nat.le_of_ble_eq_true h
  have hma := trm_len a
  have hmb := trm_len b
  refine jc_seq ?_; refine jc_region ?_; refine jo_l (ly_as rfl) (hd 6 rfl) ?_; refine jo_l (ly_as rfl) (hd 7 rfl) ?_; refine jo_nil ?_; refine jc_seq ?_; refine jc_region ?_; refine jo_l (ly_mv rfl) (hd 8 rfl) ?_
  refine jo_call Try.f99 (Norm_s a (by omega)) rfl Try.func99 rfl rfl (ovL_cons rfl ovL_nil) (.cons .n .nil) (hd 9 rfl) ?_ (fun ch hp => by simp at hp)
  rintro y hy; injection hy with hy; subst hy; refine jo_l (ly_mv rfl) (hd 10 rfl) ?_
  refine jo_call Try.f99 (Norm_s b (by omega)) rfl Try.func99 rfl rfl (ovL_cons rfl ovL_nil) (.cons .n .nil) (hd 11 rfl) ?_ (fun ch hp => by simp at hp)
  rintro y hy; injection hy with hy; subst hy; refine jo_l (ly_as rfl) (hd 0 rfl) ?_; refine jo_l (ly_as rfl) (hd 1 rfl) ?_; refine jo_nil ?_; refine jc_seq ?_; refine jc_seq ?_; refine jc_region ?_; refine jo_l (ly_mv rfl) (hd 12 rfl) ?_; refine jo_l (ly_mv rfl) (hd 13 rfl) ?_
  refine jo_call Try.f134 (great_e (trm a) (trm b) (by omega) (by omega) (u64s_trm ua) (u64s_trm ub)) rfl Try.func134 rfl rfl (ovL_cons rfl (ovL_cons rfl ovL_nil)) (.cons .n (.cons .n .nil)) (hd 14 rfl) ?_ (fun ch hp => by simp at hp)
  rintro y ⟨x, hy, hx⟩; injection hy with hy; subst hy; refine jo_nil ?_
  refine jc_cond rfl (fun h1 => ?_) (fun h1 => ?_)
  · refine jc_seq ?_; refine jc_region ?_; refine jo_l (ly_as rfl) (hd 6 rfl) ?_; refine jo_l (ly_as rfl) (hd 7 rfl) ?_; refine jo_nil ?_; refine jc_ret ?_
    refine ⟨_, _, (.cons rfl (.cons rfl .nil)), (.t1 (.nil (fr := true) (k := .u64)) (.t1 .i .t0)), ?_⟩
    refine ⟨[], 3, rfl, ?_⟩
    obtain ⟨g1, g2, g3⟩ := hx (by assumption)
    have := errN_great (r := []) (u64s_trm ua) (u64s_trm ub) g1 g2 g3
    rw [vl_trm, vl_trm] at this
    exact errL_of this
  · refine jc_skip ?_; refine jc_seq ?_; refine jc_region ?_; refine jo_l (ly_mv rfl) (hd 15 rfl) ?_; refine jo_l (ly_mv rfl) (hd 16 rfl) ?_; refine jo_l (ly_mv rfl) (hd 17 rfl) ?_
    refine jo_call Try.f106 (way_s (trm a) (trm b) (by omega) (by omega) (u64s_trm ua) (u64s_trm ub)) rfl Try.func106 rfl rfl (ovL_cons rfl (ovL_cons rfl ovL_nil)) (.cons .n (.cons .n .nil)) (hd 18 rfl) ?_ (fun ch hp => by simp at hp)
    rintro y ⟨rs, hy, us, ls, vs⟩; injection hy with hy; subst hy
    refine jo_call Try.f135 (mfits_l rs (by omega) us) rfl Try.func135 rfl rfl (ovL_cons rfl ovL_nil) (.cons .n .nil) (hd 19 rfl) ?_ (fun ch hp => by simp at hp)
    rintro y ⟨rf, ef, hy, hf⟩; injection hy with hy; subst hy; refine jo_l (ly_ext rfl rfl) (hd 20 rfl) ?_; refine jo_l (ly_ext rfl rfl) (hd 21 rfl) ?_; refine jo_l (ly_as rfl) (hd 6 rfl) ?_; refine jo_l (ly_as rfl) (hd 7 rfl) ?_; refine jo_nil ?_; refine jc_ret ?_
    refine ⟨_, _, (.cons rfl (.cons rfl .nil)), (.t1 .n (.t1 .i .t0)), ?_⟩
    exact ⟨rf, ef, rfl, by rwa [vs, vl_trm, vl_trm] at hf⟩

set_option maxHeartbeats 4000000 in
theorem Mul_l (a b : List Int) (hla : a.length < 4294967296) (hlb : b.length < 4294967296) (ua : u64s a) (ub : u64s b) : Spec Try.prog 61 [.n false .u64 a, .n false .u64 b] (fun o => ∃ (r : List Int) (e : Int), o = .ret (.t [.n true .u64 r, .i .i64 e]) ∧ ErrL (vl a * vl b) r e) := by
  refine spec_of' [(0, .n false .u64 a), (1, .n false .u64 b)] rfl Try.func61 rfl (Nat.le_of_ble_eq_true rfl) fun Γ hN hds hL hR => ?_
  have hd : ∀ d, Nat.blt d 11 = true → d < Γ.N := fun d h => by rw [hN]; exact Nat.le_of_ble_eq_true h
  refine jc_seq ?_; refine jc_region ?_; refine jo_l (ly_as rfl) (hd 4 rfl) ?_; refine jo_l (ly_as rfl) (hd 5 rfl) ?_; refine jo_nil ?_; refine jc_seq ?_; refine jc_region ?_; refine jo_l (ly_mv rfl) (hd 6 rfl) ?_; refine jo_l (ly_mv rfl) (hd 7 rfl) ?_
  refine jo_call Try.f102 (product_l a b hla hlb ua ub) rfl Try.func102 rfl rfl (ovL_cons rfl (ovL_cons rfl (ovL_cons rfl ovL_nil))) (.cons .n (.cons .n (.cons .f .nil))) (hd 8 rfl) ?_ (fun ch hp => by simp at hp)
  rintro y ⟨rp, ep, hy, hp⟩; injection hy with hy; subst hy; refine jo_l (ly_ext rfl rfl) (hd 9 rfl) ?_; refine jo_l (ly_ext rfl rfl) (hd 10 rfl) ?_; refine jo_l (ly_as rfl) (hd 4 rfl) ?_; refine jo_l (ly_as rfl) (hd 5 rfl) ?_; refine jo_nil ?_; refine jc_ret ?_
  refine ⟨_, _, (.cons rfl (.cons rfl .nil)), (.t1 .n (.t1 .i .t0)), ?_⟩
  exact ⟨rp, ep, rfl, hp⟩

end Go.Proofs.Ytcfdclehmpfkcaa.Vc

/- Contracts of div.Both of any limbs, mul.Square. -/
namespace Go.Proofs.Ytcfdclehmpfkcaa.Vc
open Go Go.RowKit
set_option maxHeartbeats 4000000 in
theorem Both_r (l : List Int) (w : Int) (hl : l.length ≤ 1048576) (hu : u64s l) (hw : lenV w ≤ 67108864) (h0 : w ≠ 0) : Spec Try.prog 62 [.n false .u64 l, .n false .u64 (lm w)] (fun o => o = .ret (.t [.n false .u64 (lm (qn (vl l) w)), .n false .u64 (lm (rn (vl l) w)), .i .i64 0])) := by
  refine spec_of' [(0, .n false .u64 l), (1, .n false .u64 (lm w))] rfl Try.func62 rfl (Nat.le_of_ble_eq_true rfl) fun Γ hN hds hL hR => ?_
  have hd : ∀ d, Nat.blt d 32 = true → d < Γ.N := fun d h => by rw [hN]; exact Nat.le_of_ble_eq_true h
  have hv : lenV (vl l) ≤ 67108864 := by have := lenV_64 (s := false) hu; have e : sv false l = vl l := rfl; rw [e] at this; omega
  have hlw := lenV_lm hw
  have hle := lenV_mono (v := qn (vl l) w) (w := vl l) qn_le
  have hlr := lenV_mono (v := rn (vl l) w) (w := w) (rn_le h0).1
  have hlq := lenV_lm (v := qn (vl l) w) (by omega)
  have hlR := lenV_lm (v := rn (vl l) w) (by omega)
  have hne := lm_ne h0
  have hlv := lenV_lm hv
  have hNl : Spec Try.prog 99 [.n false .u64 l] (fun o => o = .ret (.n true .u64 (lm (vl l)))) := by have h := Norm_s l (by omega); rwa [trm_lm hu rfl] at h
  refine jc_seq ?_; refine jc_region ?_; refine jo_l (ly_as rfl) (hd 4 rfl) ?_; refine jo_l (ly_as rfl) (hd 5 rfl) ?_; refine jo_l (ly_as rfl) (hd 6 rfl) ?_; refine jo_nil ?_; refine jc_seq ?_; refine jc_region ?_; refine jo_l (ly_mv rfl) (hd 9 rfl) ?_
  refine jo_call Try.f99 (hNl) rfl Try.func99 rfl rfl (ovL_cons rfl ovL_nil) (.cons .n .nil) (hd 10 rfl) ?_ (fun ch hp => by simp at hp)
  rintro y hy; injection hy with hy; subst hy; refine jo_l (ly_mv rfl) (hd 11 rfl) ?_
  refine jo_call Try.f99 (Norm_v w (by omega)) rfl Try.func99 rfl rfl (ovL_cons rfl ovL_nil) (.cons .n .nil) (hd 12 rfl) ?_ (fun ch hp => by simp at hp)
  rintro y hy; injection hy with hy; subst hy; refine jo_l (ly_as rfl) (hd 0 rfl) ?_; refine jo_l (ly_as rfl) (hd 1 rfl) ?_; refine jo_nil ?_; refine jc_seq ?_; refine jc_seq ?_; refine jc_region ?_; refine jo_l (ly_mv rfl) (hd 13 rfl) ?_; refine jo_l (ly_lenn sl28 rfl) (hd 14 rfl) ?_; refine jo_l (ly_ff (ly_eq rfl rfl) (fun h => hne (List.eq_nil_of_length_eq_zero (by omega)))) (hd 15 rfl) ?_; refine jo_nil ?_; refine jc_litf rfl ?_; refine jc_skip ?_; refine jc_seq ?_; refine jc_region ?_; refine jo_l (ly_mv rfl) (hd 17 rfl) ?_; refine jo_l (ly_mv rfl) (hd 18 rfl) ?_
  refine jo_call Try.f100 (divide_v (vl l) w (by omega) (by omega) h0) rfl Try.func100 rfl rfl (ovL_cons rfl (ovL_cons rfl ovL_nil)) (.cons .n (.cons .n .nil)) (hd 19 rfl) ?_ (fun ch hp => by simp at hp)
  rintro y hy; injection hy with hy; subst hy; refine jo_l (ly_mv rfl) (hd 16 rfl) ?_; refine jo_l (ly_ext rfl rfl) (hd 20 rfl) ?_; refine jo_l (ly_ext rfl rfl) (hd 21 rfl) ?_; refine jo_l (ly_as rfl) (hd 7 rfl) ?_; refine jo_l (ly_as rfl) (hd 8 rfl) ?_; refine jo_nil ?_; refine jc_seq ?_; refine jc_seq ?_; refine jc_region ?_; refine jo_l (ly_mv rfl) (hd 22 rfl) ?_
  refine jo_call Try.f33 (Length_v (qn (vl l) w) (by omega)) rfl Try.func33 rfl rfl (ovL_cons rfl ovL_nil) (.cons .n .nil) (hd 23 rfl) ?_ (fun ch hp => by simp at hp)
  rintro y hy; injection hy with hy; subst hy; refine jo_l (ly_ff (ly_gt rfl rfl) (by omega)) (hd 24 rfl) ?_; refine jo_l (ly_mv rfl) (hd 25 rfl) ?_; refine jo_g 25 rfl rfl (ly_mv rfl) (hd 26 rfl) ?_
  refine jo_callg Try.f33 25 rfl rfl (Length_v (rn (vl l) w) (by omega)) rfl Try.func33 rfl rfl (ovL_cons rfl ovL_nil) (.cons .n .nil) (hd 27 rfl) ?_ (fun ch hp => by simp at hp)
  rintro y hy; injection hy with hy; subst hy; refine jo_g 25 rfl rfl (ly_ff (ly_gt rfl rfl) (by omega)) (hd 28 rfl) ?_; refine jo_l (ly_pick_f rfl rfl) (hd 29 rfl) ?_; refine jo_nil ?_; refine jc_litf rfl ?_; refine jc_skip ?_; refine jc_seq ?_; refine jc_region ?_; refine jo_l (ly_mv rfl) (hd 30 rfl) ?_; refine jo_l (ly_mv rfl) (hd 31 rfl) ?_; refine jo_l (ly_as rfl) (hd 4 rfl) ?_; refine jo_l (ly_as rfl) (hd 5 rfl) ?_; refine jo_l (ly_as rfl) (hd 6 rfl) ?_; refine jo_nil ?_; refine jc_ret ?_
  refine ⟨_, _, (.cons rfl (.cons rfl (.cons rfl .nil))), (.t1 .n (.t1 .n (.t1 .i .t0))), ?_⟩
  exact rfl

set_option maxHeartbeats 4000000 in
theorem Square_l (a : List Int) (hla : a.length < 67108864) (ua : u64s a) : Spec Try.prog 117 [.n false .u64 a] (fun o => ∃ (r : List Int) (e : Int), o = .ret (.t [.n true .u64 r, .i .i64 e]) ∧ ErrL (vl a * vl a) r e) := by
  refine spec_of' [(0, .n false .u64 a)] rfl Try.func117 rfl (Nat.le_of_ble_eq_true rfl) fun Γ hN hds hL hR => ?_
  have hd : ∀ d, Nat.blt d 9 = true → d < Γ.N := fun d h => by rw [hN]; exact Nat.le_of_ble_eq_true h
  refine jc_seq ?_; refine jc_region ?_; refine jo_l (ly_as rfl) (hd 2 rfl) ?_; refine jo_l (ly_as rfl) (hd 3 rfl) ?_; refine jo_nil ?_; refine jc_seq ?_; refine jc_region ?_; refine jo_l (ly_mv rfl) (hd 4 rfl) ?_; refine jo_l (ly_mv rfl) (hd 5 rfl) ?_
  refine jo_call Try.f61 (Mul_l a a (by omega) (by omega) ua ua) rfl Try.func61 rfl rfl (ovL_cons rfl (ovL_cons rfl ovL_nil)) (.cons .n (.cons .n .nil)) (hd 6 rfl) ?_ (fun ch hp => by simp at hp)
  rintro y ⟨rp, ep, hy, hp⟩; injection hy with hy; subst hy; refine jo_l (ly_ext rfl rfl) (hd 7 rfl) ?_; refine jo_l (ly_ext rfl rfl) (hd 8 rfl) ?_; refine jo_l (ly_as rfl) (hd 2 rfl) ?_; refine jo_l (ly_as rfl) (hd 3 rfl) ?_; refine jo_nil ?_; refine jc_ret ?_
  refine ⟨_, _, (.cons rfl (.cons rfl .nil)), (.t1 .n (.t1 .i .t0)), ?_⟩
  exact ⟨rp, ep, rfl, hp⟩
end Go.Proofs.Ytcfdclehmpfkcaa.Vc

/- Contract of div.times. -/
namespace Go.Proofs.Ytcfdclehmpfkcaa.Vc
open Go Go.RowKit
end Go.Proofs.Ytcfdclehmpfkcaa.Vc

/- Contract of div.Power. -/
namespace Go.Proofs.Ytcfdclehmpfkcaa.Vc
open Go Go.RowKit
end Go.Proofs.Ytcfdclehmpfkcaa.Vc

/- Contracts of whole.PowMod. -/
namespace Go.Proofs.Ytcfdclehmpfkcaa.Vc
open Go Go.RowKit
end Go.Proofs.Ytcfdclehmpfkcaa.Vc

/- Contracts of whole.Mul, Sub, Add by values, answers frozen. -/
namespace Go.Proofs.Ytcfdclehmpfkcaa.Vc
open Go Go.RowKit
end Go.Proofs.Ytcfdclehmpfkcaa.Vc

/- Contracts of whole.Of, flip, Sign by values. -/
namespace Go.Proofs.Ytcfdclehmpfkcaa.Vc
open Go Go.RowKit
end Go.Proofs.Ytcfdclehmpfkcaa.Vc

/- Contract of whole.cofactor. -/
namespace Go.Proofs.Ytcfdclehmpfkcaa.Vc
open Go Go.RowKit
end Go.Proofs.Ytcfdclehmpfkcaa.Vc

/- Contracts of div.Quo, whole.Bezout. -/
namespace Go.Proofs.Ytcfdclehmpfkcaa.Vc
open Go Go.RowKit
set_option maxHeartbeats 4000000 in
theorem Quo_v (v w : Int) (hv : lenV v ≤ 67108864) (hw : lenV w ≤ 67108864) (h0 : w ≠ 0) : Spec Try.prog 93 [.n false .u64 (lm v), .n false .u64 (lm w)] (fun o => o = .ret (.t [.n false .u64 (lm (qn v w)), .i .i64 0])) := by
  refine spec_of' [(0, .n false .u64 (lm v)), (1, .n false .u64 (lm w))] rfl Try.func93 rfl (Nat.le_of_ble_eq_true rfl) fun Γ hN hds hL hR => ?_
  have hd : ∀ d, Nat.blt d 25 = true → d < Γ.N := fun d h => by rw [hN]; exact Nat.le_of_ble_eq_true h
  have hlv := lenV_lm hv
  have hlw := lenV_lm hw
  have hle := lenV_mono (v := qn v w) (w := v) qn_le
  have hlq := lenV_lm (v := qn v w) (by omega)
  have hne := lm_ne h0
  refine jc_seq ?_; refine jc_region ?_; refine jo_l (ly_as rfl) (hd 4 rfl) ?_; refine jo_l (ly_as rfl) (hd 5 rfl) ?_; refine jo_nil ?_; refine jc_seq ?_; refine jc_region ?_; refine jo_l (ly_mv rfl) (hd 8 rfl) ?_
  refine jo_call Try.f99 (Norm_v v (by omega)) rfl Try.func99 rfl rfl (ovL_cons rfl ovL_nil) (.cons .n .nil) (hd 9 rfl) ?_ (fun ch hp => by simp at hp)
  rintro y hy; injection hy with hy; subst hy; refine jo_l (ly_mv rfl) (hd 10 rfl) ?_
  refine jo_call Try.f99 (Norm_v w (by omega)) rfl Try.func99 rfl rfl (ovL_cons rfl ovL_nil) (.cons .n .nil) (hd 11 rfl) ?_ (fun ch hp => by simp at hp)
  rintro y hy; injection hy with hy; subst hy; refine jo_l (ly_as rfl) (hd 0 rfl) ?_; refine jo_l (ly_as rfl) (hd 1 rfl) ?_; refine jo_nil ?_; refine jc_seq ?_; refine jc_seq ?_; refine jc_region ?_; refine jo_l (ly_mv rfl) (hd 12 rfl) ?_; refine jo_l (ly_lenn sl28 rfl) (hd 13 rfl) ?_; refine jo_l (ly_ff (ly_eq rfl rfl) (fun h => hne (List.eq_nil_of_length_eq_zero (by omega)))) (hd 14 rfl) ?_; refine jo_nil ?_; refine jc_litf rfl ?_; refine jc_skip ?_; refine jc_seq ?_; refine jc_region ?_; refine jo_l (ly_mv rfl) (hd 16 rfl) ?_; refine jo_l (ly_mv rfl) (hd 17 rfl) ?_
  refine jo_call Try.f100 (divide_v v w (by omega) (by omega) h0) rfl Try.func100 rfl rfl (ovL_cons rfl (ovL_cons rfl ovL_nil)) (.cons .n (.cons .n .nil)) (hd 18 rfl) ?_ (fun ch hp => by simp at hp)
  rintro y hy; injection hy with hy; subst hy; refine jo_l (ly_mv rfl) (hd 15 rfl) ?_; refine jo_l (ly_ext rfl rfl) (hd 19 rfl) ?_; refine jo_l (ly_ext rfl rfl) (hd 20 rfl) ?_; refine jo_l (ly_as rfl) (hd 6 rfl) ?_; refine jo_l (ly_as rfl) (hd 7 rfl) ?_; refine jo_nil ?_; refine jc_seq ?_; refine jc_seq ?_; refine jc_region ?_; refine jo_l (ly_mv rfl) (hd 21 rfl) ?_
  refine jo_call Try.f33 (Length_v (qn v w) (by omega)) rfl Try.func33 rfl rfl (ovL_cons rfl ovL_nil) (.cons .n .nil) (hd 22 rfl) ?_ (fun ch hp => by simp at hp)
  rintro y hy; injection hy with hy; subst hy; refine jo_l (ly_ff (ly_gt rfl rfl) (by omega)) (hd 23 rfl) ?_; refine jo_nil ?_; refine jc_litf rfl ?_; refine jc_skip ?_; refine jc_seq ?_; refine jc_region ?_; refine jo_l (ly_mv rfl) (hd 24 rfl) ?_; refine jo_l (ly_as rfl) (hd 4 rfl) ?_; refine jo_l (ly_as rfl) (hd 5 rfl) ?_; refine jo_nil ?_; refine jc_ret ?_
  refine ⟨_, _, (.cons rfl (.cons rfl .nil)), (.t1 .n (.t1 .i .t0)), ?_⟩
  exact rfl

end Go.Proofs.Ytcfdclehmpfkcaa.Vc

/- Contracts of whole.Bezout of 0, Inverse. -/
namespace Go.Proofs.Ytcfdclehmpfkcaa.Vc
open Go Go.RowKit
end Go.Proofs.Ytcfdclehmpfkcaa.Vc

/- Contracts of whole.Add, Mul, Abs by values, of Num.Is, of Copy: answers handed over. -/
namespace Go.Proofs.Ytcfdclehmpfkcaa.Vc
open Go Go.RowKit
end Go.Proofs.Ytcfdclehmpfkcaa.Vc

/- Contract of the parts of numeral.all. -/
namespace Go.Proofs.Ytcfdclehmpfkcaa.Vc
open Go Go.RowKit
set_option maxHeartbeats 4000000 in
theorem part_0 (b K : Nat) (hlb : 2 ≤ b) (hb2 : b ≤ 36) (hK : ∀ k, k < K → lenV ((b ^ 2 ^ k : Nat) : Int) ≤ 67108864) (hK2 : K ≤ 40) (l : List Int) (n : Nat) (hl : l.length ≤ 1048576) (hu : u64s l) (hx : (vl l).toNat < b ^ 2 ^ 0) (hn : 0 ≤ n) (hjK : 0 ≤ K) : SpecM Try.prog 118 [.n false .u64 l, .i .i64 (((0 : Nat) : Int) - 1), .q [.i .i64 (b : Int)], .q [.l true 1 (pwR b K)], .q [cyc 118 [.q [.i .i64 (b : Int)], .q [.l true 1 (pwR b K)]] [] n]] [] (fun o G => ∃ ver, o = .ret (.o 0 ver 0 (hdg b (2 ^ 0) (vl l).toNat).length) ∧ G = [⟨3, 1, ver, true, ints .i64 (hdg b (2 ^ 0) (vl l).toNat)⟩]) := by
  refine specS_of [(0, .n false .u64 l), (1, .i .i64 (((0 : Nat) : Int) - 1)), (2, .q [.i .i64 (b : Int)]), (3, .q [.l true 1 (pwR b K)]), (4, .q [cyc 118 [.q [.i .i64 (b : Int)], .q [.l true 1 (pwR b K)]] [] n])] rfl Try.func118 rfl (Nat.le_of_ble_eq_true rfl) fun Γ hN hds hL hR => ?_
  have hd : ∀ d, Nat.blt d 45 = true → d < Γ.N := fun d h => by rw [hN]; exact Nat.le_of_ble_eq_true h
  have hj40 : 2 ^ 0 ≤ 2 ^ 40 := two_cap (by omega)
  refine jc_seq ?_; refine jc_region ?_; refine jo_l (ly_as rfl) (hd 7 rfl) ?_; refine jo_nil ?_; refine jc_seq ?_; refine jc_seq ?_; refine jc_region ?_; refine jo_l (ly_mv rfl) (hd 11 rfl) ?_; refine jo_l (ly_tt (ly_lt rfl rfl) (by omega)) (hd 12 rfl) ?_; refine jo_l (ly_mv rfl) (hd 13 rfl) ?_; refine jo_s 13 rfl rfl rfl (hd 14 rfl) ?_; refine jo_s 13 rfl rfl rfl (hd 15 rfl) ?_; refine jo_s 13 rfl rfl rfl (hd 16 rfl) ?_; refine jo_l (ly_pick_t rfl rfl) (hd 17 rfl) ?_; refine jo_nil ?_; refine jc_litt rfl ?_; refine jc_seq ?_; refine jc_draw (n := 7) _ rfl mixed ?_; refine ja_l 0 (lo_l (ly_mv rfl) (hd 18 rfl)) rfl (by kernel_rfl) (by kernel_rfl) (by kernel_rfl) (fun _ _ _ _ h => h) ?_; refine ja_l 1 (lo_l (ly_ldq one3 rfl rfl) (hd 19 rfl)) rfl (by kernel_rfl) (by kernel_rfl) (by kernel_rfl) (fun _ _ _ _ h => h) ?_; refine ja_l2 2 [3, 4, 5, 6] (lo_l (ly_mv rfl) (hd 20 rfl)) rfl (by kernel_rfl) (by kernel_rfl) (by kernel_rfl) (by kernel_rfl) (fun _ _ _ _ h => h) ?_; refine ja_l2 3 [4, 5, 6] (lo_l (ly_add rfl rfl (r := (0 : Int)) (by rw [wrap_i64 (by omega) (by omega)]; omega)) (hd 21 rfl)) rfl (by kernel_rfl) (by kernel_rfl) (by kernel_rfl) (by kernel_rfl) (fun _ _ _ _ h => h) ?_; refine ja_l 4 (lo_l (ly_is (ly_shl rfl rfl (by omega) rfl) (show V.i .i64 _ = V.i .i64 ((2 ^ 0 : Nat) : Int) from rfl)) (hd 22 rfl)) rfl (by kernel_rfl) (by kernel_rfl) (by kernel_rfl) (fun _ _ _ _ h => h) ?_
  refine ja_1 5 ?_ rfl (by kernel_rfl)
  refine js_callN Try.f116 (digits_n l b (2 ^ 0) hl hu hlb hb2 (by omega)) (fun o G ⟨_, h⟩ => h ▸ idless_cons ints_id idless_nil) rfl Try.func116 rfl rfl (ovL_cons rfl (ovL_cons rfl (ovL_cons rfl ovL_nil))) (.cons .n (.cons .i (.cons .i .nil))) (hd 23 rfl) ?_ (fun ch G hp => by simp at hp)
  rintro y G ⟨hy, rfl⟩; injection hy with hy; subst hy
  show JA _ _ _ _ _ ((23, .o 0 0 0 (hdg b (2 ^ 0) (vl l).toNat).length) :: _) _ _
  refine ja_l 6 (lo_l (ly_as rfl) (hd 7 rfl)) rfl (by kernel_rfl) (by kernel_rfl) (by kernel_rfl) (fun _ _ _ _ h => h) ?_; refine ja_nil (by kernel_rfl) ?_; refine jc_ret ?_
  refine ⟨[0], _, (.o 0 0 0 (hdg b (2 ^ 0) (vl l).toNat).length), (.cons rfl .nil), rfl, rfl, (by decide), (by first | exact idless_cons ints_id idless_nil | exact idless_cons (by show List.all (ints _ _ ++ ints _ _) _ = true; rw [ints_append]; exact ints_id) idless_nil), ?_⟩
  exact ⟨0, rfl, rfl⟩

set_option maxHeartbeats 4000000 in
theorem part_1 (b K j : Nat) (hlb : 2 ≤ b) (hb2 : b ≤ 36) (hK : ∀ k, k < K → lenV ((b ^ 2 ^ k : Nat) : Int) ≤ 67108864) (hK2 : K ≤ 40) (ih : ∀ (l : List Int) (n : Nat) (hl : l.length ≤ 1048576) (hu : u64s l) (hx : (vl l).toNat < b ^ 2 ^ j) (hn : j ≤ n) (hjK : j ≤ K), SpecM Try.prog 118 [.n false .u64 l, .i .i64 (((j : Nat) : Int) - 1), .q [.i .i64 (b : Int)], .q [.l true 1 (pwR b K)], .q [cyc 118 [.q [.i .i64 (b : Int)], .q [.l true 1 (pwR b K)]] [] n]] [] (fun o G => o = .ret (.o 0 0 0 (hdg b (2 ^ j) (vl l).toNat).length) ∧ G = [⟨3, 1, 0, true, ints .i64 (hdg b (2 ^ j) (vl l).toNat)⟩])) (l : List Int) (n : Nat) (hl : l.length ≤ 1048576) (hu : u64s l) (hx : (vl l).toNat < b ^ 2 ^ (j + 1)) (hn : (j + 1) ≤ n) (hjK : (j + 1) ≤ K) : SpecM Try.prog 118 [.n false .u64 l, .i .i64 ((((j + 1) : Nat) : Int) - 1), .q [.i .i64 (b : Int)], .q [.l true 1 (pwR b K)], .q [cyc 118 [.q [.i .i64 (b : Int)], .q [.l true 1 (pwR b K)]] [] n]] [] (fun o G => ∃ ver, o = .ret (.o 0 ver 0 (hdg b (2 ^ (j + 1)) (vl l).toNat).length) ∧ G = [⟨3, 1, ver, true, ints .i64 (hdg b (2 ^ (j + 1)) (vl l).toNat)⟩]) := by
  refine specS_of [(0, .n false .u64 l), (1, .i .i64 ((((j + 1) : Nat) : Int) - 1)), (2, .q [.i .i64 (b : Int)]), (3, .q [.l true 1 (pwR b K)]), (4, .q [cyc 118 [.q [.i .i64 (b : Int)], .q [.l true 1 (pwR b K)]] [] n])] rfl Try.func118 rfl (Nat.le_of_ble_eq_true rfl) fun Γ hN hds hL hR => ?_
  have hd : ∀ d, Nat.blt d 45 = true → d < Γ.N := fun d h => by rw [hN]; exact Nat.le_of_ble_eq_true h
  have hj40 : 2 ^ (j + 1) ≤ 2 ^ 40 := two_cap (by omega)
  obtain ⟨n, rfl⟩ : ∃ m, n = m + 1 := ⟨n - 1, by omega⟩
  have hp0 := pw_pos (b := b) (k := j) hlb
  have hxv := nat_of hu
  have hv : lenV (vl l) ≤ 67108864 := by have := lenV_64 (s := false) hu; have e : sv false l = vl l := rfl; rw [e] at this; omega
  have hpw : ((b ^ 2 ^ j : Nat) : Int) ≠ 0 := by omega
  have hQn := qn_nat2 (p := b ^ 2 ^ j) hxv.symm
  have hRn := rn_nat2 (p := b ^ 2 ^ j) hxv.symm
  have hQl := lenV_lm (Nat.le_trans (lenV_mono (qn_le (v := vl l) (w := ((b ^ 2 ^ j : Nat) : Int)))) hv)
  have hRl := lenV_lm (Nat.le_trans (lenV_mono (rn_le (v := vl l) hpw).1) (hK j (by omega)))
  have hQx := part_q hx
  have hRx := part_r (j := j) (x := (vl l).toNat) hlb
  have hlQ : (hdg b (2 ^ j) (vl (lm (qn (vl l) ((b ^ 2 ^ j : Nat) : Int)))).toNat).length ≤ 1099511627776 := by rw [hdg_le, hQn]; have h1 := digs_len hlb _ _ hQx; have h2 : 2 ^ j ≤ 2 ^ 40 := two_cap (by omega); omega
  have hlR : (hdg b (2 ^ j) (vl (lm (rn (vl l) ((b ^ 2 ^ j : Nat) : Int)))).toNat).length ≤ 1099511627776 := by rw [hdg_le, hRn]; have h1 := digs_len hlb _ _ hRx; have h2 : 2 ^ j ≤ 2 ^ 40 := two_cap (by omega); omega
  refine jc_seq ?_; refine jc_region ?_; refine jo_l (ly_as rfl) (hd 7 rfl) ?_; refine jo_nil ?_; refine jc_seq ?_; refine jc_seq ?_; refine jc_region ?_; refine jo_l (ly_mv rfl) (hd 11 rfl) ?_; refine jo_l (ly_ff (ly_lt rfl rfl) (by omega)) (hd 12 rfl) ?_; refine jo_l (ly_mv rfl) (hd 13 rfl) ?_; refine jo_g 13 rfl rfl (ly_mv rfl) (hd 14 rfl) ?_
  refine jo_callg Try.f33 13 rfl rfl (Length_s l (by omega) hu) rfl Try.func33 rfl rfl (ovL_cons rfl ovL_nil) (.cons .n .nil) (hd 15 rfl) ?_ (fun ch hp => by simp at hp)
  rintro y hy; injection hy with hy; subst hy; refine jo_g 13 rfl rfl (ly_le rfl rfl) (hd 16 rfl) ?_; refine jo_l (ly_pick_f rfl rfl) (hd 17 rfl) ?_; refine jo_nil ?_
  refine jc_if rfl (fun h1 => ?_) (fun h1 => ?_)
  · refine jc_seq ?_; refine jc_draw (n := 7) _ rfl mixed ?_; refine ja_l 0 (lo_l (ly_mv rfl) (hd 18 rfl)) rfl (by kernel_rfl) (by kernel_rfl) (by kernel_rfl) (fun _ _ _ _ h => h) ?_; refine ja_l 1 (lo_l (ly_ldq one3 rfl rfl) (hd 19 rfl)) rfl (by kernel_rfl) (by kernel_rfl) (by kernel_rfl) (fun _ _ _ _ h => h) ?_; refine ja_l2 2 [3, 4, 5, 6] (lo_l (ly_mv rfl) (hd 20 rfl)) rfl (by kernel_rfl) (by kernel_rfl) (by kernel_rfl) (by kernel_rfl) (fun _ _ _ _ h => h) ?_; refine ja_l2 3 [4, 5, 6] (lo_l (ly_add rfl rfl (r := (((j + 1 : Nat) : Int) : Int)) (by rw [wrap_i64 (by omega) (by omega)]; omega)) (hd 21 rfl)) rfl (by kernel_rfl) (by kernel_rfl) (by kernel_rfl) (by kernel_rfl) (fun _ _ _ _ h => h) ?_; refine ja_l 4 (lo_l (ly_is (ly_shl rfl rfl (by omega) rfl) (show V.i .i64 _ = V.i .i64 ((2 ^ (j + 1) : Nat) : Int) by rw [Int.one_mul, Int.toNat_natCast, Nat.min_eq_left (by have h : IntKind.i64.bits = 64 := rfl; omega), show (2 : Int) ^ (j + 1) = ((2 ^ (j + 1) : Nat) : Int) by simp]; generalize 2 ^ (j + 1) = q at *; exact congrArg (V.i .i64) (wrap_i64 (by omega) (by omega)))) (hd 22 rfl)) rfl (by kernel_rfl) (by kernel_rfl) (by kernel_rfl) (fun _ _ _ _ h => h) ?_
    refine ja_1 5 ?_ rfl (by kernel_rfl)
    refine js_callN Try.f116 (digits_n l b (2 ^ (j + 1)) hl hu hlb hb2 (by omega)) (fun o G ⟨_, h⟩ => h ▸ idless_cons ints_id idless_nil) rfl Try.func116 rfl rfl (ovL_cons rfl (ovL_cons rfl (ovL_cons rfl ovL_nil))) (.cons .n (.cons .i (.cons .i .nil))) (hd 23 rfl) ?_ (fun ch G hp => by simp at hp)
    rintro y G ⟨hy, rfl⟩; injection hy with hy; subst hy
    show JA _ _ _ _ _ ((23, .o 0 0 0 (hdg b (2 ^ (j + 1)) (vl l).toNat).length) :: _) _ _
    refine ja_l 6 (lo_l (ly_as rfl) (hd 7 rfl)) rfl (by kernel_rfl) (by kernel_rfl) (by kernel_rfl) (fun _ _ _ _ h => h) ?_; refine ja_nil (by kernel_rfl) ?_; refine jc_ret ?_
    refine ⟨[0], _, (.o 0 0 0 (hdg b (2 ^ (j + 1)) (vl l).toNat).length), (.cons rfl .nil), rfl, rfl, (by decide), (by first | exact idless_cons ints_id idless_nil | exact idless_cons (by show List.all (ints _ _ ++ ints _ _) _ = true; rw [ints_append]; exact ints_id) idless_nil), ?_⟩
    exact ⟨0, rfl, rfl⟩
  · refine jc_skip ?_; refine jc_seq ?_; refine jc_region ?_; refine jo_l (ly_mv rfl) (hd 25 rfl) ?_; refine jo_l (ly_ldq one1146 rfl rfl) (hd 26 rfl) ?_; refine jo_l (ly_mv rfl) (hd 27 rfl) ?_; refine jo_l (ly_ial (i := j) (row := [pwV b j]) sl1146 rfl rfl (by omega) (pw_at (by omega))) (hd 28 rfl) ?_; refine jo_l (ly_ldq one28 rfl rfl) (hd 29 rfl) ?_
    refine jo_call Try.f62 (Both_r l ((b ^ 2 ^ j : Nat) : Int) hl hu (hK j (by omega)) hpw) rfl Try.func62 rfl rfl (ovL_cons rfl (ovL_cons rfl ovL_nil)) (.cons .n (.cons .n .nil)) (hd 30 rfl) ?_ (fun ch hp => by simp at hp)
    rintro y hy; injection hy with hy; subst hy; refine jo_l (ly_mv rfl) (hd 24 rfl) ?_; refine jo_l (ly_ext rfl rfl) (hd 31 rfl) ?_; refine jo_l (ly_ext rfl rfl) (hd 32 rfl) ?_; refine jo_l (ly_ext rfl rfl) (hd 33 rfl) ?_; refine jo_l (ly_as rfl) (hd 8 rfl) ?_; refine jo_l (ly_as rfl) (hd 9 rfl) ?_; refine jo_l (ly_as rfl) (hd 10 rfl) ?_; refine jo_nil ?_; refine jc_seq ?_; refine jc_draw (n := 12) _ rfl mixed ?_; refine ja_l2 0 [4, 9, 10, 11] (lo_l (ly_ldqf one1106 rfl rfl) (hd 34 rfl)) rfl (by kernel_rfl) (by kernel_rfl) (by kernel_rfl) (by kernel_rfl) (fun _ _ _ _ h => h) ?_; refine ja_l2 1 [4, 9, 10, 11] (lo_l (ly_mv rfl) (hd 35 rfl)) rfl (by kernel_rfl) (by kernel_rfl) (by kernel_rfl) (by kernel_rfl) (fun _ _ _ _ h => h) ?_; refine ja_l2 2 [3, 4, 9, 10, 11] (lo_l (ly_mv rfl) (hd 36 rfl)) rfl (by kernel_rfl) (by kernel_rfl) (by kernel_rfl) (by kernel_rfl) (fun _ _ _ _ h => h) ?_; refine ja_l2 3 [4, 9, 10, 11] (lo_l (ly_is (ly_sub rfl rfl (wrap_i64 (by omega) (by omega))) (show V.i .i64 _ = V.i .i64 ((j : Int) - 1) by congr 1; omega)) (hd 37 rfl)) rfl (by kernel_rfl) (by kernel_rfl) (by kernel_rfl) (by kernel_rfl) (fun _ _ _ _ h => h) ?_; refine ja_l2 5 [9, 10, 11] (lo_l (ly_ldqf one1106 rfl rfl) (hd 39 rfl)) rfl (by kernel_rfl) (by kernel_rfl) (by kernel_rfl) (by kernel_rfl) (fun _ _ _ _ h => h) ?_; refine ja_l2 6 [9, 10, 11] (lo_l (ly_mv rfl) (hd 40 rfl)) rfl (by kernel_rfl) (by kernel_rfl) (by kernel_rfl) (by kernel_rfl) (fun _ _ _ _ h => h) ?_; refine ja_l2 7 [8, 9, 10, 11] (lo_l (ly_mv rfl) (hd 41 rfl)) rfl (by kernel_rfl) (by kernel_rfl) (by kernel_rfl) (by kernel_rfl) (fun _ _ _ _ h => h) ?_; refine ja_l2 8 [9, 10, 11] (lo_l (ly_is (ly_sub rfl rfl (wrap_i64 (by omega) (by omega))) (show V.i .i64 _ = V.i .i64 ((j : Int) - 1) by congr 1; omega)) (hd 42 rfl)) rfl (by kernel_rfl) (by kernel_rfl) (by kernel_rfl) (by kernel_rfl) (fun _ _ _ _ h => h) ?_
    refine ja_1 4 ?_ rfl (by kernel_rfl)
    refine js_callNC Try.f118 (ih (lm (qn (vl l) ((b ^ 2 ^ j : Nat) : Int))) n hQl (lm_u _) (by rw [hQn]; exact hQx) (by omega) (by omega)) (fun o G ⟨_, h⟩ => h ▸ idless_cons ints_id idless_nil) rfl Try.func118 rfl rfl (ovL_cons rfl (ovL_cons rfl ovL_nil)) (.cons .n (.cons .i (.cons .q (.cons .q (.cons .q .nil))))) (hd 38 rfl) ?_ (fun ch G hp => by simp at hp)
    rintro y G ⟨hy, rfl⟩; injection hy with hy; subst hy
    show JA _ _ _ _ _ ((38, .o 0 0 0 (hdg b (2 ^ j) (vl (lm (qn (vl l) ((b ^ 2 ^ j : Nat) : Int)))).toNat).length) :: _) _ _
    refine ja_1 9 ?_ rfl (by kernel_rfl)
    refine js_callNC Try.f118 (ih (lm (rn (vl l) ((b ^ 2 ^ j : Nat) : Int))) n hRl (lm_u _) (by rw [hRn]; exact hRx) (by omega) (by omega)) (fun o G ⟨_, h⟩ => h ▸ idless_cons ints_id idless_nil) rfl Try.func118 rfl rfl (ovL_cons rfl (ovL_cons rfl ovL_nil)) (.cons .n (.cons .i (.cons .q (.cons .q (.cons .q .nil))))) (hd 43 rfl) ?_ (fun ch G hp => by simp at hp)
    rintro y G ⟨hy, rfl⟩; injection hy with hy; subst hy
    show JA _ _ _ _ _ ((43, .o 1 0 0 (hdg b (2 ^ j) (vl (lm (rn (vl l) ((b ^ 2 ^ j : Nat) : Int)))).toNat).length) :: _) _ _
    refine ja_1 10 ?_ rfl (by kernel_rfl)
    refine js_app el1039 rfl rfl (by rw [ints_length, Nat.mul_one]) rfl (src_o rfl (by rw [ints_length, Nat.mul_one]) ints_one) (by show ((hdg b (2 ^ j) (vl (lm (qn (vl l) ((b ^ 2 ^ j : Nat) : Int)))).toNat).length + (hdg b (2 ^ j) (vl (lm (rn (vl l) ((b ^ 2 ^ j : Nat) : Int)))).toNat).length) * 8 ≤ _; omega) (by show (hdg b (2 ^ j) (vl (lm (qn (vl l) ((b ^ 2 ^ j : Nat) : Int)))).toNat).length + (hdg b (2 ^ j) (vl (lm (rn (vl l) ((b ^ 2 ^ j : Nat) : Int)))).toNat).length ≤ 9223372036854775807; omega) (hd 44 rfl) rfl ?_; refine ja_l 11 (lo_l (ly_as rfl) (hd 7 rfl)) rfl (by kernel_rfl) (by kernel_rfl) (by kernel_rfl) (fun _ _ _ _ h => h) ?_; refine ja_nil (by kernel_rfl) ?_; refine jc_ret ?_
    refine ⟨[0], _, (.o 0 1 0 ((hdg b (2 ^ j) (vl (lm (qn (vl l) ((b ^ 2 ^ j : Nat) : Int)))).toNat).length + (hdg b (2 ^ j) (vl (lm (rn (vl l) ((b ^ 2 ^ j : Nat) : Int)))).toNat).length)), (.cons rfl .nil), rfl, rfl, (by decide), (by first | exact idless_cons ints_id idless_nil | exact idless_cons (by show List.all (ints _ _ ++ ints _ _) _ = true; rw [ints_append]; exact ints_id) idless_nil), ?_⟩
    exact ⟨1, by show Out.ret (V.o _ _ _ ((hdg b (2 ^ j) (vl (lm (qn (vl l) ((b ^ 2 ^ j : Nat) : Int)))).toNat).length + (hdg b (2 ^ j) (vl (lm (rn (vl l) ((b ^ 2 ^ j : Nat) : Int)))).toNat).length)) = _; rw [← List.length_append, hQn, hRn, part_join hlb hx], by show [(⟨3, 1, 1, true, ints .i64 (hdg b (2 ^ j) (vl (lm (qn (vl l) ((b ^ 2 ^ j : Nat) : Int)))).toNat) ++ ints .i64 (hdg b (2 ^ j) (vl (lm (rn (vl l) ((b ^ 2 ^ j : Nat) : Int)))).toNat)⟩ : Ob)] = [⟨3, 1, 1, true, ints .i64 (hdg b (2 ^ (j + 1)) (vl l).toNat)⟩]; rw [ints_append, hQn, hRn, part_join hlb hx]⟩

theorem part_n (b K : Nat) (hlb : 2 ≤ b) (hb2 : b ≤ 36) (hK : ∀ k, k < K → lenV ((b ^ 2 ^ k : Nat) : Int) ≤ 67108864) (hK2 : K ≤ 40) : ∀ (j : Nat) (l : List Int) (n : Nat) (hl : l.length ≤ 1048576) (hu : u64s l) (hx : (vl l).toNat < b ^ 2 ^ j) (hn : j ≤ n) (hjK : j ≤ K), SpecM Try.prog 118 [.n false .u64 l, .i .i64 (((j : Nat) : Int) - 1), .q [.i .i64 (b : Int)], .q [.l true 1 (pwR b K)], .q [cyc 118 [.q [.i .i64 (b : Int)], .q [.l true 1 (pwR b K)]] [] n]] [] (fun o G => o = .ret (.o 0 0 0 (hdg b (2 ^ j) (vl l).toNat).length) ∧ G = [⟨3, 1, 0, true, ints .i64 (hdg b (2 ^ j) (vl l).toNat)⟩])
  | 0, l, n, hl, hu, hx, hn, hjK => (part_0 b K hlb hb2 hK hK2 l n hl hu hx hn hjK).ver0 ints_id
  | j + 1, l, n, hl, hu, hx, hn, hjK => (part_1 b K j hlb hb2 hK hK2 (fun l n hl hu hx hn hjK => part_n b K hlb hb2 hK hK2 j l n hl hu hx hn hjK) l n hl hu hx hn hjK).ver0 ints_id
end Go.Proofs.Ytcfdclehmpfkcaa.Vc

/- Contract of numeral.all. -/
namespace Go.Proofs.Ytcfdclehmpfkcaa.Vc
open Go Go.RowKit
set_option maxHeartbeats 4000000 in
theorem all_n (l : List Int) (b : Nat) (hl : l.length ≤ 1048576) (hu : u64s l) (hlb : 2 ≤ b) (hb2 : b ≤ 36) : SpecM Try.prog 70 [.n false .u64 l, .i .i64 (b : Int)] [] (fun o G => o = .ret (.o 0 0 0 (hdg b 1 (vl l).toNat).length) ∧ G = [⟨3, 1, 0, true, ints .i64 (hdg b 1 (vl l).toNat)⟩]) := by
  refine specS_of [(0, .n false .u64 l), (1, .i .i64 (b : Int))] rfl Try.func70 rfl (Nat.le_of_ble_eq_true rfl) fun Γ hN hds hL hR => ?_
  have hd : ∀ d, Nat.blt d 75 = true → d < Γ.N := fun d h => by rw [hN]; exact Nat.le_of_ble_eq_true h
  have hlenl := lenN_le l
  have hxv := nat_of hu
  have hv0 := vl_nonneg hu
  have hv : lenV (vl l) ≤ 67108864 := by have := lenV_64 (s := false) hu; have e : sv false l = vl l := rfl; rw [e] at this; omega
  have hxp := lenV_pow hv0 hv
  have hF : Spec Try.prog 113 [.i .u64 (b : Int)] (fun o => o = .ret (.n true .u64 (lm ((b ^ 2 ^ 0 : Nat) : Int)))) := by have h := From_s (b : Int); rwa [show (if (b : Int) = 0 then [] else [(b : Int)]) = lm ((b ^ 2 ^ 0 : Nat) : Int) from by rw [Nat.pow_zero, Nat.pow_one]; exact fl_lm (by omega) (by omega)] at h
  refine jc_seq ?_; refine jc_region ?_; refine jo_h (hy_box (id := 0) (n := 1) rfl rfl rfl (by decide) rfl) (hd 3 rfl) ?_; refine jo_l (ly_as rfl) (hd 4 rfl) ?_; refine jo_nil ?_; refine jc_seq ?_; refine jc_seq ?_; refine jc_region ?_; refine jo_l (ly_mv rfl) (hd 12 rfl) ?_
  refine jo_call Try.f33 (Length_s l (by omega) hu) rfl Try.func33 rfl rfl (ovL_cons rfl ovL_nil) (.cons .n .nil) (hd 13 rfl) ?_ (fun ch hp => by simp at hp)
  rintro y hy; injection hy with hy; subst hy; refine jo_l (ly_le rfl rfl) (hd 14 rfl) ?_; refine jo_l (ly_mv rfl) (hd 15 rfl) ?_
  refine jo_ifp 15 rfl (fun h1 => ?_) (fun h1 => ?_)
  · refine jo_s 15 rfl rfl rfl (hd 16 rfl) ?_; refine jo_s 15 rfl rfl rfl (hd 17 rfl) ?_; refine jo_s 15 rfl rfl rfl (hd 18 rfl) ?_; refine jo_l (ly_pick_t rfl rfl) (hd 19 rfl) ?_; refine jo_nil ?_; refine jc_litt rfl ?_; refine jc_seq ?_; refine jc_region ?_; refine jo_l (ly_mv rfl) (hd 20 rfl) ?_; refine jo_l (ly_ld one3 rfl rfl rfl) (hd 21 rfl) ?_
    refine jo_callN Try.f116 (digits_n l b 1 hl hu hlb hb2 (by decide)) (fun o G ⟨_, h⟩ => h ▸ idless_cons ints_id idless_nil) rfl Try.func116 rfl rfl (ovL_cons rfl (ovL_cons rfl (ovL_cons rfl ovL_nil))) (.cons .n (.cons .i (.cons .i .nil))) (hd 22 rfl) ?_ (fun ch G hp => by simp at hp)
    rintro y G ⟨hy, rfl⟩; injection hy with hy; subst hy
    show JO _ _ _ _ ((22, .o 1 0 0 (hdg b 1 (vl l).toNat).length) :: _) _ _
    refine jo_l (ly_as rfl) (hd 4 rfl) ?_; refine jo_nil ?_; refine jc_ret ?_
    refine ⟨[1], _, (.o 0 0 0 (hdg b 1 (vl l).toNat).length), (.cons rfl .nil), rfl, rfl, (by decide), (idless_cons ints_id idless_nil), ?_⟩
    exact ⟨rfl, rfl⟩
  · refine jo_g 15 rfl rfl (ly_mv rfl) (hd 16 rfl) ?_
    refine jo_callg Try.f33 15 rfl rfl (Length_s l (by omega) hu) rfl Try.func33 rfl rfl (ovL_cons rfl ovL_nil) (.cons .n .nil) (hd 17 rfl) ?_ (fun ch hp => by simp at hp)
    rintro y hy; injection hy with hy; subst hy; refine jo_g 15 rfl rfl (ly_ff (ly_gt rfl rfl) (by omega)) (hd 18 rfl) ?_; refine jo_l (ly_pick_f rfl rfl) (hd 19 rfl) ?_; refine jo_nil ?_; refine jc_litf rfl ?_; refine jc_skip ?_; refine jc_seq ?_; refine jc_region ?_; refine jo_l (ly_ld one3 rfl rfl rfl) (hd 23 rfl) ?_; refine jo_l (ly_conv und3 und82 rfl (r := (b : Int)) (wrap_u64 (by omega) (by omega))) (hd 24 rfl) ?_
    refine jo_call Try.f113 (hF) rfl Try.func113 rfl rfl (ovL_cons rfl ovL_nil) (.cons .i .nil) (hd 25 rfl) ?_ (fun ch hp => by simp at hp)
    rintro y hy; injection hy with hy; subst hy; refine jo_h (hy_lit (id := 1) (xs := [.tmp 25]) el1146 rfl (ovL_cons rfl ovL_nil) rfl (all2_of rfl) (by decide) rfl) (hd 26 rfl) ?_; refine jo_h (hy_alloc (id := 2) zero1146 (by decide) rfl (by decide) rfl) (hd 5 rfl) ?_; refine jo_st (sy_store rfl rfl rfl siz1146 rfl rfl (Nat.le_of_ble_eq_true rfl)) ?_; refine jo_nil ?_
    refine jc_meet (G := Nat) (fun k => k ≤ 26 ∧ lenV ((b ^ 2 ^ k : Nat) : Int) ≤ 67108864 ∧ (vl l).toNat < b ^ 2 ^ (k + 1)) (fun k => [(6, .u), (7, .u), (8, .u), (27, .u), (28, .u), (29, .u), (30, .u), (31, .u), (32, .u), (33, .u), (34, .u), (35, .u), (36, .u), (37, .u), (38, .u), (39, .u), (40, .u), (41, .u), (42, .u), (43, .u), (44, .u), (45, .u), (46, .u), (47, .u), (48, .u), (49, .u)]) (fun k => [⟨3, 1, 0, true, [.i .i64 (b : Int)]⟩, ⟨24, 1, k, true, (pwR b (k + 1)).flatten⟩, ⟨146, 1, 0, true, [.o 1 k 0 (k + 1)]⟩]) ?_ ?_
    · refine jc_block ?_; refine jc_H (H' := [⟨3, 1, 0, true, [.i .i64 (b : Int)]⟩, ⟨24, 1, 0, true, (pwR b (0 + 1)).flatten⟩, ⟨146, 1, 0, true, [.o 1 0 0 (0 + 1)]⟩]) (by rw [← pw_one]; rfl) ?_
      refine jc_loopD (G := Nat) 3 (fun k => k ≤ 26 ∧ lenV ((b ^ 2 ^ k : Nat) : Int) ≤ 67108864) (fun k => [(6, .u), (7, .u), (8, .u), (27, .u), (28, .u), (29, .u), (30, .u), (31, .u), (32, .u), (33, .u), (34, .u), (35, .u), (36, .u), (37, .u), (38, .u), (39, .u), (40, .u), (41, .u), (42, .u), (43, .u), (44, .u), (45, .u), (46, .u), (47, .u), (48, .u), (49, .u)]) (fun k => [⟨3, 1, 0, true, [.i .i64 (b : Int)]⟩, ⟨24, 1, k, true, (pwR b (k + 1)).flatten⟩, ⟨146, 1, 0, true, [.o 1 k 0 (k + 1)]⟩]) (fun k => 27 - k) 0 ?_ ?_ rfl hR rfl (fun _ _ => rfl) (fun k _ => .cons rfl (.cons pw_id (.cons rfl .nil))) ?_
      · exact ⟨by decide, Nat.le_trans (lenV_mono (w := 36) (by rw [Int.natAbs_natCast, Nat.pow_zero, Nat.pow_one]; omega)) (by decide)⟩
      · exact (.u (.u (.u (.u (.u (.u (.u (.u (.u (.u (.u (.u (.u (.u (.u (.u (.u (.u (.u (.u (.u (.u (.u (.u (.u (.u .nil))))))))))))))))))))))))))
      · rintro k ⟨hk26, hkl⟩
        have hkm := lenV_lm hkl
        refine jc_block ?_; refine jc_seq ?_; refine jc_region ?_; refine jo_l (ly_ld one1146 rfl rfl rfl) (hd 27 rfl) ?_; refine jo_l (ly_ld one1146 rfl rfl rfl) (hd 28 rfl) ?_; refine jo_l (ly_leno sl1146 rfl rfl) (hd 29 rfl) ?_; refine jo_l (ly_sub rfl rfl (wrap_i64 (by omega) (by omega))) (hd 30 rfl) ?_; refine jo_l (ly_ia (i := k) sl1146 rfl rfl rfl (by omega) (by omega) rfl) (hd 31 rfl) ?_; refine jo_l (ly_ld (y := pwV b k) one28 rfl rfl (by rw [Nat.zero_add, Nat.mul_one]; exact pw_fat (by omega))) (hd 32 rfl) ?_; refine jo_l (ly_as rfl) (hd 6 rfl) ?_; refine jo_nil ?_; refine jc_seq ?_; refine jc_region ?_; refine jo_l (ly_mv rfl) (hd 34 rfl) ?_
        refine jo_call Try.f117 (Square_l (lm ((b ^ 2 ^ k : Nat) : Int)) (by omega) (lm_u _)) rfl Try.func117 rfl rfl (ovL_cons rfl ovL_nil) (.cons .n .nil) (hd 35 rfl) ?_ (fun ch hp => by simp at hp)
        rintro y ⟨r2, e2, hy, he2⟩; injection hy with hy; subst hy
        rw [pw_sqI] at he2
        have hle2 := errL_len he2
        have hu2 := errL_u he2
        have hcv := cmpL_val hu2 hu
        refine jo_l (ly_mv rfl) (hd 33 rfl) ?_; refine jo_l (ly_ext rfl rfl) (hd 36 rfl) ?_; refine jo_l (ly_ext rfl rfl) (hd 37 rfl) ?_; refine jo_l (ly_as rfl) (hd 7 rfl) ?_; refine jo_l (ly_as rfl) (hd 8 rfl) ?_; refine jo_nil ?_; refine jc_seq ?_; refine jc_seq ?_; refine jc_region ?_; refine jo_l (ly_mv rfl) (hd 38 rfl) ?_; refine jo_l (ly_ne rfl rfl) (hd 39 rfl) ?_; refine jo_l (ly_mv rfl) (hd 40 rfl) ?_
        refine jo_ifp 40 rfl (fun h4 => ?_) (fun h4 => ?_)
        · refine jo_s 40 rfl rfl rfl (hd 41 rfl) ?_; refine jo_s 40 rfl rfl rfl (hd 42 rfl) ?_; refine jo_s 40 rfl rfl rfl (hd 43 rfl) ?_; refine jo_s 40 rfl rfl rfl (hd 44 rfl) ?_; refine jo_l (ly_pick_t rfl rfl) (hd 45 rfl) ?_; refine jo_nil ?_; refine jc_litt rfl ?_; refine jc_exit ?_
          refine ⟨k, ?_, rfl, cov_n 49 rfl rfl ?_⟩
          · exact ⟨hk26, hkl, pw_big hv hv0 (errL_ne he2 (by assumption))⟩
          · exact (.u (.u (.u (.u (.u (.u (.u (.u (.u (.u (.u (.u (.u (.u (.u (.u (.u (.u (.u (.u (.u (.u (.u (.u (.u (.u .nil))))))))))))))))))))))))))
        · obtain ⟨hr2, hle9⟩ := errL_eq he2 (Decidable.not_not.1 h4)
          have hvr : vl r2 = ((b ^ 2 ^ (k + 1) : Nat) : Int) := by rw [hr2, vl_lm (Int.natCast_nonneg _)]
          refine jo_g 40 rfl rfl (ly_mv rfl) (hd 41 rfl) ?_; refine jo_g 40 rfl rfl (ly_mv rfl) (hd 42 rfl) ?_
          refine jo_callg Try.f22 40 rfl rfl (Compare_s r2 l (by omega) (by omega)) rfl Try.func22 rfl rfl (ovL_cons rfl (ovL_cons rfl ovL_nil)) (.cons .n (.cons .n .nil)) (hd 43 rfl) ?_ (fun ch hp => by simp at hp)
          rintro y hy; injection hy with hy; subst hy; refine jo_g 40 rfl rfl (ly_gt rfl rfl) (hd 44 rfl) ?_; refine jo_l (ly_pick_f rfl rfl) (hd 45 rfl) ?_; refine jo_nil ?_
          refine jc_if rfl (fun h6 => ?_) (fun h6 => ?_)
          · refine jc_exit ?_
            refine ⟨k, ?_, rfl, cov_n 49 rfl rfl ?_⟩
            · exact ⟨hk26, hkl, by rcases hcv with ⟨c, v⟩ | ⟨c, v⟩ | ⟨c, v⟩ <;> omega⟩
            · exact (.u (.u (.u (.u (.u (.u (.u (.u (.u (.u (.u (.u (.u (.u (.u (.u (.u (.u (.u (.u (.u (.u (.u (.u (.u (.u .nil))))))))))))))))))))))))))
          · have hge : b ^ 2 ^ (k + 1) ≤ (vl l).toNat := by rcases hcv with ⟨c, v⟩ | ⟨c, v⟩ | ⟨c, v⟩ <;> omega
            have hkeep : k + 1 ≤ 26 ∧ lenV ((b ^ 2 ^ (k + 1) : Nat) : Int) ≤ 67108864 := ⟨pw_cap26 hlb hge hxp, hle9⟩
            refine jc_skip ?_; refine jc_region ?_; refine jo_l (ly_ld one1146 rfl rfl rfl) (hd 46 rfl) ?_; refine jo_l (ly_mv rfl) (hd 47 rfl) ?_; refine jo_h (hy_lit (id := 3) (xs := [.tmp 47]) el1146 rfl (ovL_cons rfl ovL_nil) rfl (all2_of rfl) (by decide) rfl) (hd 48 rfl) ?_; refine jo_app el1146 rfl rfl (by rw [pw_flen, Nat.mul_one]) rfl (src_o rfl rfl rfl) (by show (k + 1 + 1) * 24 ≤ _; omega) (by show k + 1 + 1 ≤ 9223372036854775807; omega) (hd 49 rfl) ?_; refine jo_st (sy_store rfl rfl rfl siz1146 rfl (by simp [cellsV, oneO]) (Nat.le_of_ble_eq_true rfl)) ?_; refine jo_nil ?_
            refine ⟨k + 1, ?_, ?_, (by show [_, (⟨24, 1, k + 1, true, (pwR b (k + 1)).flatten ++ [V.n true .u64 r2]⟩ : Ob), _] = [_, ⟨24, 1, k + 1, true, (pwR b (k + 1 + 1)).flatten⟩, _]; rw [hr2, ← pw_snoc (K := k + 1)]; rfl), cov_n 53 rfl rfl ?_⟩
            · exact hkeep
            · omega
            · exact (.u (.u (.u (.u (.u (.u (.u (.u (.u (.u (.u (.u (.u (.u (.u (.u (.u (.u (.u (.u (.u (.u (.u (.u (.u (.u .nil))))))))))))))))))))))))))
    · rintro k ⟨hk26, hkl, hx⟩
      have hK : ∀ j, j < k + 1 → lenV ((b ^ 2 ^ j : Nat) : Int) ≤ 67108864 := fun j hj => Nat.le_trans (pw_mono hlb (by omega)) hkl
      have hx0 : (vl l).toNat ≠ 0 := fun h0 => by have h1 := (lenN_zero hu).2 (by omega); omega
      have hdm := digs_len hlb _ _ hx
      have hlen : (hdg b (2 ^ (k + 1)) (vl l).toNat).length = 2 ^ (k + 1) := by rw [hdg_le]; omega
      have h27 : 2 ^ (k + 1) ≤ 2 ^ 27 := two_cap (by omega)
      refine jc_seq ?_; refine jc_region ?_; refine jo_h (hy_alloc (id := 3) zero1106 (by decide) rfl (by decide) rfl) (hd 9 rfl) ?_; refine jo_nil ?_; refine jc_seq ?_; refine jc_frzrc 0 (idB := 2) (id := 1) (pwR b (k + 1)) rfl rfl rfl rfl pw_length pw_sz pw_pure (by decide) hL ?_; refine jc_frzp 5 rfl rfl rfl rfl hL ?_; refine jc_frzp 3 rfl rfl rfl rfl hL ?_; refine jc_region ?_; refine jo_l (ly_mf (ovL_cons rfl (ovL_cons rfl (ovL_cons rfl ovL_nil)))) (hd 50 rfl) ?_; refine jo_st (sy_store rfl rfl rfl siz1106 rfl rfl (Nat.le_of_ble_eq_true rfl)) ?_; refine jo_nil ?_; refine jc_seq ?_; refine jc_cyc 9 [.q [.i .i64 (b : Int)], .q [.l true 1 (pwR b (k + 1))]] [] (k + 2) rfl rfl rfl rfl hL ?_; refine jc_region ?_; refine jo_l (ly_ldqf one1106 rfl rfl) (hd 51 rfl) ?_; refine jo_l (ly_mv rfl) (hd 52 rfl) ?_; refine jo_l (ly_ldq one1146 rfl rfl) (hd 53 rfl) ?_; refine jo_l (ly_is (ly_lenl sl1146 rfl) (show V.i .i64 _ = V.i .i64 ((k + 1 : Nat) : Int) by rw [pw_length])) (hd 54 rfl) ?_; refine jo_l (ly_sub rfl rfl (wrap_i64 (by omega) (by omega))) (hd 55 rfl) ?_
      refine jo_callNC Try.f118 (part_n b (k + 1) hlb hb2 hK (by omega) (k + 1) l (k + 1) hl hu hx (Nat.le_refl _) (Nat.le_refl _)) (fun o G ⟨_, h⟩ => h ▸ idless_cons ints_id idless_nil) rfl Try.func118 rfl rfl (ovL_cons rfl (ovL_cons rfl ovL_nil)) (.cons .n (.cons .i (.cons .q (.cons .q (.cons .q .nil))))) (hd 56 rfl) ?_ (fun ch G hp => by simp at hp)
      rintro y G ⟨hy, rfl⟩; injection hy with hy; subst hy
      show JO _ _ _ _ ((56, .o 4 0 0 (hdg b (2 ^ (k + 1)) (vl l).toNat).length) :: _) _ _
      refine jo_l (ly_as rfl) (hd 10 rfl) ?_; refine jo_nil ?_; refine jc_seq ?_; refine jc_region ?_; refine jo_l (ly_as rfl) (hd 11 rfl) ?_; refine jo_nil ?_
      refine jc_meetH (G := Nat) (fun i => i = (2 ^ (k + 1) - (digs b (vl l).toNat).length)) (fun i => [(11, .i .i64 (i : Int)), (57, .u), (58, .u), (59, .u), (60, .u), (61, .u), (62, .u), (63, .u), (64, .u), (65, .u), (66, .u), (67, .u), (68, .u), (69, .u), (70, .u)]) ?_ ?_
      · refine jc_block ?_
        refine jc_loopF (G := Nat) (fun i => i ≤ (2 ^ (k + 1) - (digs b (vl l).toNat).length)) (fun i => [(11, .i .i64 (i : Int)), (57, .u), (58, .u), (59, .u), (60, .u), (61, .u), (62, .u), (63, .u), (64, .u), (65, .u), (66, .u), (67, .u), (68, .u), (69, .u), (70, .u)]) (fun _ => _) (fun i => (2 ^ (k + 1) - (digs b (vl l).toNat).length) - i) 0 ?_ ?_ rfl ?_
        · exact Nat.zero_le _
        · exact (.cons rfl (.u (.u (.u (.u (.u (.u (.u (.u (.u (.u (.u (.u (.u (.u .nil)))))))))))))))
        · rintro i hiz; refine jc_seq ?_; refine jc_seq ?_; refine jc_region ?_; refine jo_l (ly_mv rfl) (hd 57 rfl) ?_; refine jo_l (ly_mv rfl) (hd 58 rfl) ?_; refine jo_l (ly_leno sl1039 rfl rfl) (hd 59 rfl) ?_; refine jo_l (ly_sub rfl rfl (wrap_i64 (by omega) (by omega))) (hd 60 rfl) ?_; refine jo_l (ly_lt rfl rfl) (hd 61 rfl) ?_; refine jo_l (ly_mv rfl) (hd 62 rfl) ?_
          refine jo_ifp 62 rfl (fun h7 => ?_) (fun h7 => ?_)
          · refine jo_g 62 rfl rfl (ly_mv rfl) (hd 63 rfl) ?_; refine jo_g 62 rfl rfl (ly_mv rfl) (hd 64 rfl) ?_; refine jo_g 62 rfl rfl (ly_ia (i := i) sl1039 rfl rfl rfl (by first | rfl | omega) (by omega) rfl) (hd 65 rfl) ?_; refine jo_g 62 rfl rfl (ly_is (ly_ldi one3 rfl rfl (by first | omega | (dsimp only; omega))) (show V.i .i64 _ = V.i .i64 ((hdg b (2 ^ (k + 1)) (vl l).toNat).getD i 0) by rw [Nat.zero_add, Nat.mul_one])) (hd 66 rfl) ?_; refine jo_g 62 rfl rfl (ly_eq rfl rfl) (hd 67 rfl) ?_; refine jo_l (ly_pick_t rfl rfl) (hd 68 rfl) ?_; refine jo_nil ?_
            refine jc_if rfl (fun h8 => ?_) (fun h8 => ?_)
            · have hz0 := h8
              refine jc_skip ?_; refine jc_block ?_; refine jc_region ?_; refine jo_l (ly_mv rfl) (hd 69 rfl) ?_; refine jo_l (ly_add rfl rfl (r := ((i + 1 : Nat) : Int)) (by rw [wrap_i64 (by omega) (by omega)]; omega)) (hd 70 rfl) ?_; refine jo_l (ly_as rfl) (hd 11 rfl) ?_; refine jo_nil ?_
              refine ⟨i + 1, ?_, ?_, rfl, cov_n 31 rfl rfl ?_⟩
              · exact cut_next hlb hx0 hdm hiz hz0
              · have := cut_next hlb hx0 hdm hiz hz0
                omega
              · exact (.cons rfl (.u (.u (.u (.u (.u (.u (.u (.u (.u (.u (.u (.u (.u (.u .nil)))))))))))))))
            · refine jc_exit ?_
              refine ⟨i, ?_, rfl, cov_n 28 rfl rfl ?_⟩
              · exact cut_at hlb hx0 hdm hiz (by first | (left; omega) | (right; assumption))
              · exact (.cons rfl (.u (.u (.u (.u (.u (.u (.u (.u (.u (.u (.u (.u (.u (.u .nil)))))))))))))))
          · refine jo_s 62 rfl rfl rfl (hd 63 rfl) ?_; refine jo_s 62 rfl rfl rfl (hd 64 rfl) ?_; refine jo_s 62 rfl rfl rfl (hd 65 rfl) ?_; refine jo_s 62 rfl rfl rfl (hd 66 rfl) ?_; refine jo_s 62 rfl rfl rfl (hd 67 rfl) ?_; refine jo_l (ly_pick_f rfl rfl) (hd 68 rfl) ?_; refine jo_nil ?_; refine jc_litf rfl ?_; refine jc_exit ?_
            refine ⟨i, ?_, rfl, cov_n 28 rfl rfl ?_⟩
            · exact cut_at hlb hx0 hdm hiz (by first | (left; omega) | (right; assumption))
            · exact (.cons rfl (.u (.u (.u (.u (.u (.u (.u (.u (.u (.u (.u (.u (.u (.u .nil)))))))))))))))
      · rintro i hiz
        have hdr := cut_drop (m := 2 ^ (k + 1)) hlb hx0
        have hR1l : (hdg b 1 (vl l).toNat).length = (hdg b (2 ^ (k + 1)) (vl l).toNat).length - i := by rw [← hdr, List.length_drop, hiz]
        refine jc_seq ?_; refine jc_region ?_; refine jo_l (ly_mv rfl) (hd 71 rfl) ?_; refine jo_l (ly_mv rfl) (hd 72 rfl) ?_; refine jo_l (ly_slo (l := i) (h := (hdg b (2 ^ (k + 1)) (vl l).toNat).length) (r := i) (n := (hdg b (2 ^ (k + 1)) (vl l).toNat).length - i) sl1039 rfl rfl (bnd_some' rfl rfl) bnd_none (by omega) (Nat.le_refl _) (by omega) rfl) (hd 73 rfl) ?_; refine jo_h (hy_app0 (id := 5) el1039 rfl rfl (src_oo rfl (by omega)) (by omega) (by show _ ≤ 9223372036854775807; omega) rfl) (hd 74 rfl) ?_; refine jo_l (ly_as rfl) (hd 4 rfl) ?_; refine jo_nil ?_; refine jc_ret ?_
        refine ⟨[5], _, (.o 0 0 0 ((hdg b (2 ^ (k + 1)) (vl l).toNat).length - i)), (.cons rfl .nil), rfl, rfl, (by decide), (idless_cons ints_id idless_nil), ?_⟩
        exact ⟨by rw [hR1l], by show [(⟨3, 1, 0, true, ints .i64 (((hdg b (2 ^ (k + 1)) (vl l).toNat).drop i).take ((hdg b (2 ^ (k + 1)) (vl l).toNat).length - i))⟩ : Ob)] = [⟨3, 1, 0, true, ints .i64 (hdg b 1 (vl l).toNat)⟩]; rw [List.take_of_length_le (by rw [List.length_drop]; exact Nat.le_refl _), hiz, hdr]⟩
end Go.Proofs.Ytcfdclehmpfkcaa.Vc

/- Contracts of numeral.text, good, Print. -/
namespace Go.Proofs.Ytcfdclehmpfkcaa.Vc
open Go Go.RowKit
set_option maxHeartbeats 4000000 in
theorem text_s (l : List Int) (hl : l.length < 1099511627776) (hr : rng 36 l) : Spec Try.prog 69 [.n false .i64 l] (fun o => o = .ret (.n true .u8 (bytesI (txt l)))) := by
  refine spec_of' [(0, .n false .i64 l)] rfl Try.func69 rfl (Nat.le_of_ble_eq_true rfl) fun Γ hN hds hL hR => ?_
  have hd : ∀ d, Nat.blt d 23 = true → d < Γ.N := fun d h => by rw [hN]; exact Nat.le_of_ble_eq_true h
  refine jc_seq ?_; refine jc_region ?_; refine jo_l (ly_as rfl) (hd 2 rfl) ?_; refine jo_nil ?_; refine jc_seq ?_; refine jc_region ?_; refine jo_l (ly_mv rfl) (hd 6 rfl) ?_; refine jo_l (ly_lenn sl1039 rfl) (hd 7 rfl) ?_; refine jo_h (hy_mk (m := l.length) el1104 rfl rfl rfl (by show 1 * l.length ≤ _; omega) (by unfold maxLen; omega) rfl) (hd 8 rfl) ?_; refine jo_l (ly_as rfl) (hd 3 rfl) ?_; refine jo_nil ?_; refine jc_seq ?_; refine jc_seq ?_; refine jc_H (H' := [⟨5, 1, 0, true, ints .u8 (cpI (l.map ltr) 0)⟩]) (by rw [← cpI_0, List.length_map]; rfl) ?_; refine jc_region ?_; refine jo_l (ly_mv rfl) (hd 9 rfl) ?_; refine jo_l (ly_lenn sl1039 rfl) (hd 10 rfl) ?_; refine jo_l (ly_mv rfl) (hd 11 rfl) ?_; refine jo_nil ?_; refine jc_block ?_
  refine jc_loopF (G := Nat) (fun i => i ≤ l.length) (fun i => [(11, .i .i64 (i : Int)), (4, .u), (5, .u), (12, .u), (13, .u), (14, .u), (15, .u), (16, .u), (17, .u), (18, .u), (19, .u), (20, .u), (21, .u)]) (fun i => [⟨5, 1, 0, true, ints .u8 (cpI (l.map ltr) i)⟩]) (fun i => l.length - i) 0 ?_ ?_ rfl ?_
  · exact Nat.zero_le _
  · exact (.cons rfl (.u (.u (.u (.u (.u (.u (.u (.u (.u (.u (.u (.u .nil)))))))))))))
  · rintro i hi
    have hcl := cpI_len (l := l.map ltr) (i := i) (by rw [List.length_map]; exact hi)
    rw [List.length_map] at hcl
    have hx := rng_getD (by decide) hr i
    refine jc_seq ?_; refine jc_region ?_; refine jo_l (ly_lt rfl rfl) (hd 12 rfl) ?_; refine jo_nil ?_; refine jc_seq ?_
    refine jc_if rfl (fun h1 => ?_) (fun h1 => ?_)
    · refine jc_skip ?_; refine jc_seq ?_; refine jc_block ?_; refine jc_seq ?_; refine jc_region ?_; refine jo_l (ly_mv rfl) (hd 13 rfl) ?_; refine jo_l (ly_ian (i := i) sl1039 rfl rfl (by first | rfl | omega) (by omega)) (hd 14 rfl) ?_; refine jo_l (ly_ldq one3 rfl rfl) (hd 15 rfl) ?_; refine jo_l (ly_as rfl) (hd 4 rfl) ?_; refine jo_l (ly_as rfl) (hd 5 rfl) ?_; refine jo_nil ?_; refine jc_region ?_; refine jo_l (ly_mv rfl) (hd 16 rfl) ?_; refine jo_l (ly_mv rfl) (hd 17 rfl) ?_; refine jo_l (ly_mv rfl) (hd 18 rfl) ?_; refine jo_l (ly_ixs (b := ltrTab) (i := (l.getD i 0).toNat) und9 (by kernel_rfl) rfl (by omega) (by show _ < 36; omega)) (hd 19 rfl) ?_; refine jo_l (ly_ia (i := i) sl1104 rfl rfl rfl (by first | rfl | omega) (by omega) rfl) (hd 20 rfl) ?_; refine jo_st (sy_storei rfl rfl rfl one5 (by first | omega | (dsimp only; omega))) ?_; refine jo_nil ?_; refine jc_region ?_; refine jo_l (ly_add rfl rfl (r := ((i + 1 : Nat) : Int)) (by rw [wrap_i64 (by omega) (by omega)]; omega)) (hd 21 rfl) ?_; refine jo_l (ly_mv rfl) (hd 11 rfl) ?_; refine jo_nil ?_
      refine ⟨i + 1, ?_, ?_, (by show [(⟨5, 1, 0, true, ints .u8 _⟩ : Ob)] = [⟨5, 1, 0, true, ints .u8 _⟩]; rw [← cpI_set (by rw [List.length_map]; omega), txt_getD (by omega)]; rfl), cov_n 26 rfl rfl ?_⟩
      · omega
      · omega
      · exact (.cons rfl (.u (.u (.u (.u (.u (.u (.u (.u (.u (.u (.u (.u .nil)))))))))))))
    · refine jc_exit ?_; refine jc_seq ?_
      obtain rfl : i = l.length := by omega
      refine jc_frz (k := .u8) (l := cpI (l.map ltr) l.length) (l' := bytesI (txt l)) 3 rfl rfl (by rw [hcl]; omega) (by rw [txt_I, List.drop_zero, List.take_of_length_le (by omega)]; have h := cpI_all (l.map ltr); rwa [List.length_map] at h) hL ?_; refine jc_region ?_; refine jo_l (ly_mv rfl) (hd 22 rfl) ?_; refine jo_l (ly_as rfl) (hd 2 rfl) ?_; refine jo_nil ?_; refine jc_ret ?_
      refine ⟨_, _, (.cons rfl .nil), .n, ?_⟩
      rfl

set_option maxHeartbeats 4000000 in
theorem good_y (b : Nat) (hb : 2 ≤ b) (hb2 : b ≤ 36) : Spec Try.prog 66 [.i .i64 (b : Int)] (fun o => o = .ret (.b true)) := by
  refine spec_of' [(0, .i .i64 (b : Int))] rfl Try.func66 rfl (Nat.le_of_ble_eq_true rfl) fun Γ hN hds hL hR => ?_
  have hd : ∀ d, Nat.blt d 9 = true → d < Γ.N := fun d h => by rw [hN]; exact Nat.le_of_ble_eq_true h
  refine jc_seq ?_; refine jc_region ?_; refine jo_l (ly_as rfl) (hd 2 rfl) ?_; refine jo_nil ?_; refine jc_seq ?_; refine jc_region ?_; refine jo_l (ly_mv rfl) (hd 3 rfl) ?_; refine jo_l (ly_tt (ly_ge rfl rfl) (by omega)) (hd 4 rfl) ?_; refine jo_l (ly_mv rfl) (hd 5 rfl) ?_; refine jo_g 5 rfl rfl (ly_mv rfl) (hd 6 rfl) ?_; refine jo_g 5 rfl rfl (ly_tt (ly_le rfl rfl) (by omega)) (hd 7 rfl) ?_; refine jo_l (ly_pick_t rfl rfl) (hd 8 rfl) ?_; refine jo_l (ly_as rfl) (hd 2 rfl) ?_; refine jo_nil ?_; refine jc_ret ?_
  refine ⟨_, _, (.cons rfl .nil), .b, ?_⟩
  exact rfl

set_option maxHeartbeats 4000000 in
theorem Print_s (l : List Int) (b : Nat) (hl : l.length ≤ 1048576) (hu : u64s l) (hlb : 2 ≤ b) (hb2 : b ≤ 36) : Spec Try.prog 21 [.n false .u64 l, .i .i64 (b : Int)] (fun o => o = .ret (.t [.s (txt (hdg b 1 (vl l).toNat)), .i .i64 0])) := by
  refine spec_of' [(0, .n false .u64 l), (1, .i .i64 (b : Int))] rfl Try.func21 rfl (Nat.le_of_ble_eq_true rfl) fun Γ hN hds hL hR => ?_
  have hd : ∀ d, Nat.blt d 14 = true → d < Γ.N := fun d h => by rw [hN]; exact Nat.le_of_ble_eq_true h
  have hRl : (hdg b 1 (vl l).toNat).length ≤ 67108864 := by rw [hdg_le]; have h1 := digs_le_len hu hlb; omega
  refine jc_seq ?_; refine jc_region ?_; refine jo_l (ly_as rfl) (hd 4 rfl) ?_; refine jo_l (ly_as rfl) (hd 5 rfl) ?_; refine jo_nil ?_; refine jc_seq ?_; refine jc_seq ?_; refine jc_region ?_; refine jo_l (ly_mv rfl) (hd 6 rfl) ?_
  refine jo_call Try.f66 (good_y b hlb hb2) rfl Try.func66 rfl rfl (ovL_cons rfl ovL_nil) (.cons .i .nil) (hd 7 rfl) ?_ (fun ch hp => by simp at hp)
  rintro y hy; injection hy with hy; subst hy; refine jo_l (ly_not rfl) (hd 8 rfl) ?_; refine jo_nil ?_; refine jc_litf rfl ?_; refine jc_skip ?_; refine jc_seq ?_; refine jc_region ?_; refine jo_l (ly_mv rfl) (hd 9 rfl) ?_; refine jo_l (ly_mv rfl) (hd 10 rfl) ?_
  refine jo_callN Try.f70 (all_n l b hl hu hlb hb2) (fun o G ⟨_, h⟩ => h ▸ idless_cons ints_id idless_nil) rfl Try.func70 rfl rfl (ovL_cons rfl (ovL_cons rfl ovL_nil)) (.cons .n (.cons .i .nil)) (hd 11 rfl) ?_ (fun ch G hp => by simp at hp)
  rintro y G ⟨hy, rfl⟩; injection hy with hy; subst hy
  show JO _ _ _ _ ((11, .o 0 0 0 (hdg b 1 (vl l).toNat).length) :: _) _ _
  refine jo_frz (k := .i64) (l := (hdg b 1 (vl l).toNat)) (l' := (hdg b 1 (vl l).toNat)) 11 rfl rfl (by omega) (by rw [List.drop_zero, List.take_length]) hL ?_
  refine jo_call Try.f69 (text_s (hdg b 1 (vl l).toNat) (by omega) (rng36 hb2 (hdg_rng hlb _ _))) rfl Try.func69 rfl rfl (ovL_cons rfl ovL_nil) (.cons .n .nil) (hd 12 rfl) ?_ (fun ch hp => by simp at hp)
  rintro y hy; injection hy with hy; subst hy; refine jo_l (ly_b2s undS1104 und5 und9 rfl) (hd 13 rfl) ?_; refine jo_l (ly_as rfl) (hd 4 rfl) ?_; refine jo_l (ly_as rfl) (hd 5 rfl) ?_; refine jo_nil ?_; refine jc_ret ?_
  refine ⟨_, _, (.cons rfl (.cons rfl .nil)), (.t1 .s (.t1 .i .t0)), ?_⟩
  exact rfl

end Go.Proofs.Ytcfdclehmpfkcaa.Vc

/- Contract of numeral.build of at most 12 digits. -/
namespace Go.Proofs.Ytcfdclehmpfkcaa.Vc
open Go Go.RowKit
set_option maxHeartbeats 4000000 in
theorem part_12 (l : List Int) (b : Nat) (ys zs : List V) (hlb : 2 ≤ b) (hb2 : b ≤ 36) (hr : rng b l) (hl : l.length ≤ 12) : Spec Try.prog 114 [.n false .i64 l, .q [.i .i64 (b : Int)], .q ys, .q zs] (fun o => o = .ret (.t [.n false .u64 (lm (hv b l)), .i .i64 0])) := by
  refine spec_of' [(0, .n false .i64 l), (1, .q [.i .i64 (b : Int)]), (2, .q ys), (3, .q zs)] rfl Try.func114 rfl (Nat.le_of_ble_eq_true rfl) fun Γ hN hds hL hR => ?_
  have hd : ∀ d, Nat.blt d 89 = true → d < Γ.N := fun d h => by rw [hN]; exact Nat.le_of_ble_eq_true h
  refine jc_seq ?_; refine jc_region ?_; refine jo_l (ly_as rfl) (hd 5 rfl) ?_; refine jo_l (ly_as rfl) (hd 6 rfl) ?_; refine jo_nil ?_; refine jc_seq ?_; refine jc_seq ?_; refine jc_region ?_; refine jo_l (ly_mv rfl) (hd 16 rfl) ?_; refine jo_l (ly_lenn sl1039 rfl) (hd 17 rfl) ?_; refine jo_l (ly_tt (ly_le rfl rfl) (by omega)) (hd 18 rfl) ?_; refine jo_nil ?_; refine jc_litt rfl ?_; refine jc_seq ?_; refine jc_region ?_; refine jo_l (ly_as rfl) (hd 7 rfl) ?_; refine jo_nil ?_; refine jc_seq ?_; refine jc_seq ?_; refine jc_region ?_; refine jo_l (ly_mv rfl) (hd 19 rfl) ?_; refine jo_l (ly_lenn sl1039 rfl) (hd 20 rfl) ?_; refine jo_l (ly_mv rfl) (hd 21 rfl) ?_; refine jo_nil ?_; refine jc_block ?_
  refine jc_loopF (G := Nat) (fun i => i ≤ l.length) (fun i => [(7, .i .u64 (hv b (l.take i))), (21, .i .i64 (i : Int)), (9, .u), (22, .u), (23, .u), (24, .u), (25, .u), (26, .u), (27, .u), (28, .u), (29, .u), (30, .u), (31, .u), (32, .u)]) (fun _ => _) (fun i => l.length - i) 0 ?_ ?_ rfl ?_
  · exact Nat.zero_le _
  · exact (.cons rfl (.cons rfl (.u (.u (.u (.u (.u (.u (.u (.u (.u (.u (.u (.u .nil))))))))))))))
  · rintro i hi
    have hrt := rng_take hr i
    have hn0 := hv_nonneg hrt
    have hn1 := hv_12 hb2 hlb hrt (by rw [List.length_take]; omega)
    have hx := rng_getD (by omega) hr i
    refine jc_seq ?_; refine jc_region ?_; refine jo_l (ly_lt rfl rfl) (hd 22 rfl) ?_; refine jo_nil ?_; refine jc_seq ?_
    refine jc_if rfl (fun h2 => ?_) (fun h2 => ?_)
    · have hrm := rng_take hr (i + 1)
      have hm0 := hv_nonneg hrm
      have hm1 := hv_12 hb2 hlb hrm (by rw [List.length_take]; omega)
      have hst := hv_step (b := b) (l := l) (i := i) (by omega)
      refine jc_skip ?_; refine jc_seq ?_; refine jc_block ?_; refine jc_seq ?_; refine jc_region ?_; refine jo_l (ly_ian (i := i) sl1039 rfl rfl (by first | rfl | omega) (by omega)) (hd 23 rfl) ?_; refine jo_l (ly_ldq one3 rfl rfl) (hd 24 rfl) ?_; refine jo_l (ly_as rfl) (hd 9 rfl) ?_; refine jo_nil ?_; refine jc_region ?_; refine jo_l (ly_mv rfl) (hd 25 rfl) ?_; refine jo_l (ly_ldq one3 rfl rfl) (hd 26 rfl) ?_; refine jo_l (ly_conv und3 und82 rfl (r := (b : Int)) (wrap_u64 (by omega) (by omega))) (hd 27 rfl) ?_; refine jo_l (ly_mul rfl rfl (r := (hv b (l.take i)) * b) (wrap_u64 (Int.mul_nonneg hn0 (by omega)) (by omega))) (hd 28 rfl) ?_; refine jo_l (ly_mv rfl) (hd 29 rfl) ?_; refine jo_l (ly_conv und3 und82 rfl (r := l.getD i 0) (wrap_u64 hx.1 (by omega))) (hd 30 rfl) ?_; refine jo_l (ly_add rfl rfl (r := hv b (l.take (i + 1))) (by rw [← hv_step (by omega)]; exact wrap_u64 hm0 (by omega))) (hd 31 rfl) ?_; refine jo_l (ly_as rfl) (hd 7 rfl) ?_; refine jo_nil ?_; refine jc_region ?_; refine jo_l (ly_add rfl rfl (r := ((i + 1 : Nat) : Int)) (by rw [wrap_i64 (by omega) (by omega)]; omega)) (hd 32 rfl) ?_; refine jo_l (ly_mv rfl) (hd 21 rfl) ?_; refine jo_nil ?_
      refine ⟨i + 1, ?_, ?_, rfl, cov_n 28 rfl rfl ?_⟩
      · omega
      · omega
      · exact (.cons rfl (.cons rfl (.u (.u (.u (.u (.u (.u (.u (.u (.u (.u (.u (.u .nil))))))))))))))
    · obtain rfl : i = l.length := by omega
      refine jc_exit ?_; refine jc_seq ?_; refine jc_region ?_; refine jo_l (ly_mv rfl) (hd 33 rfl) ?_
      refine jo_call Try.f113 (From_s (hv b (l.take l.length))) rfl Try.func113 rfl rfl (ovL_cons rfl ovL_nil) (.cons .i .nil) (hd 34 rfl) ?_ (fun ch hp => by simp at hp)
      rintro y hy; injection hy with hy; subst hy; refine jo_l (ly_as rfl) (hd 5 rfl) ?_; refine jo_l (ly_as rfl) (hd 6 rfl) ?_; refine jo_nil ?_; refine jc_ret ?_
      refine ⟨_, _, (.cons rfl (.cons rfl .nil)), (.t1 .nn (.t1 .i .t0)), ?_⟩
      rw [fl_lm hn0 (by omega), List.take_length]

end Go.Proofs.Ytcfdclehmpfkcaa.Vc

/- Contract of numeral.Parse where all are digits. -/
namespace Go.Proofs.Ytcfdclehmpfkcaa.Vc
open Go Go.RowKit
set_option maxHeartbeats 4000000 in
theorem Parse_k (s : ByteArray) (b : Nat) (r : List Int) (e : Int) (hlb : 2 ≤ b) (hb2 : b ≤ 36) (hs0 : s.size ≠ 0) (hs : s.size < 1099511627776) (hval : ∀ i, i < s.size → dgv (byteAt s i) < b) (hB : Spec Try.prog 67 [.n false .i64 (dgs s), .i .i64 (b : Int)] (fun o => o = .ret (.t [.n false .u64 r, .i .i64 e]))) : Spec Try.prog 16 [.s s, .i .i64 (b : Int)] (fun o => o = .ret (.t [.n false .u64 r, .i .i64 e])) := by
  refine spec_of' [(0, .s s), (1, .i .i64 (b : Int))] rfl Try.func16 rfl (Nat.le_of_ble_eq_true rfl) fun Γ hN hds hL hR => ?_
  have hd : ∀ d, Nat.blt d 60 = true → d < Γ.N := fun d h => by rw [hN]; exact Nat.le_of_ble_eq_true h
  refine jc_seq ?_; refine jc_region ?_; refine jo_l (ly_as rfl) (hd 4 rfl) ?_; refine jo_l (ly_as rfl) (hd 5 rfl) ?_; refine jo_nil ?_; refine jc_seq ?_; refine jc_seq ?_; refine jc_region ?_; refine jo_l (ly_mv rfl) (hd 10 rfl) ?_
  refine jo_call Try.f66 (good_y b hlb hb2) rfl Try.func66 rfl rfl (ovL_cons rfl ovL_nil) (.cons .i .nil) (hd 11 rfl) ?_ (fun ch hp => by simp at hp)
  rintro y hy; injection hy with hy; subst hy; refine jo_l (ly_not rfl) (hd 12 rfl) ?_; refine jo_nil ?_; refine jc_litf rfl ?_; refine jc_skip ?_; refine jc_seq ?_; refine jc_seq ?_; refine jc_region ?_; refine jo_l (ly_mv rfl) (hd 13 rfl) ?_; refine jo_l (ly_ff (ly_eqS rfl rfl) (fun h => hs0 (by rw [h]; rfl))) (hd 14 rfl) ?_; refine jo_nil ?_; refine jc_litf rfl ?_; refine jc_skip ?_; refine jc_seq ?_; refine jc_region ?_; refine jo_l (ly_mv rfl) (hd 15 rfl) ?_; refine jo_l (ly_lens und9 rfl) (hd 16 rfl) ?_; refine jo_h (hy_mk (m := s.size) el1039 rfl rfl rfl (by show 8 * s.size ≤ _; omega) (by unfold maxLen; omega) rfl) (hd 17 rfl) ?_; refine jo_l (ly_as rfl) (hd 6 rfl) ?_; refine jo_nil ?_; refine jc_seq ?_; refine jc_seq ?_; refine jc_H (H' := [⟨3, 1, 0, true, ints .i64 (cpI (dgs s) 0)⟩]) (by rw [← cpI_0, dgs_len]; rfl) ?_; refine jc_region ?_; refine jo_l (ly_mv rfl) (hd 18 rfl) ?_; refine jo_l (ly_lens und9 rfl) (hd 19 rfl) ?_; refine jo_l (ly_mv rfl) (hd 20 rfl) ?_; refine jo_nil ?_; refine jc_block ?_
  refine jc_loopF (G := Nat) (fun i => i ≤ s.size) (fun i => [(20, .i .i64 (i : Int)), (4, .u), (5, .u), (7, .u), (8, .u), (9, .u), (21, .u), (22, .u), (23, .u), (24, .u), (25, .u), (26, .u), (27, .u), (28, .u), (29, .u), (30, .u), (31, .u), (32, .u), (33, .u), (34, .u), (35, .u), (36, .u), (37, .u), (38, .u), (39, .u), (40, .u), (41, .u), (42, .u), (43, .u), (44, .u), (45, .u), (46, .u), (47, .u), (48, .u), (49, .u), (50, .u), (51, .u), (52, .u), (53, .u), (54, .u)]) (fun i => [⟨3, 1, 0, true, ints .i64 (cpI (dgs s) i)⟩]) (fun i => s.size - i) 0 ?_ ?_ rfl ?_
  · exact Nat.zero_le _
  · exact (.cons rfl (.u (.u (.u (.u (.u (.u (.u (.u (.u (.u (.u (.u (.u (.u (.u (.u (.u (.u (.u (.u (.u (.u (.u (.u (.u (.u (.u (.u (.u (.u (.u (.u (.u (.u (.u (.u (.u (.u (.u .nil))))))))))))))))))))))))))))))))))))))))
  · rintro i hi
    have hcl := cpI_len (l := dgs s) (i := i) (by rw [dgs_len]; omega)
    rw [dgs_len] at hcl
    have hbr := byteAt_range s i
    have hdr := dgv_rng hbr.1 hbr.2
    refine jc_seq ?_; refine jc_region ?_; refine jo_l (ly_lt rfl rfl) (hd 21 rfl) ?_; refine jo_nil ?_; refine jc_seq ?_
    refine jc_if rfl (fun h3 => ?_) (fun h3 => ?_)
    · refine jc_skip ?_; refine jc_seq ?_; refine jc_block ?_; refine jc_seq ?_; refine jc_region ?_; refine jo_l (ly_mv rfl) (hd 22 rfl) ?_; refine jo_l (ly_as rfl) (hd 7 rfl) ?_; refine jo_nil ?_; refine jc_seq ?_; refine jc_region ?_; refine jo_l (ly_as rfl) (hd 8 rfl) ?_; refine jo_nil ?_
      refine jc_meetH (G := Unit) (fun _ => True) (fun _ => [(7, .i .i64 (i : Int)), (8, .i .i64 (dgv (byteAt s i))), (9, .u), (23, .u), (24, .u), (25, .u), (26, .u), (27, .u), (28, .u), (29, .u), (30, .u), (31, .u), (32, .u), (33, .u), (34, .u), (35, .u), (36, .u), (37, .u), (38, .u), (39, .u), (40, .u), (41, .u), (42, .u), (43, .u), (44, .u), (45, .u), (46, .u)]) ?_ ?_
      · refine jc_seq ?_; refine jc_region ?_; refine jo_l (ly_mv rfl) (hd 23 rfl) ?_; refine jo_l (ly_mv rfl) (hd 24 rfl) ?_; refine jo_l (ly_ixs (i := i) und9 rfl rfl (by first | rfl | omega) (by omega)) (hd 25 rfl) ?_; refine jo_l (ly_as rfl) (hd 9 rfl) ?_; refine jo_nil ?_; refine jc_block ?_; refine jc_seq ?_; refine jc_region ?_; refine jo_l (ly_mv rfl) (hd 27 rfl) ?_; refine jo_l (ly_ge rfl rfl) (hd 28 rfl) ?_; refine jo_l (ly_mv rfl) (hd 29 rfl) ?_
        refine jo_ifp 29 rfl (fun h4 => ?_) (fun h4 => ?_)
        · refine jo_g 29 rfl rfl (ly_mv rfl) (hd 30 rfl) ?_; refine jo_g 29 rfl rfl (ly_le rfl rfl) (hd 31 rfl) ?_; refine jo_l (ly_pick_t rfl rfl) (hd 32 rfl) ?_; refine jo_l (ly_as rfl) (hd 26 rfl) ?_; refine jo_nil ?_
          refine jc_if rfl (fun h5 => ?_) (fun h5 => ?_)
          · refine jc_region ?_; refine jo_l (ly_mv rfl) (hd 33 rfl) ?_; refine jo_l (ly_sub rfl rfl (wrap_u8 (by omega) (by omega))) (hd 34 rfl) ?_; refine jo_l (ly_conv und5 und3 rfl (wrap_i64 (by omega) (by omega))) (hd 35 rfl) ?_; refine jo_l (ly_as rfl) (hd 8 rfl) ?_; refine jo_nil ?_
            refine ⟨(), ?_, rfl, cov_n 16 rfl rfl ?_⟩
            · trivial
            · exact (.cons rfl (.cons (by show some (V.i .i64 _) = some (V.i .i64 _); congr 1; congr 1; first | (exfalso; omega) | skip; unfold dgv; first | rw [if_pos (by omega)] | rw [if_neg (by omega), if_pos (by omega)] | rw [if_neg (by omega), if_neg (by omega)]) (.u (.u (.u (.u (.u (.u (.u (.u (.u (.u (.u (.u (.u (.u (.u (.u (.u (.u (.u (.u (.u (.u (.u (.u (.u .nil)))))))))))))))))))))))))))
          · refine jc_seq ?_; refine jc_region ?_; refine jo_l (ly_mv rfl) (hd 37 rfl) ?_; refine jo_l (ly_ge rfl rfl) (hd 38 rfl) ?_; refine jo_l (ly_mv rfl) (hd 39 rfl) ?_
            refine jo_ifp 39 rfl (fun h6 => ?_) (fun h6 => ?_)
            · refine jo_g 39 rfl rfl (ly_mv rfl) (hd 40 rfl) ?_; refine jo_g 39 rfl rfl (ly_le rfl rfl) (hd 41 rfl) ?_; refine jo_l (ly_pick_t rfl rfl) (hd 42 rfl) ?_; refine jo_l (ly_as rfl) (hd 36 rfl) ?_; refine jo_nil ?_
              refine jc_if rfl (fun h7 => ?_) (fun h7 => ?_)
              · refine jc_region ?_; refine jo_l (ly_mv rfl) (hd 43 rfl) ?_; refine jo_l (ly_sub rfl rfl (wrap_u8 (by omega) (by omega))) (hd 44 rfl) ?_; refine jo_l (ly_conv und5 und3 rfl (wrap_i64 (by omega) (by omega))) (hd 45 rfl) ?_; refine jo_l (ly_add rfl rfl (wrap_i64 (by omega) (by omega))) (hd 46 rfl) ?_; refine jo_l (ly_as rfl) (hd 8 rfl) ?_; refine jo_nil ?_
                refine ⟨(), ?_, rfl, cov_n 25 rfl rfl ?_⟩
                · trivial
                · exact (.cons rfl (.cons (by show some (V.i .i64 _) = some (V.i .i64 _); congr 1; congr 1; first | (exfalso; omega) | skip; unfold dgv; first | rw [if_pos (by omega)] | rw [if_neg (by omega), if_pos (by omega)] | rw [if_neg (by omega), if_neg (by omega)]) (.u (.u (.u (.u (.u (.u (.u (.u (.u (.u (.u (.u (.u (.u (.u (.u (.u (.u (.u (.u (.u (.u (.u (.u (.u .nil)))))))))))))))))))))))))))
              · refine jc_skip ?_
                refine ⟨(), ?_, rfl, cov_n 20 rfl rfl ?_⟩
                · trivial
                · exact (.cons rfl (.cons (by show some (V.i .i64 _) = some (V.i .i64 _); congr 1; congr 1; first | (exfalso; omega) | skip; unfold dgv; first | rw [if_pos (by omega)] | rw [if_neg (by omega), if_pos (by omega)] | rw [if_neg (by omega), if_neg (by omega)]) (.u (.u (.u (.u (.u (.u (.u (.u (.u (.u (.u (.u (.u (.u (.u (.u (.u (.u (.u (.u (.u (.u (.u (.u (.u .nil)))))))))))))))))))))))))))
            · refine jo_s 39 rfl rfl rfl (hd 40 rfl) ?_; refine jo_s 39 rfl rfl rfl (hd 41 rfl) ?_; refine jo_l (ly_pick_f rfl rfl) (hd 42 rfl) ?_; refine jo_l (ly_as rfl) (hd 36 rfl) ?_; refine jo_nil ?_; refine jc_litf rfl ?_; refine jc_skip ?_
              refine ⟨(), ?_, rfl, cov_n 20 rfl rfl ?_⟩
              · trivial
              · exact (.cons rfl (.cons (by show some (V.i .i64 _) = some (V.i .i64 _); congr 1; congr 1; first | (exfalso; omega) | skip; unfold dgv; first | rw [if_pos (by omega)] | rw [if_neg (by omega), if_pos (by omega)] | rw [if_neg (by omega), if_neg (by omega)]) (.u (.u (.u (.u (.u (.u (.u (.u (.u (.u (.u (.u (.u (.u (.u (.u (.u (.u (.u (.u (.u (.u (.u (.u (.u .nil)))))))))))))))))))))))))))
        · refine jo_s 29 rfl rfl rfl (hd 30 rfl) ?_; refine jo_s 29 rfl rfl rfl (hd 31 rfl) ?_; refine jo_l (ly_pick_f rfl rfl) (hd 32 rfl) ?_; refine jo_l (ly_as rfl) (hd 26 rfl) ?_; refine jo_nil ?_; refine jc_litf rfl ?_; refine jc_seq ?_; refine jc_region ?_; refine jo_l (ly_mv rfl) (hd 37 rfl) ?_; refine jo_l (ly_ge rfl rfl) (hd 38 rfl) ?_; refine jo_l (ly_mv rfl) (hd 39 rfl) ?_
          refine jo_ifp 39 rfl (fun h10 => ?_) (fun h10 => ?_)
          · refine jo_g 39 rfl rfl (ly_mv rfl) (hd 40 rfl) ?_; refine jo_g 39 rfl rfl (ly_le rfl rfl) (hd 41 rfl) ?_; refine jo_l (ly_pick_t rfl rfl) (hd 42 rfl) ?_; refine jo_l (ly_as rfl) (hd 36 rfl) ?_; refine jo_nil ?_
            refine jc_if rfl (fun h11 => ?_) (fun h11 => ?_)
            · refine jc_region ?_; refine jo_l (ly_mv rfl) (hd 43 rfl) ?_; refine jo_l (ly_sub rfl rfl (wrap_u8 (by omega) (by omega))) (hd 44 rfl) ?_; refine jo_l (ly_conv und5 und3 rfl (wrap_i64 (by omega) (by omega))) (hd 45 rfl) ?_; refine jo_l (ly_add rfl rfl (wrap_i64 (by omega) (by omega))) (hd 46 rfl) ?_; refine jo_l (ly_as rfl) (hd 8 rfl) ?_; refine jo_nil ?_
              refine ⟨(), ?_, rfl, cov_n 25 rfl rfl ?_⟩
              · trivial
              · exact (.cons rfl (.cons (by show some (V.i .i64 _) = some (V.i .i64 _); congr 1; congr 1; first | (exfalso; omega) | skip; unfold dgv; first | rw [if_pos (by omega)] | rw [if_neg (by omega), if_pos (by omega)] | rw [if_neg (by omega), if_neg (by omega)]) (.u (.u (.u (.u (.u (.u (.u (.u (.u (.u (.u (.u (.u (.u (.u (.u (.u (.u (.u (.u (.u (.u (.u (.u (.u .nil)))))))))))))))))))))))))))
            · refine jc_skip ?_
              refine ⟨(), ?_, rfl, cov_n 20 rfl rfl ?_⟩
              · trivial
              · exact (.cons rfl (.cons (by show some (V.i .i64 _) = some (V.i .i64 _); congr 1; congr 1; first | (exfalso; omega) | skip; unfold dgv; first | rw [if_pos (by omega)] | rw [if_neg (by omega), if_pos (by omega)] | rw [if_neg (by omega), if_neg (by omega)]) (.u (.u (.u (.u (.u (.u (.u (.u (.u (.u (.u (.u (.u (.u (.u (.u (.u (.u (.u (.u (.u (.u (.u (.u (.u .nil)))))))))))))))))))))))))))
          · refine jo_s 39 rfl rfl rfl (hd 40 rfl) ?_; refine jo_s 39 rfl rfl rfl (hd 41 rfl) ?_; refine jo_l (ly_pick_f rfl rfl) (hd 42 rfl) ?_; refine jo_l (ly_as rfl) (hd 36 rfl) ?_; refine jo_nil ?_; refine jc_litf rfl ?_; refine jc_skip ?_
            refine ⟨(), ?_, rfl, cov_n 20 rfl rfl ?_⟩
            · trivial
            · exact (.cons rfl (.cons (by show some (V.i .i64 _) = some (V.i .i64 _); congr 1; congr 1; first | (exfalso; omega) | skip; unfold dgv; first | rw [if_pos (by omega)] | rw [if_neg (by omega), if_pos (by omega)] | rw [if_neg (by omega), if_neg (by omega)]) (.u (.u (.u (.u (.u (.u (.u (.u (.u (.u (.u (.u (.u (.u (.u (.u (.u (.u (.u (.u (.u (.u (.u (.u (.u .nil)))))))))))))))))))))))))))
      · rintro _ _; refine jc_seq ?_; refine jc_seq ?_; refine jc_region ?_; refine jo_l (ly_mv rfl) (hd 47 rfl) ?_; refine jo_l (ly_mv rfl) (hd 48 rfl) ?_; refine jo_l (ly_ff (ly_ge rfl rfl) (by have := hval i (by omega); omega)) (hd 49 rfl) ?_; refine jo_nil ?_; refine jc_litf rfl ?_; refine jc_skip ?_; refine jc_region ?_; refine jo_l (ly_mv rfl) (hd 50 rfl) ?_; refine jo_l (ly_mv rfl) (hd 51 rfl) ?_; refine jo_l (ly_mv rfl) (hd 52 rfl) ?_; refine jo_l (ly_ia (i := i) sl1039 rfl rfl rfl (by first | rfl | omega) (by omega) rfl) (hd 53 rfl) ?_; refine jo_st (sy_storei rfl rfl rfl one3 (by first | omega | (dsimp only; omega))) ?_; refine jo_nil ?_; refine jc_region ?_; refine jo_l (ly_add rfl rfl (r := ((i + 1 : Nat) : Int)) (by rw [wrap_i64 (by omega) (by omega)]; omega)) (hd 54 rfl) ?_; refine jo_l (ly_mv rfl) (hd 20 rfl) ?_; refine jo_nil ?_
        refine ⟨i + 1, ?_, ?_, (by show [(⟨3, 1, 0, true, ints .i64 _⟩ : Ob)] = [⟨3, 1, 0, true, ints .i64 _⟩]; rw [← cpI_set (by rw [dgs_len]; omega), dgs_getD (by omega)]), cov_n 80 rfl rfl ?_⟩
        · omega
        · omega
        · exact (.cons rfl (.u (.u (.u (.u (.u (.u (.u (.u (.u (.u (.u (.u (.u (.u (.u (.u (.u (.u (.u (.u (.u (.u (.u (.u (.u (.u (.u (.u (.u (.u (.u (.u (.u (.u (.u (.u (.u (.u (.u .nil))))))))))))))))))))))))))))))))))))))))
    · refine jc_exit ?_; refine jc_seq ?_
      obtain rfl : i = s.size := by omega
      refine jc_frz (k := .i64) (l := cpI (dgs s) s.size) (l' := dgs s) 6 rfl rfl (by rw [hcl]; exact Nat.le_of_eq (Nat.zero_add _)) (by rw [List.drop_zero, List.take_of_length_le (by omega)]; have h := cpI_all (dgs s); rwa [dgs_len] at h) hL ?_; refine jc_region ?_; refine jo_l (ly_mv rfl) (hd 55 rfl) ?_; refine jo_l (ly_mv rfl) (hd 56 rfl) ?_
      refine jo_call Try.f67 (hB) rfl Try.func67 rfl rfl (ovL_cons rfl (ovL_cons rfl ovL_nil)) (.cons .n (.cons .i .nil)) (hd 57 rfl) ?_ (fun ch hp => by simp at hp)
      rintro y hy; injection hy with hy; subst hy; refine jo_l (ly_ext rfl rfl) (hd 58 rfl) ?_; refine jo_l (ly_ext rfl rfl) (hd 59 rfl) ?_; refine jo_l (ly_as rfl) (hd 4 rfl) ?_; refine jo_l (ly_as rfl) (hd 5 rfl) ?_; refine jo_nil ?_; refine jc_ret ?_
      refine ⟨_, _, (.cons rfl (.cons rfl .nil)), (.t1 .nn (.t1 .i .t0)), ?_⟩
      exact rfl
end Go.Proofs.Ytcfdclehmpfkcaa.Vc

/- Contracts of surdlaw05.lives, NumeralNames, right. -/
namespace Go.Proofs.Ytcfdclehmpfkcaa.Vc
open Go Go.RowKit
end Go.Proofs.Ytcfdclehmpfkcaa.Vc

/- Contract of mul.Pow. -/
namespace Go.Proofs.Ytcfdclehmpfkcaa.Vc
open Go Go.RowKit
set_option maxHeartbeats 4000000 in
theorem Pow_v (v n : Nat) (hv : 2 ≤ v) (hlv0 : lenV (v : Int) ≤ 67108864) (hf : lenV (PW v n) ≤ 67108864) : Spec Try.prog 112 [.n false .u64 (lm (v : Int)), .i .i64 (n : Int)] (fun o => o = .ret (.t [.n false .u64 (lm (PW v n)), .i .i64 0])) := by
  refine spec_of' [(0, .n false .u64 (lm (v : Int))), (1, .i .i64 (n : Int))] rfl Try.func112 rfl (Nat.le_of_ble_eq_true rfl) fun Γ hN hds hL hR => ?_
  have hd : ∀ d, Nat.blt d 63 = true → d < Γ.N := fun d h => by rw [hN]; exact Nat.le_of_ble_eq_true h
  have hF1 : Spec Try.prog 113 [.i .u64 1] (fun o => o = .ret (.n true .u64 (lm (PW v 0)))) := by have h := From_s 1; rwa [show (if (1 : Int) = 0 then [] else [(1 : Int)]) = lm (PW v 0) from by rw [PW_0]; exact fl_lm (by decide) (by decide)] at h
  have hlen := PW_len (n := n) hv
  have hn1 := PW_n (n := n) hv
  have hl2 := lenV_2 hv
  have hlmv := lenV_lm hlv0
  refine jc_seq ?_; refine jc_region ?_; refine jo_l (ly_as rfl) (hd 4 rfl) ?_; refine jo_l (ly_as rfl) (hd 5 rfl) ?_; refine jo_nil ?_; refine jc_seq ?_; refine jc_seq ?_; refine jc_region ?_; refine jo_l (ly_mv rfl) (hd 10 rfl) ?_; refine jo_l (ly_ff (ly_lt rfl rfl) (by omega)) (hd 11 rfl) ?_; refine jo_nil ?_; refine jc_litf rfl ?_; refine jc_skip ?_; refine jc_seq ?_; refine jc_region ?_; refine jo_l (ly_mv rfl) (hd 12 rfl) ?_
  refine jo_call Try.f99 (Norm_v (v : Int) (by omega)) rfl Try.func99 rfl rfl (ovL_cons rfl ovL_nil) (.cons .n .nil) (hd 13 rfl) ?_ (fun ch hp => by simp at hp)
  rintro y hy; injection hy with hy; subst hy; refine jo_l (ly_as rfl) (hd 0 rfl) ?_; refine jo_nil ?_; refine jc_seq ?_; refine jc_seq ?_; refine jc_region ?_; refine jo_l (ly_mv rfl) (hd 14 rfl) ?_; refine jo_l (ly_eq rfl rfl) (hd 15 rfl) ?_; refine jo_nil ?_
  refine jc_if rfl (fun h2 => ?_) (fun h2 => ?_)
  · obtain rfl : n = 0 := by omega
    refine jc_seq ?_; refine jc_region ?_
    refine jo_call Try.f113 (hF1) rfl Try.func113 rfl rfl (ovL_cons rfl ovL_nil) (.cons .i .nil) (hd 16 rfl) ?_ (fun ch hp => by simp at hp)
    rintro y hy; injection hy with hy; subst hy; refine jo_l (ly_as rfl) (hd 4 rfl) ?_; refine jo_l (ly_as rfl) (hd 5 rfl) ?_; refine jo_nil ?_; refine jc_ret ?_
    refine ⟨_, _, (.cons rfl (.cons rfl .nil)), (.t1 .nn (.t1 .i .t0)), ?_⟩
    rfl
  · refine jc_skip ?_; refine jc_seq ?_; refine jc_region ?_; refine jo_l (ly_mv rfl) (hd 17 rfl) ?_
    refine jo_call Try.f33 (Length_v (v : Int) (by omega)) rfl Try.func33 rfl rfl (ovL_cons rfl ovL_nil) (.cons .n .nil) (hd 18 rfl) ?_ (fun ch hp => by simp at hp)
    rintro y hy; injection hy with hy; subst hy; refine jo_l (ly_as rfl) (hd 6 rfl) ?_; refine jo_nil ?_; refine jc_seq ?_; refine jc_seq ?_; refine jc_region ?_; refine jo_l (ly_mv rfl) (hd 19 rfl) ?_; refine jo_l (ly_ff (ly_le rfl rfl) (by omega)) (hd 20 rfl) ?_; refine jo_nil ?_; refine jc_litf rfl ?_; refine jc_skip ?_; refine jc_seq ?_; refine jc_seq ?_; refine jc_region ?_; refine jo_l (ly_mv rfl) (hd 22 rfl) ?_; refine jo_l (ly_ff (ly_gt rfl rfl) (by omega)) (hd 23 rfl) ?_; refine jo_l (ly_mv rfl) (hd 24 rfl) ?_; refine jo_g 24 rfl rfl (ly_mv rfl) (hd 25 rfl) ?_; refine jo_g 24 rfl rfl (ly_sub rfl rfl (r := ((lenV (v : Int) - 1 : Nat) : Int)) (by rw [wrap_i64 (by omega) (by omega)]; omega)) (hd 26 rfl) ?_; refine jo_g 24 rfl rfl (ly_mv rfl) (hd 27 rfl) ?_; refine jo_g 24 rfl rfl (ly_mul rfl rfl (r := (((lenV (v : Int) - 1) * n : Nat) : Int)) (by rw [← Int.natCast_mul]; exact wrap_i64 (by omega) (by omega))) (hd 28 rfl) ?_; refine jo_g 24 rfl rfl (ly_add rfl rfl (r := (((lenV (v : Int) - 1) * n + 1 : Nat) : Int)) (by rw [show (((lenV (v : Int) - 1) * n : Nat) : Int) + 1 = (((lenV (v : Int) - 1) * n + 1 : Nat) : Int) from rfl]; exact wrap_i64 (by omega) (by omega))) (hd 29 rfl) ?_; refine jo_g 24 rfl rfl (ly_ff (ly_gt rfl rfl) (by omega)) (hd 30 rfl) ?_; refine jo_l (ly_pick_f rfl rfl) (hd 31 rfl) ?_; refine jo_nil ?_; refine jc_litf rfl ?_; refine jc_skip ?_; refine jc_seq ?_; refine jc_region ?_
    refine jo_call Try.f113 (hF1) rfl Try.func113 rfl rfl (ovL_cons rfl ovL_nil) (.cons .i .nil) (hd 32 rfl) ?_ (fun ch hp => by simp at hp)
    rintro y hy; injection hy with hy; subst hy; refine jo_l (ly_as rfl) (hd 7 rfl) ?_; refine jo_nil ?_; refine jc_seq ?_; refine jc_seq ?_; refine jc_region ?_; refine jo_l (ly_as rfl) (hd 8 rfl) ?_; refine jo_nil ?_; refine jc_block ?_
    refine jc_loopF (G := Nat) (fun k => k ≤ 63) (fun k => [(7, .n true .u64 (lm (PW v (n / 2 ^ k)))), (8, .i .i64 ((k : Int) - 1)), (4, .u), (5, .u), (9, .u), (33, .u), (34, .u), (35, .u), (36, .u), (37, .u), (38, .u), (39, .u), (40, .u), (41, .u), (42, .u), (43, .u), (44, .u), (45, .u), (46, .u), (47, .u), (48, .u), (49, .u), (50, .u), (51, .u), (52, .u), (53, .u), (54, .u), (55, .u), (56, .u), (57, .u), (58, .u), (59, .u), (60, .u), (61, .u)]) (fun _ => _) (fun k => k) 63 ?_ ?_ rfl ?_
    · exact Nat.le_refl _
    · exact (.cons (by show some (V.n _ _ _) = some (V.n _ _ _); rw [show n / 2 ^ 63 = 0 from Nat.div_eq_of_lt (by omega)]) (.cons rfl (.u (.u (.u (.u (.u (.u (.u (.u (.u (.u (.u (.u (.u (.u (.u (.u (.u (.u (.u (.u (.u (.u (.u (.u (.u (.u (.u (.u (.u (.u (.u (.u .nil))))))))))))))))))))))))))))))))))
    · rintro k hk; refine jc_seq ?_; refine jc_seq ?_; refine jc_region ?_; refine jo_l (ly_mv rfl) (hd 33 rfl) ?_; refine jo_l (ly_ge rfl rfl) (hd 34 rfl) ?_; refine jo_nil ?_
      refine jc_if rfl (fun h5 => ?_) (fun h5 => ?_)
      · have hk0 : 0 < k := by omega
        have hS : 2 * (n / 2 ^ k) ≤ n := by rw [pm_half hk0]; have := Nat.div_le_self n (2 ^ (k - 1)); omega
        have hO := Nat.le_trans (PW_mono (m := (n / 2 ^ k)) hv (by omega)) hf
        have hOl := lenV_lm hO
        have hO2 := Nat.le_trans (PW_mono hv hS) hf
        have hO2l := lenV_lm hO2
        have hone := lm_ne (PW_pos (n := (n / 2 ^ k)) hv)
        refine jc_skip ?_; refine jc_seq ?_; refine jc_block ?_; refine jc_seq ?_; refine jc_region ?_; refine jo_l (ly_as rfl) (hd 9 rfl) ?_; refine jo_nil ?_; refine jc_seq ?_; refine jc_seq ?_; refine jc_region ?_; refine jo_l (ly_mv rfl) (hd 37 rfl) ?_; refine jo_l (ly_lenn sl28 rfl) (hd 38 rfl) ?_; refine jo_l (ly_tt (ly_gt rfl rfl) (by have := List.length_pos_iff.2 hone; omega)) (hd 39 rfl) ?_; refine jo_nil ?_; refine jc_litt rfl ?_; refine jc_seq ?_; refine jc_region ?_; refine jo_l (ly_mv rfl) (hd 41 rfl) ?_
        refine jo_call Try.f117 (Square_l (lm (PW v (n / 2 ^ k))) (by omega) (lm_u _)) rfl Try.func117 rfl rfl (ovL_cons rfl ovL_nil) (.cons .n .nil) (hd 42 rfl) ?_ (fun ch hp => by simp at hp)
        rintro y ⟨r2, e2, hy, he2⟩; injection hy with hy; subst hy
        rw [PW_sq] at he2
        obtain ⟨rfl, rfl⟩ := errL_fit he2 hO2
        refine jo_l (ly_mv rfl) (hd 40 rfl) ?_; refine jo_l (ly_ext rfl rfl) (hd 43 rfl) ?_; refine jo_l (ly_ext rfl rfl) (hd 44 rfl) ?_; refine jo_l (ly_as rfl) (hd 7 rfl) ?_; refine jo_l (ly_as rfl) (hd 9 rfl) ?_; refine jo_nil ?_; refine jc_seq ?_; refine jc_region ?_; refine jo_l (ly_mv rfl) (hd 45 rfl) ?_; refine jo_l (ly_ff (ly_ne rfl rfl) (by decide)) (hd 46 rfl) ?_; refine jo_nil ?_; refine jc_litf rfl ?_; refine jc_skip ?_; refine jc_seq ?_; refine jc_region ?_; refine jo_l (ly_mv rfl) (hd 48 rfl) ?_; refine jo_l (ly_mv rfl) (hd 49 rfl) ?_; refine jo_l (ly_is (ly_shr rfl rfl (by omega) rfl) (show V.i .i64 _ = V.i .i64 ((n / 2 ^ (k - 1) : Nat) : Int) from congrArg (V.i .i64) (shr_nat (by rw [show ((k : Int) - 1).toNat = k - 1 by omega, Nat.min_eq_left (by have h : IntKind.i64.bits = 64 := rfl; omega)])))) (hd 50 rfl) ?_; refine jo_l (ly_is (ly_bit (by simp) rfl rfl rfl) (show V.i .i64 _ = V.i .i64 ((n / 2 ^ (k - 1) % 2 : Nat) : Int) from congrArg (V.i .i64) (and1i (by have := Nat.div_le_self n (2 ^ (k - 1)); omega)))) (hd 51 rfl) ?_; refine jo_l (ly_eq rfl rfl) (hd 52 rfl) ?_; refine jo_nil ?_
        refine jc_if rfl (fun h8 => ?_) (fun h8 => ?_)
        · have hb1 := pm_bit1 hk0 h8
          have hO3 := Nat.le_trans (PW_mono (m := n / 2 ^ (k - 1)) hv (Nat.div_le_self _ _)) hf
          refine jc_seq ?_; refine jc_region ?_; refine jo_l (ly_mv rfl) (hd 54 rfl) ?_; refine jo_l (ly_mv rfl) (hd 55 rfl) ?_
          refine jo_call Try.f61 (Mul_l (lm (PW v (2 * (n / 2 ^ k)))) (lm (v : Int)) (by omega) (by omega) (lm_u _) (lm_u _)) rfl Try.func61 rfl rfl (ovL_cons rfl (ovL_cons rfl ovL_nil)) (.cons .n (.cons .n .nil)) (hd 56 rfl) ?_ (fun ch hp => by simp at hp)
          rintro y ⟨r3, e3, hy, he3⟩; injection hy with hy; subst hy
          rw [PW_s, hb1] at he3
          obtain ⟨rfl, rfl⟩ := errL_fit he3 hO3
          refine jo_l (ly_mv rfl) (hd 53 rfl) ?_; refine jo_l (ly_ext rfl rfl) (hd 57 rfl) ?_; refine jo_l (ly_ext rfl rfl) (hd 58 rfl) ?_; refine jo_l (ly_as rfl) (hd 7 rfl) ?_; refine jo_l (ly_as rfl) (hd 9 rfl) ?_; refine jo_nil ?_; refine jc_seq ?_; refine jc_region ?_; refine jo_l (ly_mv rfl) (hd 59 rfl) ?_; refine jo_l (ly_ff (ly_ne rfl rfl) (by decide)) (hd 60 rfl) ?_; refine jo_nil ?_; refine jc_litf rfl ?_; refine jc_skip ?_; refine jc_region ?_; refine jo_l (ly_mv rfl) (hd 35 rfl) ?_; refine jo_l (ly_sub rfl rfl (wrap_i64 (by omega) (by omega))) (hd 36 rfl) ?_; refine jo_l (ly_as rfl) (hd 8 rfl) ?_; refine jo_nil ?_
          refine ⟨k - 1, ?_, ?_, rfl, cov_n 67 rfl rfl ?_⟩
          · omega
          · omega
          · exact (.cons (by show some (V.n _ _ _) = some (V.n _ _ _); first | rfl | rw [hb0]) (.cons (by show some (V.i .i64 _) = some (V.i .i64 _); congr 2; omega) (.u (.u (.u (.u (.u (.u (.u (.u (.u (.u (.u (.u (.u (.u (.u (.u (.u (.u (.u (.u (.u (.u (.u (.u (.u (.u (.u (.u (.u (.u (.u (.u .nil))))))))))))))))))))))))))))))))))
        · have hb0 := pm_bit0 hk0 h8
          refine jc_skip ?_; refine jc_region ?_; refine jo_l (ly_mv rfl) (hd 35 rfl) ?_; refine jo_l (ly_sub rfl rfl (wrap_i64 (by omega) (by omega))) (hd 36 rfl) ?_; refine jo_l (ly_as rfl) (hd 8 rfl) ?_; refine jo_nil ?_
          refine ⟨k - 1, ?_, ?_, rfl, cov_n 57 rfl rfl ?_⟩
          · omega
          · omega
          · exact (.cons (by show some (V.n _ _ _) = some (V.n _ _ _); first | rfl | rw [hb0]) (.cons (by show some (V.i .i64 _) = some (V.i .i64 _); congr 2; omega) (.u (.u (.u (.u (.u (.u (.u (.u (.u (.u (.u (.u (.u (.u (.u (.u (.u (.u (.u (.u (.u (.u (.u (.u (.u (.u (.u (.u (.u (.u (.u (.u .nil))))))))))))))))))))))))))))))))))
      · obtain rfl : k = 0 := by omega
        refine jc_exit ?_; refine jc_seq ?_; refine jc_region ?_; refine jo_l (ly_mv rfl) (hd 62 rfl) ?_; refine jo_l (ly_as rfl) (hd 4 rfl) ?_; refine jo_l (ly_as rfl) (hd 5 rfl) ?_; refine jo_nil ?_; refine jc_ret ?_
        refine ⟨_, _, (.cons rfl (.cons rfl .nil)), (.t1 .nn (.t1 .i .t0)), ?_⟩
        rw [Nat.pow_zero, Nat.div_one]
end Go.Proofs.Ytcfdclehmpfkcaa.Vc

/- Contract of surdref05.Digits. -/
namespace Go.Proofs.Ytcfdclehmpfkcaa.Vc
open Go Go.RowKit
end Go.Proofs.Ytcfdclehmpfkcaa.Vc

/- Contracts of surdlaw05.ints, surdref05.Print, numeral.Length, Digits. -/
namespace Go.Proofs.Ytcfdclehmpfkcaa.Vc
open Go Go.RowKit
end Go.Proofs.Ytcfdclehmpfkcaa.Vc
