/- What the lexer's parts compute, in plain Lean: classes of bytes, runs. -/
import Derived.Test.YtnpbpiommpgikaaVcM
set_option linter.unusedVariables false
set_option linter.unusedSimpArgs false
namespace Go.Proofs.Ytnpbpiommpgikaa.Vc
open Go Go.RowKit

/-- What a byte is: blank, digit, letter, sign, nothing. -/
def cls (b : Int) : Int :=
  if b = 9 ∨ b = 10 ∨ b = 13 ∨ b = 32 then 1
  else if 48 ≤ b ∧ b ≤ 57 then 2
  else if 97 ≤ b ∧ b ≤ 122 then 3
  else if b = 40 ∨ b = 41 ∨ b = 44 ∨ b = 43 ∨ b = 45 ∨ b = 42 ∨ b = 47 then 4
  else 0
def tblI : List Int := (List.range 256).map fun (b : Nat) => cls (b : Int)
def tbl : List V := ints .i64 tblI
theorem tbl_at {b : Int} (h0 : 0 ≤ b) (h1 : b < 256) : (tbl.drop (b.toNat * 1))[0]? = some (.i .i64 (cls b)) := by
  have : b.toNat < 256 := by omega
  rw [Nat.mul_one, List.getElem?_drop, Nat.add_zero]
  unfold tbl
  rw [ints_at]
  unfold tblI
  rw [List.getElem?_map, List.getElem?_range this]
  show some (V.i IntKind.i64 (cls (b.toNat : Int))) = _
  rw [Int.toNat_of_nonneg h0]
theorem tbl_len : tbl.length = 256 := by simp [tbl, tblI, ints_length]
/-- A list with a value at many places. -/
def setAll (l : List Int) (bs : List Int) (v : Int) : List Int := bs.foldl (fun l b => l.set b.toNat v) l
theorem setAll_length (bs : List Int) (v : Int) : ∀ l : List Int, (setAll l bs v).length = l.length := by
  induction bs with
  | nil => intro l; rfl
  | cons b bs ih => intro l; show (setAll (l.set b.toNat v) bs v).length = _; rw [ih, List.length_set]
theorem setAll_take {l bs : List Int} {v : Int} {i : Nat} (h : i < bs.length) : setAll l (bs.take (i + 1)) v = (setAll l (bs.take i) v).set (bs.getD i 0).toNat v := by
  have e : bs.getD i 0 = bs[i] := by rw [List.getD_eq_getElem?_getD, List.getElem?_eq_getElem h]; rfl
  rw [e]
  unfold setAll
  rw [List.take_succ_eq_append_getElem h, List.foldl_append]
  rfl
def z256 : List Int := List.replicate 256 0
def blks : List Int := [9, 10, 13, 32]
def dgts : List Int := [48, 49, 50, 51, 52, 53, 54, 55, 56, 57]
def lets : List Int := [97, 98, 99, 100, 101, 102, 103, 104, 105, 106, 107, 108, 109, 110, 111, 112, 113, 114, 115, 116, 117, 118, 119, 120, 121, 122]
def sgns : List Int := [40, 41, 44, 43, 45, 42, 47]
theorem all_classes : setAll (setAll (setAll (setAll z256 (blks.take 4) 1) (dgts.take 10) 2) (lets.take 26) 3) (sgns.take 7) 4 = tblI := by kernel_rfl
theorem z256_len : z256.length = 256 := List.length_replicate
theorem z256_cV : (List.replicate 256 (Value.int .i64 0)).map cV = ints .i64 z256 := by unfold ints z256; rw [List.map_replicate, List.map_replicate]; rfl
theorem blks_in {i : Nat} (h : i < 4) : 0 ≤ blks.getD i 0 ∧ (blks.getD i 0).toNat < 256 := by
  match i, h with | 0, _ => decide | 1, _ => decide | 2, _ => decide | 3, _ => decide
theorem sgns_in {i : Nat} (h : i < 7) : 0 ≤ sgns.getD i 0 ∧ (sgns.getD i 0).toNat < 256 := by
  match i, h with | 0, _ => decide | 1, _ => decide | 2, _ => decide | 3, _ => decide | 4, _ => decide | 5, _ => decide | 6, _ => decide
theorem dgts_at {i : Nat} (h : i < 10) : dgts.getD i 0 = 48 + (i : Int) := by
  match i, h with | 0, _ => decide | 1, _ => decide | 2, _ => decide | 3, _ => decide | 4, _ => decide | 5, _ => decide | 6, _ => decide | 7, _ => decide | 8, _ => decide | 9, _ => decide
theorem lets_at {i : Nat} (h : i < 26) : lets.getD i 0 = 97 + (i : Int) := by
  have : ∀ j : Fin 26, lets.getD j.val 0 = 97 + (j.val : Int) := by decide
  exact this ⟨i, h⟩
/-- Where the run of bytes of a class ends. -/
def runN (s : ByteArray) (c : Int) (i : Nat) : Nat :=
  if i < s.size ∧ cls (byteAt s i) = c then runN s c (i + 1) else i
termination_by s.size - i
theorem runN_end {s : ByteArray} {c : Int} {i : Nat} (h : ¬ (i < s.size ∧ cls (byteAt s i) = c)) : runN s c i = i := by rw [runN, if_neg h]
theorem runN_step {s : ByteArray} {c : Int} {i : Nat} (h : i < s.size) (h2 : cls (byteAt s i) = c) : runN s c i = runN s c (i + 1) := by rw [runN, if_pos ⟨h, h2⟩]
theorem runN_ge (s : ByteArray) (c : Int) (i : Nat) : i ≤ runN s c i := by
  induction i using runN.induct s c with
  | case1 i h ih => rw [runN, if_pos h]; omega
  | case2 i h => rw [runN, if_neg h]; exact Nat.le_refl _
theorem runN_le (s : ByteArray) (c : Int) (i : Nat) (hi : i ≤ s.size) : runN s c i ≤ s.size := by
  induction i using runN.induct s c with
  | case1 i h ih => rw [runN, if_pos h]; exact ih (by omega)
  | case2 i h => rw [runN, if_neg h]; exact hi
/-- Where a number ends. -/
def numEnd (s : ByteArray) (j : Nat) : Nat :=
  if runN s 2 j + 1 < s.size ∧ byteAt s (runN s 2 j) = 46 ∧ cls (byteAt s (runN s 2 j + 1)) = 2 then runN s 2 (runN s 2 j + 1) else runN s 2 j
/-- The token from a place on: kind, text, place, where it ends, whether there is one. -/
def nx (s : ByteArray) (p : Nat) : Int × ByteArray × Nat × Nat × Bool :=
  if runN s 1 p = s.size then (3, .empty, runN s 1 p, runN s 1 p, true)
  else if cls (byteAt s (runN s 1 p)) = 4 then (2, s.extract (runN s 1 p) (runN s 1 p + 1), runN s 1 p, runN s 1 p + 1, true)
  else if cls (byteAt s (runN s 1 p)) = 3 then (1, s.extract (runN s 1 p) (runN s 3 (runN s 1 p)), runN s 1 p, runN s 3 (runN s 1 p), true)
  else if cls (byteAt s (runN s 1 p)) = 2 then (0, s.extract (runN s 1 p) (numEnd s (runN s 1 p)), runN s 1 p, numEnd s (runN s 1 p), true)
  else (0, .empty, 0, runN s 1 p, false)
def nxV (x : Int × ByteArray × Nat × Nat × Bool) : V := .t [.a [.i .i64 x.1, .s x.2.1, .i .i64 (x.2.2.1 : Int)], .i .i64 (x.2.2.2.1 : Int), .b x.2.2.2.2]
theorem nx_end {s : ByteArray} {p j : Nat} (hj : runN s 1 p = j) (h : j = s.size) : nx s p = (3, .empty, j, j, true) := by
  unfold nx; rw [hj, if_pos h]
theorem nx_sign {s : ByteArray} {p j : Nat} (hj : runN s 1 p = j) (h : ¬ j = s.size) (h1 : cls (byteAt s j) = 4) : nx s p = (2, s.extract j (j + 1), j, j + 1, true) := by
  unfold nx; rw [hj, if_neg h, if_pos h1]
theorem nx_word {s : ByteArray} {p j : Nat} (hj : runN s 1 p = j) (h : ¬ j = s.size) (h1 : cls (byteAt s j) = 3) : nx s p = (1, s.extract j (runN s 3 j), j, runN s 3 j, true) := by
  unfold nx; rw [hj, if_neg h, if_neg (by rw [h1]; decide), if_pos h1]
theorem nx_num {s : ByteArray} {p j e : Nat} (hj : runN s 1 p = j) (h : ¬ j = s.size) (h1 : cls (byteAt s j) = 2) (he : numEnd s j = e) : nx s p = (0, s.extract j e, j, e, true) := by
  unfold nx; rw [hj, if_neg h, if_neg (by rw [h1]; decide), if_neg (by rw [h1]; decide), if_pos h1, he]
theorem nx_bad {s : ByteArray} {p j : Nat} (hj : runN s 1 p = j) (h : ¬ j = s.size) (h1 : ¬ cls (byteAt s j) = 4) (h2 : ¬ cls (byteAt s j) = 3) (h3 : ¬ cls (byteAt s j) = 2) : nx s p = (0, .empty, 0, j, false) := by
  unfold nx; rw [hj, if_neg h, if_neg h1, if_neg h2, if_neg h3]
theorem numEnd_dot {s : ByteArray} {j : Nat} (h1 : runN s 2 j + 1 < s.size) (h2 : byteAt s (runN s 2 j) = 46) (h3 : cls (byteAt s (runN s 2 j + 1)) = 2) : numEnd s j = runN s 2 (runN s 2 j + 1) := by
  unfold numEnd; rw [if_pos ⟨h1, h2, h3⟩]
theorem numEnd_no {s : ByteArray} {j : Nat} (h : ¬ (runN s 2 j + 1 < s.size ∧ byteAt s (runN s 2 j) = 46 ∧ cls (byteAt s (runN s 2 j + 1)) = 2)) : numEnd s j = runN s 2 j := by
  unfold numEnd; rw [if_neg h]
/-- The table as it is stored. -/
theorem tbl_set : setV (List.map cV (List.replicate 256 (Value.int .i64 0))) 0 tbl = tbl := setV_all _ _ (by rw [List.length_map, List.length_replicate, tbl_len])
theorem jc_tbl {P : Program} {Γ : Ctx} {F : Fr} {H : List Ob} {Q : Exit → Fr → List Ob → Prop} {c : Code} (t : Nat) {id T sz ver : Nat} (hx : getO F t = some (.p id ver 0)) (hH : H[id]? = some ⟨T, sz, ver, true, setV (List.map cV (List.replicate 256 (Value.int .i64 0))) 0 tbl⟩) (hp : ∀ b, ¬ Γ.L0 b)
    (j : JC P c Γ ((t, .q tbl) :: F) (deadAt H id) Q) : JC P c Γ F H Q := jc_frzp t hx hH (by rw [tbl_set]; exact ints_pure) (by rw [tbl_set]; rfl) hp j
theorem tbl_fit : 0 + 256 ≤ (List.map cV (List.replicate 256 (Value.int .i64 0))).length := by rw [List.length_map, List.length_replicate]; exact Nat.le_refl _
def s2pi : ByteArray := ⟨#[50, 42, 112, 105]⟩
def tok0 : V := .a [.i .i64 0, .s .empty, .i .i64 0]
/-- What lex.Next says. -/
def NextV (s : ByteArray) (q : Int) : V :=
  if q < 0 ∨ (s.size : Int) < q then .t [tok0, .i .i64 0, .i .i64 1]
  else if (nx s q.toNat).2.2.2.2 = true then .t [.a [.i .i64 (nx s q.toNat).1, .s (nx s q.toNat).2.1, .i .i64 ((nx s q.toNat).2.2.1 : Int)], .i .i64 ((nx s q.toNat).2.2.2.1 : Int), .i .i64 0]
  else .t [tok0, .i .i64 ((nx s q.toNat).2.2.2.1 : Int), .i .i64 140]
theorem runN_gt {s : ByteArray} {c : Int} {i : Nat} (h : i < s.size) (h2 : cls (byteAt s i) = c) : i < runN s c i := by
  rw [runN_step h h2]; have := runN_ge s c (i + 1); omega
theorem numEnd_ge (s : ByteArray) (j : Nat) : runN s 2 j ≤ numEnd s j := by
  unfold numEnd; split
  · have := runN_ge s 2 (runN s 2 j + 1); omega
  · exact Nat.le_refl _
theorem numEnd_le (s : ByteArray) (j : Nat) (h : j ≤ s.size) : numEnd s j ≤ s.size := by
  unfold numEnd; split
  · rename_i h; exact runN_le s 2 _ (by omega)
  · exact runN_le s 2 _ h
theorem nx_le (s : ByteArray) (p : Nat) (hp : p ≤ s.size) : p ≤ (nx s p).2.2.2.1 ∧ (nx s p).2.2.2.1 ≤ s.size := by
  have h1 := runN_ge s 1 p
  have h2 := runN_le s 1 p hp
  have h3 := runN_ge s 3 (runN s 1 p)
  have h4 := runN_le s 3 _ h2
  have h5 := runN_ge s 2 (runN s 1 p)
  have h6 := numEnd_ge s (runN s 1 p)
  have h7 := numEnd_le s (runN s 1 p) h2
  unfold nx
  (repeat' split) <;> simp only <;> omega
/-- A token that is none of the end goes on. -/
theorem nx_lt (s : ByteArray) (p : Nat) (hp : p ≤ s.size) (hok : (nx s p).2.2.2.2 = true) (hk : (nx s p).1 ≠ 3) : p < (nx s p).2.2.2.1 := by
  have h1 := runN_ge s 1 p
  have h2 := runN_le s 1 p hp
  revert hok hk
  unfold nx
  split
  · intro _ h; simp at h
  · rename_i hne
    split
    · intro _ _; simp only; omega
    · split
      · rename_i h; intro _ _; simp only; have := runN_gt (by omega) h; omega
      · split
        · rename_i h; intro _ _; simp only; have := runN_gt (by omega) h; have := numEnd_ge s (runN s 1 p); omega
        · intro h; simp at h
abbrev Tok := Int × ByteArray × Nat
def tokRow (t : Tok) : List V := [.i .i64 t.1, .s t.2.1, .i .i64 (t.2.2 : Int)]
/-- All tokens from a place on; where there is none, if there is such a place. -/
def lexGo (s : ByteArray) (p : Nat) : List Tok × Option Nat :=
  if (nx s p).2.2.2.2 = false then ([], some (nx s p).2.2.2.1)
  else if (nx s p).1 = 3 then ([], none)
  else if h : p < (nx s p).2.2.2.1 ∧ (nx s p).2.2.2.1 ≤ s.size then (((nx s p).1, (nx s p).2.1, (nx s p).2.2.1) :: (lexGo s (nx s p).2.2.2.1).1, (lexGo s (nx s p).2.2.2.1).2)
  else ([], none)
termination_by s.size - p
theorem lexGo_bad {s : ByteArray} {p : Nat} (h : (nx s p).2.2.2.2 = false) : lexGo s p = ([], some (nx s p).2.2.2.1) := by rw [lexGo, if_pos h]
theorem lexGo_end {s : ByteArray} {p : Nat} (h : (nx s p).2.2.2.2 = true) (h1 : (nx s p).1 = 3) : lexGo s p = ([], none) := by rw [lexGo, if_neg (by rw [h]; simp), if_pos h1]
theorem lexGo_more {s : ByteArray} {p : Nat} (hp : p ≤ s.size) (h : (nx s p).2.2.2.2 = true) (h1 : (nx s p).1 ≠ 3) : lexGo s p = (((nx s p).1, (nx s p).2.1, (nx s p).2.2.1) :: (lexGo s (nx s p).2.2.2.1).1, (lexGo s (nx s p).2.2.2.1).2) := by
  rw [lexGo, if_neg (by rw [h]; simp), if_neg h1, dif_pos ⟨nx_lt s p hp h h1, (nx_le s p hp).2⟩]
def rowsV (l : List Tok) : V := .l true 3 (l.map tokRow)
def LexV (s : ByteArray) : V :=
  match lexGo s 0 with
  | (l, none) => .t [rowsV l, .i .i64 0, .i .i64 0]
  | (_, some p) => .t [rowsV [], .i .i64 (p : Int), .i .i64 140]
theorem tok_len (l : List Tok) : ∀ r ∈ l.map tokRow, r.length = 3 := fun r h => by
  obtain ⟨t, _, rfl⟩ := List.mem_map.1 h; rfl
theorem tok_pure (l : List Tok) : ∀ r ∈ l.map tokRow, r.all pureV = true := fun r h => by
  obtain ⟨t, _, rfl⟩ := List.mem_map.1 h; rfl
theorem tok_flat (l : List Tok) : (l.map tokRow).flatten.length = l.length * 3 := by
  induction l with
  | nil => rfl
  | cons t l ih => rw [List.map_cons, List.flatten_cons, List.length_append, ih]; simp [tokRow]; omega
theorem tok_id (n : Nat) (l : List Tok) : (l.map tokRow).flatten.all (idB n) = true := by
  induction l with
  | nil => rfl
  | cons t l ih => rw [List.map_cons, List.flatten_cons, List.all_append, ih]; rfl
theorem tok_snoc (l : List Tok) (t : Tok) : ((l ++ [t]).map tokRow).flatten = (l.map tokRow).flatten ++ tokRow t := by simp
theorem r2pi : runN s2pi 1 0 = 0 ∧ runN s2pi 1 1 = 1 ∧ runN s2pi 1 2 = 2 ∧ runN s2pi 1 4 = 4 ∧ runN s2pi 2 0 = 1 ∧ runN s2pi 3 2 = 4 := by
  refine ⟨runN_end (by decide), runN_end (by decide), runN_end (by decide), runN_end (by decide), ?_, ?_⟩
  · rw [runN_step (by decide) (by decide)]; exact runN_end (by decide)
  · rw [runN_step (by decide) (by decide), runN_step (by decide) (by decide)]; exact runN_end (by decide)
def l2pi : List Tok := [(0, ⟨#[50]⟩, 0), (2, ⟨#[42]⟩, 1), (1, ⟨#[112, 105]⟩, 2)]
theorem lex_2pi : lexGo s2pi 0 = (l2pi, none) := by
  obtain ⟨h1, h2, h3, h4, h5, h6⟩ := r2pi
  have e0 : numEnd s2pi 0 = 1 := by rw [numEnd_no (by rw [h5]; decide), h5]
  have n0 : nx s2pi 0 = (0, ⟨#[50]⟩, 0, 1, true) := by rw [nx_num h1 (by decide) (by decide) e0]; rfl
  have n1 : nx s2pi 1 = (2, ⟨#[42]⟩, 1, 2, true) := by rw [nx_sign h2 (by decide) (by decide)]; rfl
  have n2 : nx s2pi 2 = (1, ⟨#[112, 105]⟩, 2, 4, true) := by rw [nx_word h3 (by decide) (by decide), h6]; rfl
  have n4 : nx s2pi 4 = (3, .empty, 4, 4, true) := nx_end h4 (by decide)
  rw [lexGo_more (by decide) (by rw [n0]) (by rw [n0]; decide), n0, lexGo_more (by decide) (by rw [n1]) (by rw [n1]; decide), n1, lexGo_more (by decide) (by rw [n2]) (by rw [n2]; decide), n2, lexGo_end (by rw [n4]) (by rw [n4])]
  rfl
theorem cls1 {b : Int} : (b = 9 ∨ b = 10 ∨ b = 13 ∨ b = 32) ↔ cls b = 1 := by unfold cls; (repeat' split) <;> constructor <;> intro h <;> first | omega | (simp_all; done)
theorem cls2 {b : Int} : (48 ≤ b ∧ b ≤ 57) ↔ cls b = 2 := by unfold cls; (repeat' split) <;> constructor <;> intro h <;> first | omega | (simp_all; done)
theorem cls3 {b : Int} : (97 ≤ b ∧ b ≤ 122) ↔ cls b = 3 := by unfold cls; (repeat' split) <;> constructor <;> intro h <;> first | omega | (simp_all; done)
theorem cls4 {b : Int} : (b = 40 ∨ b = 41 ∨ b = 44 ∨ b = 43 ∨ b = 45 ∨ b = 42 ∨ b = 47) ↔ cls b = 4 := by unfold cls; (repeat' split) <;> constructor <;> intro h <;> first | omega | (simp_all; done)
/-- The document's answer. -/
def refV (x : Int × ByteArray × Nat × Nat × Bool) : V := .t [.a [.i .i64 x.1, .s x.2.1, .i .i64 (x.2.2.1 : Int)], .i .i64 (x.2.2.2.1 : Int), .i .i64 (if x.2.2.2.2 = true then 0 else 140)]
def GoodV (s : ByteArray) : V :=
  match lexGo s 0 with
  | (l, none) => .t [rowsV l, .i .i64 0, .i .i64 0]
  | (l, some p) => .t [rowsV l, .i .i64 (p : Int), .i .i64 140]
theorem nx_not {s : ByteArray} {p : Nat} (h : (nx s p).2.2.2.2 = false) : nx s p = (0, .empty, 0, (nx s p).2.2.2.1, false) := by
  revert h
  unfold nx
  (repeat' split) <;> simp
theorem NextV_bad {s : ByteArray} {q : Int} (h : q < 0 ∨ (s.size : Int) < q) : NextV s q = .t [tok0, .i .i64 0, .i .i64 1] := by unfold NextV; rw [if_pos h]
theorem NextV_ok {s : ByteArray} {p : Nat} (hp : p ≤ s.size) {k : Int} {t : ByteArray} {pl e : Nat} (h : nx s p = (k, t, pl, e, true)) : NextV s (p : Int) = .t [.a [.i .i64 k, .s t, .i .i64 (pl : Int)], .i .i64 (e : Int), .i .i64 0] := by
  unfold NextV
  rw [if_neg (by omega), Int.toNat_natCast, h]
  rfl
theorem NextV_no {s : ByteArray} {p : Nat} (hp : p ≤ s.size) {k : Int} {t : ByteArray} {pl e : Nat} (h : nx s p = (k, t, pl, e, false)) : NextV s (p : Int) = .t [tok0, .i .i64 (e : Int), .i .i64 140] := by
  unfold NextV
  rw [if_neg (by omega), Int.toNat_natCast, h]
  rfl
theorem step_cases {s : ByteArray} {p i : Nat} {l : List Tok} {r : Option Nat} (hp : p ≤ s.size) (h : lexGo s p = (l.drop i, r)) :
    (∃ e, nx s p = (0, .empty, 0, e, false) ∧ r = some e ∧ l.drop i = []) ∨ (∃ t pl e, nx s p = (3, t, pl, e, true) ∧ r = none ∧ l.drop i = []) ∨
    (∃ k t pl e, nx s p = (k, t, pl, e, true) ∧ k ≠ 3 ∧ l[i]? = some (k, t, pl) ∧ p < e ∧ e ≤ s.size ∧ lexGo s e = (l.drop (i + 1), r)) := by
  cases hok : (nx s p).2.2.2.2
  · left
    refine ⟨(nx s p).2.2.2.1, nx_not hok, ?_⟩
    rw [lexGo_bad hok] at h
    injection h with h1 h2
    exact ⟨h2.symm, h1.symm⟩
  · right
    by_cases hk : (nx s p).1 = 3
    · left
      rw [lexGo_end hok hk] at h
      injection h with h1 h2
      exact ⟨(nx s p).2.1, (nx s p).2.2.1, (nx s p).2.2.2.1, by rw [← hok, ← hk], h2.symm, h1.symm⟩
    · right
      rw [lexGo_more hp hok hk] at h
      injection h with h1 h2
      refine ⟨(nx s p).1, (nx s p).2.1, (nx s p).2.2.1, (nx s p).2.2.2.1, by rw [← hok], hk, ?_, nx_lt s p hp hok hk, (nx_le s p hp).2, ?_⟩
      · have := congrArg (fun x : List Tok => x[0]?) h1
        simpa [List.getElem?_drop] using this.symm
      · have : l.drop (i + 1) = (lexGo s (nx s p).2.2.2.1).1 := by
          rw [← List.drop_drop, ← h1]
          rfl
        rw [this, ← h2]
theorem ex_size {s : ByteArray} {a b : Nat} (hb : b ≤ s.size) : (s.extract a b).size = b - a := by
  rw [ByteArray.size_extract, Nat.min_eq_left hb]
theorem nx_shape {s : ByteArray} {p : Nat} {k : Int} {t : ByteArray} {pl e : Nat} (hp : p ≤ s.size) (h : nx s p = (k, t, pl, e, true)) (hk : k ≠ 3) :
    runN s 1 p = pl ∧ t = s.extract pl e ∧ pl < e ∧ e ≤ s.size := by
  have h2 := runN_le s 1 p hp
  have h4 := runN_le s 3 _ h2
  have h7 := numEnd_le s (runN s 1 p) h2
  have h8 := numEnd_ge s (runN s 1 p)
  unfold nx at h
  split at h
  · injection h with a1 a2; exact absurd a1.symm hk
  · rename_i hne
    split at h
    · injection h with a1 a2; injection a2 with a2 a3; injection a3 with a3 a4; injection a4 with a4 a5
      subst a3; subst a4; exact ⟨rfl, a2.symm, by omega, by omega⟩
    · split at h
      · rename_i hc
        have := runN_gt (by omega) hc
        injection h with a1 a2; injection a2 with a2 a3; injection a3 with a3 a4; injection a4 with a4 a5
        subst a3; subst a4; exact ⟨rfl, a2.symm, by omega, by omega⟩
      · split at h
        · rename_i hc
          have := runN_gt (by omega) hc
          injection h with a1 a2; injection a2 with a2 a3; injection a3 with a3 a4; injection a4 with a4 a5
          subst a3; subst a4; exact ⟨rfl, a2.symm, by omega, by omega⟩
        · injection h with a1 a2; injection a2 with a2 a3; injection a3 with a3 a4; injection a4 with a4 a5
          cases a5
theorem ex_ne {s : ByteArray} {a b : Nat} (hab : a < b) (hb : b ≤ s.size) : ¬ s.extract a b = ⟨#[]⟩ := fun h => by
  have := ex_size (a := a) hb
  rw [h] at this
  have e : ByteArray.size ⟨#[]⟩ = 0 := rfl
  omega
theorem step_more {s : ByteArray} {p i : Nat} {l : List Tok} {r : Option Nat} (hp : p ≤ s.size) (h : lexGo s p = (l.drop i, r)) (hi : i < l.length) :
    ∃ k pl e, nx s p = (k, s.extract pl e, pl, e, true) ∧ k ≠ 3 ∧ l[i]? = some (k, s.extract pl e, pl) ∧ p < e ∧ e ≤ s.size ∧ lexGo s e = (l.drop (i + 1), r) ∧ runN s 1 p = pl ∧ pl < e := by
  rcases step_cases hp h with ⟨e, hx, hr, hd⟩ | ⟨t, pl, e, hx, hr, hd⟩ | ⟨k, t, pl, e, hx, hk, hl, hlt, hle, hg⟩
  · have := List.drop_eq_nil_iff.1 hd; omega
  · have := List.drop_eq_nil_iff.1 hd; omega
  · obtain ⟨h1, h2, h3, h4⟩ := nx_shape hp hx hk
    subst h2
    exact ⟨k, pl, e, hx, hk, hl, hlt, hle, hg, h1, h3⟩
theorem step_end {s : ByteArray} {p i : Nat} {l : List Tok} (hp : p ≤ s.size) (h : lexGo s p = (l.drop i, none)) (hi : l.length ≤ i) : runN s 1 p = s.size := by
  rcases step_cases hp h with ⟨e, hx, hr, hd⟩ | ⟨t, pl, e, hx, hr, hd⟩ | ⟨k, t, pl, e, hx, hk, hl, hlt, hle, hg⟩
  · cases hr
  · unfold nx at hx
    split at hx
    · assumption
    · exfalso
      revert hx
      (repeat' split) <;> simp
  · have := (List.getElem?_eq_some_iff.1 hl).1; omega
end Go.Proofs.Ytnpbpiommpgikaa.Vc
