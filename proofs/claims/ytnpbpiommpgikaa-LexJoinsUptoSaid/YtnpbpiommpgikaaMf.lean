/- Rows that are filled one by one, in plain Lean. -/
import Derived.Test.YtnpbpiommpgikaaMc
set_option linter.unusedVariables false
set_option linter.unusedSimpArgs false
namespace Go.Proofs.Ytnpbpiommpgikaa.Vc
open Go Go.RowKit

theorem setV_0 : ∀ (z row post : List V), z.length = row.length → setV (z ++ post) 0 row = row ++ post
  | [], [], post, _ => by cases post <;> rfl
  | [], _ :: _, _, h => by simp at h
  | _ :: _, [], _, h => by simp at h
  | a :: z, b :: row, post, h => by
    show b :: setV (z ++ post) 0 row = b :: (row ++ post)
    rw [setV_0 z row post (by simpa using h)]
theorem setV_mid : ∀ (pre z row post : List V), z.length = row.length → setV (pre ++ (z ++ post)) pre.length row = pre ++ (row ++ post)
  | [], z, row, post, h => setV_0 z row post h
  | a :: pre, z, [], post, h => by
    have : z = [] := List.eq_nil_of_length_eq_zero h
    subst this
    rfl
  | a :: pre, z, b :: row, post, h => by
    show a :: setV (pre ++ (z ++ post)) pre.length (b :: row) = a :: (pre ++ (b :: row ++ post))
    rw [setV_mid pre z (b :: row) post h]
def zrow : List V := [.i .i64 0, .s .empty, .i .i64 0]
def mkrow : List V := [.i .i64 0, .s ⟨#[109, 97, 114, 107]⟩, .i .i64 0]
def fillN (l : List TokZ) (i n : Nat) : List V := ((l.take i).map rowZ).flatten ++ (List.replicate (n - i) zrow).flatten
theorem rowZ_flat (l : List TokZ) : (l.map rowZ).flatten.length = l.length * 3 := by
  induction l with
  | nil => rfl
  | cons t l ih => rw [List.map_cons, List.flatten_cons, List.length_append, ih]; simp [rowZ]; omega
theorem zrow_flat (n : Nat) : (List.replicate n zrow).flatten.length = n * 3 := by
  induction n with
  | zero => rfl
  | succ n ih => rw [List.replicate_succ, List.flatten_cons, List.length_append, ih]; simp [zrow]; omega
theorem fill_0 (l : List TokZ) (n : Nat) : fillN l 0 n = (List.replicate n zrow).flatten := by unfold fillN; simp
theorem fill_len {l : List TokZ} {i n : Nat} (h1 : i ≤ l.length) (h2 : i ≤ n) : (fillN l i n).length = n * 3 := by
  unfold fillN
  rw [List.length_append, rowZ_flat, zrow_flat, List.length_take, Nat.min_eq_left h1, ← Nat.add_mul]
  congr 1; omega
theorem fill_step {l : List TokZ} {i n : Nat} {t : TokZ} (h : l[i]? = some t) (hn : i < n) : setV (fillN l i n) (i * 3) (rowZ t) = fillN l (i + 1) n := by
  obtain ⟨h1, h2⟩ := List.getElem?_eq_some_iff.1 h
  unfold fillN
  obtain ⟨m, hm⟩ : ∃ m, n - i = m + 1 := ⟨n - i - 1, by omega⟩
  have hm' : n - (i + 1) = m := by omega
  rw [hm, hm', List.replicate_succ, List.flatten_cons, List.take_succ_eq_append_getElem h1, h2, List.map_append, List.flatten_append]
  have hl : ((l.take i).map rowZ).flatten.length = i * 3 := by rw [rowZ_flat, List.length_take, Nat.min_eq_left (by omega)]
  have := setV_mid ((l.take i).map rowZ).flatten zrow (rowZ t) (List.replicate m zrow).flatten rfl
  rw [hl] at this
  rw [this]
  simp
theorem fill_end (l : List TokZ) : setV (fillN l l.length (l.length + 2)) (l.length * 3) (mkrow ++ mkrow) = (l.map rowZ).flatten ++ (mkrow ++ mkrow) := by
  unfold fillN
  rw [List.take_length, show l.length + 2 - l.length = 2 by omega]
  have := setV_mid (l.map rowZ).flatten (zrow ++ zrow) (mkrow ++ mkrow) [] rfl
  rw [rowZ_flat, List.append_nil, List.append_nil] at this
  exact this
theorem rowZ_len (l : List TokZ) : ∀ r ∈ l.map rowZ, r.length = 3 := fun r h => by
  obtain ⟨t, _, rfl⟩ := List.mem_map.1 h; rfl
theorem rowZ_pure (l : List TokZ) : ∀ r ∈ l.map rowZ, r.all pureV = true := fun r h => by
  obtain ⟨t, _, rfl⟩ := List.mem_map.1 h; rfl
theorem rowZ_len2 (l : List TokZ) : ∀ r ∈ l.map rowZ ++ [mkrow, mkrow], r.length = 3 := fun r h => by
  rcases List.mem_append.1 h with h | h
  · exact rowZ_len l r h
  · simp at h; subst h; rfl
theorem rowZ_pure2 (l : List TokZ) : ∀ r ∈ l.map rowZ ++ [mkrow, mkrow], r.all pureV = true := fun r h => by
  rcases List.mem_append.1 h with h | h
  · exact rowZ_pure l r h
  · simp at h; subst h; rfl
theorem rowZ_id (n : Nat) (l : List TokZ) : (l.map rowZ).flatten.all (idB n) = true := by
  induction l with
  | nil => rfl
  | cons t l ih => rw [List.map_cons, List.flatten_cons, List.all_append, ih]; rfl
theorem zrow_id (n m : Nat) : (List.replicate m zrow).flatten.all (idB n) = true := by
  induction m with
  | zero => rfl
  | succ m ih => rw [List.replicate_succ, List.flatten_cons, List.all_append, ih]; rfl
theorem fill_id (k : Nat) (l : List TokZ) (i n : Nat) : (fillN l i n).all (idB k) = true := by unfold fillN; rw [List.all_append, rowZ_id, zrow_id]; rfl
theorem mark_0 (l : List TokZ) : (l.map rowZ ++ [mkrow, mkrow])[l.length]? = some mkrow := by rw [List.getElem?_append_right (by simp)]; simp
theorem mark_1 (l : List TokZ) : (l.map rowZ ++ [mkrow, mkrow])[l.length + 1]? = some mkrow := by rw [List.getElem?_append_right (by simp)]; simp
def bkZ (t : TokZ) : Nat := t.2.1.size + 1
theorem jnz_len : ∀ (l : List TokZ) (w : Bool), (jn w l).size ≤ (l.map bkZ).sum ∧ l.length ≤ (l.map bkZ).sum
  | [], _ => ⟨Nat.zero_le _, Nat.zero_le _⟩
  | t :: l, w => by
    obtain ⟨h1, h2⟩ := jnz_len l (isW t.1)
    rw [List.map_cons, List.sum_cons]
    simp only [jn, size_app, List.length_cons]
    have h3 : (if (w && isW t.1) = true then sp1 else ByteArray.empty).size ≤ 1 := by split <;> decide
    unfold bkZ at *
    omega
end Go.Proofs.Ytnpbpiommpgikaa.Vc
