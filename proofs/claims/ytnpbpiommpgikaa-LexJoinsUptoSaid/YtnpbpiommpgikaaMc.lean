/- What Join computes, in plain Lean: texts with blanks where they are needed; a joined text has the same tokens. -/
import Derived.Test.YtnpbpiommpgikaaMb
set_option linter.unusedVariables false
set_option linter.unusedSimpArgs false
namespace Go.Proofs.Ytnpbpiommpgikaa.Vc
open Go Go.RowKit

def isW (k : Int) : Bool := decide (k = 0 ∨ k = 1)
abbrev TokZ := Int × ByteArray × Int
def rowZ (t : TokZ) : List V := [.i .i64 t.1, .s t.2.1, .i .i64 t.2.2]
def sp1 : ByteArray := ⟨#[32]⟩
/-- Texts joined, behind a word or not. -/
def jn : Bool → List TokZ → ByteArray
  | _, [] => .empty
  | w, t :: l => (if (w && isW t.1) = true then sp1 else .empty) ++ (t.2.1 ++ jn (isW t.1) l)
/-- Does a word stand before place i? -/
def pw (l : List TokZ) : Nat → Bool
  | 0 => false
  | i + 1 => match l[i]? with | some t => isW t.1 | none => false
theorem pw_succ {l : List TokZ} {i : Nat} {t : TokZ} (h : l[i]? = some t) : pw l (i + 1) = isW t.1 := by simp only [pw, h]
theorem pw_at {l : List TokZ} {i : Nat} {t : TokZ} (h0 : 0 < i) (h : l[i - 1]? = some t) : pw l i = isW t.1 := by
  obtain ⟨j, rfl⟩ : ∃ j, i = j + 1 := ⟨i - 1, by omega⟩
  exact pw_succ h
theorem pw_0 {l : List TokZ} {i : Nat} (h : i = 0) : pw l i = false := by subst h; rfl
theorem drop_at {α : Type} {l : List α} {i : Nat} {t : α} (h : l[i]? = some t) : l.drop i = t :: l.drop (i + 1) := by
  obtain ⟨h1, h2⟩ := List.getElem?_eq_some_iff.1 h
  rw [List.drop_eq_getElem_cons h1, h2]
theorem ba_nil (a : ByteArray) : a ++ .empty = a := by apply ba_ext; rw [ByteArray.data_append]; simp
theorem ba_nil' (a : ByteArray) : .empty ++ a = a := by apply ba_ext; rw [ByteArray.data_append]; simp
theorem jn_b {l : List TokZ} {i : Nat} {t : TokZ} {acc J : ByteArray} (h : l[i]? = some t) (hp : pw l i = true) (hw : isW t.1 = true) (hJ : acc ++ jn (pw l i) (l.drop i) = J) :
    (acc ++ sp1) ++ (t.2.1 ++ jn (pw l (i + 1)) (l.drop (i + 1))) = J := by
  rw [drop_at h] at hJ
  simp only [jn, hp, hw, Bool.and_self, if_true] at hJ
  rw [pw_succ h, hw, ByteArray.append_assoc]; exact hJ
theorem jn_p {l : List TokZ} {i : Nat} {t : TokZ} {acc J : ByteArray} (h : l[i]? = some t) (hp : (pw l i && isW t.1) = false) (hJ : acc ++ jn (pw l i) (l.drop i) = J) :
    acc ++ (t.2.1 ++ jn (pw l (i + 1)) (l.drop (i + 1))) = J := by
  rw [drop_at h] at hJ
  simp only [jn, hp] at hJ
  rw [if_neg (by decide), ba_nil'] at hJ
  rw [pw_succ h]; exact hJ
theorem app_le {a b J : ByteArray} (h : a ++ b = J) : a.size ≤ J.size := by rw [← h, ByteArray.size_append]; omega
theorem app_le2 {a b c J : ByteArray} (h : a ++ (b ++ c) = J) : a.size + b.size ≤ J.size := by rw [← h, ByteArray.size_append, ByteArray.size_append]; omega
theorem jn_end {l : List TokZ} {i : Nat} {acc J : ByteArray} (h : l.length ≤ i) (hJ : acc ++ jn (pw l i) (l.drop i) = J) : acc = J := by
  rw [List.drop_eq_nil_of_le h] at hJ
  simp only [jn] at hJ
  rw [ba_nil] at hJ; exact hJ
theorem bytesI_sp (a : ByteArray) : bytesI a ++ [32] = bytesI (a ++ sp1) := by rw [bytesI_app]; rfl
theorem size_sp (a : ByteArray) : (a ++ sp1).size = a.size + 1 := by rw [ByteArray.size_append]; rfl
def toZ (t : Tok) : TokZ := (t.1, t.2.1, (t.2.2 : Int))
theorem toZ_rows (l : List Tok) : (l.map toZ).map rowZ = l.map tokRow := by rw [List.map_map]; rfl
/-- The tokens' texts joined. -/
def jnT (l : List Tok) : ByteArray := jn false (l.map toZ)
end Go.Proofs.Ytnpbpiommpgikaa.Vc
