/- Blanks put in between tokens change places alone: plain Lean. -/
import Derived.Test.YtnpbpiommpgikaaMa
import Derived.Test.YtnpbpiommpgikaaVcO
set_option linter.unusedVariables false
set_option linter.unusedSimpArgs false
namespace Go.Proofs.Ytnpbpiommpgikaa.Vc
open Go Go.RowKit

theorem byteAt_eq (s : ByteArray) (i : Nat) : byteAt s i = match s.data[i]? with | some b => (b.toNat : Int) | none => 0 := by
  unfold byteAt
  by_cases h : i < s.size
  · rw [dif_pos h]
    have h' : i < s.data.size := h
    rw [Array.getElem?_eq_getElem h']
    rfl
  · rw [dif_neg h]
    have h' : ¬ i < s.data.size := h
    rw [Array.getElem?_eq_none (by omega)]
theorem size_app (u v : ByteArray) : (u ++ v).size = u.size + v.size := ByteArray.size_append
theorem byteAt_r (u v : ByteArray) (i : Nat) : byteAt (u ++ v) (u.size + i) = byteAt v i := by
  rw [byteAt_eq, byteAt_eq, ByteArray.data_append]
  have : u.size = u.data.size := rfl
  rw [this, Array.getElem?_append_right (by omega)]
  simp
theorem byteAt_l (u v : ByteArray) {i : Nat} (h : i < u.size) : byteAt (u ++ v) i = byteAt u i := by
  rw [byteAt_eq, byteAt_eq, ByteArray.data_append]
  have h' : i < u.data.size := h
  rw [Array.getElem?_append_left h']
theorem ba_ext {a b : ByteArray} (h : a.data.toList = b.data.toList) : a = b := by
  cases a; cases b; simp at h; rw [h]
theorem ex_list (s : ByteArray) (a b : Nat) : (s.extract a b).data.toList = (s.data.toList.take b).drop a := by
  rw [ByteArray.data_extract, Array.toList_extract, List.extract_eq_take_drop]
  rw [List.take_drop]
  by_cases h : a ≤ b
  · rw [show a + (b - a) = b by omega]
  · rw [List.drop_eq_nil_of_le (by rw [List.length_take]; omega), List.drop_eq_nil_of_le (by rw [List.length_take]; omega)]
theorem ex_r (u v : ByteArray) (a b : Nat) : (u ++ v).extract (u.size + a) (u.size + b) = v.extract a b := by
  apply ba_ext
  rw [ex_list, ex_list, ByteArray.data_append, Array.toList_append]
  have : u.size = u.data.toList.length := rfl
  rw [this, List.take_append, List.take_of_length_le (Nat.le_add_right _ _), Nat.add_sub_cancel_left, List.drop_append, List.drop_eq_nil_of_le (Nat.le_add_right _ _), Nat.add_sub_cancel_left, List.nil_append]
theorem ex_l (u v : ByteArray) {a b : Nat} (h : b ≤ u.size) : (u ++ v).extract a b = u.extract a b := by
  apply ba_ext
  rw [ex_list, ex_list, ByteArray.data_append, Array.toList_append]
  have : b ≤ u.data.toList.length := h
  rw [List.take_append_of_le_length this]
theorem ex_split (s : ByteArray) {a : Nat} (h : a ≤ s.size) : s.extract 0 a ++ s.extract a s.size = s := by
  apply ba_ext
  rw [ByteArray.data_append, Array.toList_append, ex_list, ex_list, List.drop_zero]
  have : s.size = s.data.toList.length := rfl
  rw [this, List.take_length, List.take_append_drop]

/-! ### What stands behind a cut -/
theorem runN_r (u v : ByteArray) (c : Int) (i : Nat) : runN (u ++ v) c (u.size + i) = u.size + runN v c i := by
  induction i using runN.induct v c with
  | case1 i h ih =>
    rw [runN_step (i := i) h.1 h.2, runN_step (by rw [size_app]; omega) (by rw [byteAt_r]; exact h.2)]
    exact ih
  | case2 i h =>
    rw [runN_end h, runN_end]
    rintro ⟨a, b⟩
    rw [byteAt_r] at b
    rw [size_app] at a
    exact h ⟨by omega, b⟩
theorem numEnd_r (u v : ByteArray) (i : Nat) : numEnd (u ++ v) (u.size + i) = u.size + numEnd v i := by
  by_cases h : runN v 2 i + 1 < v.size ∧ byteAt v (runN v 2 i) = 46 ∧ cls (byteAt v (runN v 2 i + 1)) = 2
  · rw [numEnd_dot h.1 h.2.1 h.2.2, numEnd_dot]
    · rw [runN_r, Nat.add_assoc, runN_r]
    · rw [runN_r, size_app]; omega
    · rw [runN_r, byteAt_r]; exact h.2.1
    · rw [runN_r, Nat.add_assoc, byteAt_r]; exact h.2.2
  · rw [numEnd_no h, numEnd_no, runN_r]
    rw [runN_r, byteAt_r, Nat.add_assoc, byteAt_r, size_app]
    rintro ⟨a, b, c⟩
    exact h ⟨by omega, b, c⟩
theorem nx_r (u v : ByteArray) (i : Nat) : nx (u ++ v) (u.size + i) = ((nx v i).1, (nx v i).2.1, if (nx v i).2.2.2.2 = true then u.size + (nx v i).2.2.1 else 0, u.size + (nx v i).2.2.2.1, (nx v i).2.2.2.2) := by
  unfold nx
  rw [runN_r, byteAt_r, numEnd_r, runN_r, size_app]
  by_cases h0 : runN v 1 i = v.size
  · rw [if_pos (by omega), if_pos h0]; rfl
  · rw [if_neg (by omega), if_neg h0]
    (repeat' split)
    all_goals first | contradiction | (simp; done) | (simp; exact ex_r _ _ _ _) | (simp; exact ⟨by rw [Nat.add_assoc]; exact ex_r _ _ _ _, by omega⟩)
def erase (l : List Tok) : List (Int × ByteArray) := l.map fun t => (t.1, t.2.1)
theorem lexGo_r (u v : ByteArray) (i : Nat) (hi : i ≤ v.size) {l : List Tok} (h : lexGo v i = (l, none)) : ∃ l', lexGo (u ++ v) (u.size + i) = (l', none) ∧ erase l' = erase l := by
  induction hn : v.size - i using Nat.strongRecOn generalizing i l with
  | _ n ih =>
    have h' : lexGo v i = (l.drop 0, none) := h
    rcases step_cases hi h' with ⟨e, hx, hr, hd⟩ | ⟨t, pl, e, hx, hr, hd⟩ | ⟨k, t, pl, e, hx, hk, hl, hlt, hle, hg⟩
    · cases hr
    · have e1 := nx_r u v i
      rw [hx] at e1
      simp only [List.drop_zero] at hd
      subst hd
      exact ⟨[], lexGo_end (by rw [e1]) (by rw [e1]), rfl⟩
    · have e1 := nx_r u v i
      rw [hx] at e1
      cases l with
      | nil => simp at hl
      | cons a l =>
        simp at hl
        subst hl
        obtain ⟨l', g1, g2⟩ := ih (v.size - e) (by omega) e hle (by simpa using hg) rfl
        refine ⟨(k, t, u.size + pl) :: l', ?_, by simp only [erase, List.map_cons] at g2 ⊢; rw [g2]⟩
        rw [lexGo_more (by rw [size_app]; omega) (by rw [e1]) (by rw [e1]; exact hk), e1]
        simp only [if_true]
        rw [g1]
theorem lexGo_rb (u v : ByteArray) (i : Nat) (hi : i ≤ v.size) {l : List Tok} {q : Nat} (h : lexGo v i = (l, some q)) : ∃ l' q', lexGo (u ++ v) (u.size + i) = (l', some q') := by
  induction hn : v.size - i using Nat.strongRecOn generalizing i l with
  | _ n ih =>
    have h' : lexGo v i = (l.drop 0, some q) := h
    have e1 := nx_r u v i
    rcases step_cases hi h' with ⟨e, hx, hr, hd⟩ | ⟨t, pl, e, hx, hr, hd⟩ | ⟨k, t, pl, e, hx, hk, hl, hlt, hle, hg⟩
    · rw [hx] at e1
      exact ⟨_, _, lexGo_bad (by rw [e1])⟩
    · cases hr
    · rw [hx] at e1
      obtain ⟨l', q', g⟩ := ih (v.size - e) (by omega) e hle hg rfl
      refine ⟨(k, t, u.size + pl) :: l', q', ?_⟩
      rw [lexGo_more (by rw [size_app]; omega) (by rw [e1]) (by rw [e1]; exact hk), e1]
      simp only [if_true]
      rw [g]

/-! ### What stands ahead of a cut -/
/-- Before a cut, and behind a blank that follows it: a run of no blanks ends where it ended. -/
theorem runN_l {u v v' : ByteArray} {c : Int} (hc : c ≠ 1) (hv : 0 < v'.size) (hb : cls (byteAt v' 0) = 1) (i : Nat) (hi : i ≤ u.size) (h : runN (u ++ v) c i ≤ u.size) : runN (u ++ v') c i = runN (u ++ v) c i := by
  induction hn : u.size - i generalizing i with
  | zero =>
    have : i = u.size := by omega
    subst this
    have h1 : runN (u ++ v') c u.size = u.size := runN_end (by
      rintro ⟨a, b⟩
      have := byteAt_r u v' 0
      rw [Nat.add_zero] at this
      rw [this, hb] at b
      exact hc b.symm)
    have h2 := runN_ge (u ++ v) c u.size
    rw [h1]; omega
  | succ n ih =>
    have hlt : i < u.size := by omega
    by_cases hcl : cls (byteAt u i) = c
    · have e1 : runN (u ++ v) c i = runN (u ++ v) c (i + 1) := runN_step (by rw [size_app]; omega) (by rw [byteAt_l u v hlt]; exact hcl)
      have e2 : runN (u ++ v') c i = runN (u ++ v') c (i + 1) := runN_step (by rw [size_app]; omega) (by rw [byteAt_l u v' hlt]; exact hcl)
      rw [e1] at h ⊢
      rw [e2]
      exact ih (i + 1) (by omega) h (by omega)
    · rw [runN_end (by rintro ⟨_, b⟩; rw [byteAt_l u v' hlt] at b; exact hcl b), runN_end (by rintro ⟨_, b⟩; rw [byteAt_l u v hlt] at b; exact hcl b)]
/-- A run that ends before the cut. -/
theorem runN_ll {u v v' : ByteArray} {c : Int} (i : Nat) (h : runN (u ++ v) c i < u.size) : runN (u ++ v') c i = runN (u ++ v) c i := by
  have hge := runN_ge (u ++ v) c i
  induction hn : u.size - i generalizing i with
  | zero => omega
  | succ n ih =>
    have hlt : i < u.size := by omega
    by_cases hcl : cls (byteAt u i) = c
    · have e1 : runN (u ++ v) c i = runN (u ++ v) c (i + 1) := runN_step (by rw [size_app]; omega) (by rw [byteAt_l u v hlt]; exact hcl)
      have e2 : runN (u ++ v') c i = runN (u ++ v') c (i + 1) := runN_step (by rw [size_app]; omega) (by rw [byteAt_l u v' hlt]; exact hcl)
      rw [e1] at h ⊢
      rw [e2]
      exact ih (i + 1) h (runN_ge _ _ _) (by omega)
    · rw [runN_end (by rintro ⟨_, b⟩; rw [byteAt_l u v' hlt] at b; exact hcl b), runN_end (by rintro ⟨_, b⟩; rw [byteAt_l u v hlt] at b; exact hcl b)]
theorem numEnd_l {u v v' : ByteArray} (hv : 0 < v'.size) (hb : cls (byteAt v' 0) = 1) (i : Nat) (hi : i ≤ u.size) (h : numEnd (u ++ v) i ≤ u.size) : numEnd (u ++ v') i = numEnd (u ++ v) i := by
  have hge := numEnd_ge (u ++ v) i
  have hr : runN (u ++ v') 2 i = runN (u ++ v) 2 i := runN_l (by decide) hv hb i hi (by omega)
  have h0 : byteAt (u ++ v') u.size = byteAt v' 0 := by have := byteAt_r u v' 0; rwa [Nat.add_zero] at this
  have hb46 : byteAt v' 0 ≠ 46 := fun e => by rw [e] at hb; revert hb; decide
  by_cases hc : runN (u ++ v) 2 i + 1 < (u ++ v).size ∧ byteAt (u ++ v) (runN (u ++ v) 2 i) = 46 ∧ cls (byteAt (u ++ v) (runN (u ++ v) 2 i + 1)) = 2
  · have e1 := numEnd_dot hc.1 hc.2.1 hc.2.2
    have hgt := runN_gt hc.1 hc.2.2
    rw [e1] at h
    have k1 : runN (u ++ v) 2 i + 1 < u.size := by omega
    rw [e1, numEnd_dot, hr]
    · exact runN_l (by decide) hv hb _ (by omega) h
    · rw [hr, size_app]; omega
    · rw [hr, byteAt_l u v' (by omega)]; have := hc.2.1; rwa [byteAt_l u v (by omega)] at this
    · rw [hr, byteAt_l u v' k1]; have := hc.2.2; rwa [byteAt_l u v k1] at this
  · have e1 := numEnd_no hc
    rw [e1] at h ⊢
    rw [numEnd_no, hr]
    rw [hr]
    rintro ⟨a, b, c⟩
    by_cases hq : runN (u ++ v) 2 i = u.size
    · rw [hq, h0] at b; exact hb46 b
    · have k1 : runN (u ++ v) 2 i < u.size := by omega
      by_cases hq2 : runN (u ++ v) 2 i + 1 = u.size
      · rw [hq2, h0, hb] at c; revert c; decide
      · have k2 : runN (u ++ v) 2 i + 1 < u.size := by omega
        rw [byteAt_l u v' k1] at b
        rw [byteAt_l u v' k2] at c
        exact hc ⟨by rw [size_app]; omega, by rw [byteAt_l u v k1]; exact b, by rw [byteAt_l u v k2]; exact c⟩
/-- A token that ends before the cut stays. -/
theorem nx_l {u v v' : ByteArray} (hv : 0 < v'.size) (hb : cls (byteAt v' 0) = 1) {p : Nat} {k : Int} {t : ByteArray} {pl e : Nat} (hp : p ≤ u.size) (h : nx (u ++ v) p = (k, t, pl, e, true)) (hk : k ≠ 3) (he : e ≤ u.size) : nx (u ++ v') p = (k, t, pl, e, true) := by
  obtain ⟨h1, h2, h3, h4⟩ := nx_shape (by rw [size_app]; omega) h hk
  have hj : runN (u ++ v) 1 p < u.size := by omega
  have hj' := runN_ll (v' := v') p hj
  rw [h1] at hj'
  have hlt : pl < u.size := by omega
  have hsz : ¬ pl = (u ++ v').size := by rw [size_app]; omega
  have hbt : byteAt (u ++ v') pl = byteAt (u ++ v) pl := by rw [byteAt_l u v' hlt, byteAt_l u v hlt]
  have hex : ∀ a b, b ≤ u.size → (u ++ v').extract a b = (u ++ v).extract a b := fun a b hb => by rw [ex_l u v' hb, ex_l u v hb]
  have hx := h
  unfold nx at hx
  rw [h1] at hx
  split at hx
  · injection hx with a1 a2; exact absurd a1.symm hk
  · split at hx
    · rename_i hc
      rw [nx_sign hj' hsz (by rw [hbt]; exact hc), hex _ _ (by omega)]; exact hx
    · split at hx
      · rename_i hc
        have e1 : runN (u ++ v) 3 pl = e := by injection hx with a1 a2; injection a2 with a2 a3; injection a3 with a3 a4; injection a4 with a4 a5
        have e2 : runN (u ++ v') 3 pl = e := by rw [runN_l (v := v) (by decide) hv hb pl (by omega) (by omega)]; exact e1
        rw [e1] at hx
        rw [nx_word hj' hsz (by rw [hbt]; exact hc), e2, hex _ _ he]; exact hx
      · split at hx
        · rename_i hc
          have e1 : numEnd (u ++ v) pl = e := by injection hx with a1 a2; injection a2 with a2 a3; injection a3 with a3 a4; injection a4 with a4 a5
          have e2 : numEnd (u ++ v') pl = e := by rw [numEnd_l (v := v) hv hb pl (by omega) (by omega)]; exact e1
          rw [e1] at hx
          rw [nx_num hj' hsz (by rw [hbt]; exact hc) e2, hex _ _ he]; exact hx
        · injection hx with a1 a2; injection a2 with a2 a3; injection a3 with a3 a4; injection a4 with a4 a5; cases a5
/-- The token hangs on where the blanks end alone. -/
theorem nx_blank {s : ByteArray} {p q : Nat} (h : runN s 1 p = runN s 1 q) : nx s p = nx s q := by unfold nx; rw [h]
theorem lexGo_blank {s : ByteArray} {p q : Nat} (hp : p ≤ s.size) (hq : q ≤ s.size) (h : runN s 1 p = runN s 1 q) : lexGo s p = lexGo s q := by
  have e := nx_blank h
  cases hok : (nx s p).2.2.2.2
  · rw [lexGo_bad hok, lexGo_bad (by rw [← e]; exact hok), e]
  · by_cases hk : (nx s p).1 = 3
    · rw [lexGo_end hok hk, lexGo_end (by rw [← e]; exact hok) (by rw [← e]; exact hk)]
    · rw [lexGo_more hp hok hk, lexGo_more hq (by rw [← e]; exact hok) (by rw [← e]; exact hk), e]
/-- A place where a token may begin: reached from p by whole tokens. -/
inductive Bd (s : ByteArray) : Nat → Nat → Prop
  | base {p : Nat} {at_ : Nat} (h : runN s 1 p = at_) : Bd s p at_
  | step {p at_ : Nat} {k : Int} {t : ByteArray} {pl e : Nat} (h : nx s p = (k, t, pl, e, true)) (hk : k ≠ 3) (hlt : p < e) (he : e ≤ at_) (hs : Bd s e at_) : Bd s p at_
theorem bd_end {s : ByteArray} (p : Nat) (hp : p ≤ s.size) {l : List Tok} (h : lexGo s p = (l, none)) : Bd s p s.size := by
  induction hn : s.size - p using Nat.strongRecOn generalizing p l with
  | _ n ih =>
    have h' : lexGo s p = (l.drop 0, none) := h
    by_cases h0 : 0 < l.length
    · obtain ⟨k, pl, e, hx, hk, hl, hlt, hle, hg, _, _⟩ := step_more hp h' h0
      exact .step hx hk hlt hle (ih (s.size - e) (by omega) e hle hg rfl)
    · exact .base (step_end hp h' (by omega))
theorem bd_tok {s : ByteArray} (i : Nat) : ∀ (p : Nat) (l : List Tok) (t : Tok), p ≤ s.size → lexGo s p = (l, none) → l[i]? = some t → p ≤ t.2.2 ∧ t.2.2 ≤ s.size ∧ Bd s p t.2.2 := by
  induction i with
  | zero =>
    intro p l t hp h hi
    obtain ⟨k, pl, e, hx, hk, hl, hlt, hle, hg, hj, hpe⟩ := step_more (i := 0) hp h (List.getElem?_eq_some_iff.1 hi).1
    rw [hi] at hl
    injection hl with hl
    subst hl
    have := runN_ge s 1 p
    exact ⟨by show p ≤ pl; omega, by show pl ≤ _; omega, .base hj⟩
  | succ i ih =>
    intro p l t hp h hi
    obtain ⟨k, pl, e, hx, hk, hl, hlt, hle, hg, hj, hpe⟩ := step_more (i := 0) hp h (by have := (List.getElem?_eq_some_iff.1 hi).1; omega)
    obtain ⟨h1, h2, h3⟩ := ih e (l.drop 1) t hle hg (by rw [List.getElem?_drop, Nat.add_comm]; exact hi)
    exact ⟨by omega, h2, .step hx hk hlt h1 h3⟩
def allBlank (m : ByteArray) : Prop := ∀ i, i < m.size → cls (byteAt m i) = 1
theorem runN_all {m v : ByteArray} (u : ByteArray) (hm : allBlank m) (i : Nat) (hi : i ≤ m.size) : runN (u ++ (m ++ v)) 1 (u.size + i) = runN (u ++ (m ++ v)) 1 (u.size + m.size) := by
  induction hn : m.size - i generalizing i with
  | zero => rw [show i = m.size by omega]
  | succ n ih =>
    rw [runN_step (by rw [size_app, size_app]; omega) (by rw [byteAt_r, byteAt_l m v (by omega)]; exact hm i (by omega)), Nat.add_assoc]
    exact ih (i + 1) (by omega) (by omega)
/-- Blanks at such a place. -/
theorem lexGo_put {u v m : ByteArray} (hm : allBlank m) (hm0 : 0 < m.size) {p : Nat} (hp : p ≤ u.size) (hb : Bd (u ++ v) p u.size) : ∀ {l : List Tok}, lexGo (u ++ v) p = (l, none) →
    ∃ l', lexGo (u ++ (m ++ v)) p = (l', none) ∧ erase l' = erase l := by
  generalize hs : u ++ v = s at hb
  generalize ha : u.size = at_ at hb hp
  induction hb with
  | base h =>
    rename_i p at_
    subst hs
    subst ha
    intro l hl
    have hsz : u.size ≤ (u ++ v).size := by rw [size_app]; omega
    -- both go on from behind the cut
    have r1 : runN (u ++ v) 1 u.size = u.size := by
      have := runN_ge (u ++ v) 1 p
      by_cases hpu : p = u.size
      · rw [hpu] at h; exact h
      · refine runN_end fun ⟨a, b⟩ => ?_
        have hbad : ∀ q, p ≤ q → q ≤ u.size → runN (u ++ v) 1 q = u.size := by
          intro q
          induction q with
          | zero => intro h1 _; rw [← h]; congr 1; omega
          | succ q ihq =>
            intro h1 h2
            by_cases hq : p = q + 1
            · rw [← hq]; exact h
            · have hq2 := ihq (by omega) (by omega)
              by_cases hc : q < (u ++ v).size ∧ cls (byteAt (u ++ v) q) = 1
              · rw [runN_step hc.1 hc.2] at hq2; exact hq2
              · rw [runN_end hc] at hq2; omega
        have := hbad u.size hp (Nat.le_refl _)
        have h2 := runN_gt a b
        omega
    have e1 : lexGo (u ++ v) p = lexGo (u ++ v) (u.size + 0) := lexGo_blank (by omega) (by omega) (by rw [h, Nat.add_zero, r1])
    rw [e1] at hl
    have q1 : runN (u ++ (m ++ v)) 1 p = runN (u ++ (m ++ v)) 1 u.size := by
      have : ∀ q, p ≤ q → q ≤ u.size → runN (u ++ (m ++ v)) 1 p = runN (u ++ (m ++ v)) 1 q ∧ runN (u ++ v) 1 q = u.size := by
        intro q
        induction q with
        | zero => intro h1 _; have : p = 0 := by omega
                  subst this; exact ⟨rfl, h⟩
        | succ q ihq =>
          intro h1 h2
          by_cases hq : p = q + 1
          · rw [← hq]; exact ⟨rfl, h⟩
          · obtain ⟨hq1, hq2⟩ := ihq (by omega) (by omega)
            have hqu : q < u.size := by omega
            by_cases hc : q < (u ++ v).size ∧ cls (byteAt (u ++ v) q) = 1
            · rw [runN_step hc.1 hc.2] at hq2
              have hcb := hc.2
              rw [byteAt_l u v hqu] at hcb
              exact ⟨by rw [hq1, runN_step (by rw [size_app]; omega) (by rw [byteAt_l u _ hqu]; exact hcb)], hq2⟩
            · rw [runN_end hc] at hq2; omega
      exact (this u.size hp (Nat.le_refl _)).1
    have q2 := runN_all (v := v) u hm 0 (Nat.zero_le _)
    rw [Nat.add_zero] at q2
    have e2 : lexGo (u ++ (m ++ v)) p = lexGo (u ++ (m ++ v)) (u.size + m.size) := lexGo_blank (by rw [size_app]; omega) (by rw [size_app, size_app]; omega) (by rw [q1, q2])
    -- behind the cut
    have hv : ∃ lv, lexGo v 0 = (lv, none) ∧ erase lv = erase l := by
      cases hx : lexGo v 0 with
      | mk lv rv =>
        cases rv with
        | none =>
          obtain ⟨l', g1, g2⟩ := lexGo_r u v 0 (Nat.zero_le _) hx
          rw [g1] at hl
          injection hl with hl1 _
          exact ⟨lv, rfl, by rw [← g2, hl1]⟩
        | some q =>
          exact absurd hl (by
            have := lexGo_rb u v 0 (Nat.zero_le _) hx
            rw [this.choose_spec.choose_spec]
            simp)
    obtain ⟨lv, g1, g2⟩ := hv
    obtain ⟨l2, g3, g4⟩ := lexGo_r m v 0 (Nat.zero_le _) g1
    rw [Nat.add_zero] at g3
    obtain ⟨l3, g5, g6⟩ := lexGo_r u (m ++ v) m.size (by rw [size_app]; omega) g3
    exact ⟨l3, by rw [e2]; exact g5, by rw [g6, g4, g2]⟩
  | step h hk hlt he hs' ih =>
    rename_i p at_ k t pl e
    intro l hl
    subst hs
    subst ha
    have hpsz : p ≤ (u ++ v).size := by rw [size_app]; omega
    have h' := nx_l (v' := m ++ v) (by rw [size_app]; omega) (by rw [byteAt_l m v hm0]; exact hm 0 hm0) hp h hk he
    rw [lexGo_more hpsz (by rw [h]) (by rw [h]; exact hk), h] at hl
    simp only at hl
    cases hx : lexGo (u ++ v) e with
    | mk l1 r1 =>
      rw [hx] at hl
      injection hl with hl1 hl2
      subst hl1
      subst hl2
      obtain ⟨l', g1, g2⟩ := ih rfl he hx
      refine ⟨(k, t, pl) :: l', ?_, by simp only [erase, List.map_cons] at g2 ⊢; rw [g2]⟩
      rw [lexGo_more (by rw [size_app]; omega) (by rw [h']) (by rw [h']; exact hk), h']
      simp only
      rw [g1]
/-- The four texts of blanks. -/
def mores : List ByteArray := [⟨#[32]⟩, ⟨#[10]⟩, ⟨#[9, 9]⟩, ⟨#[32, 13, 10, 32]⟩]
theorem mores_at {i : Nat} (h : i < 4) : ∃ m, mores[i]? = some m ∧ allBlank m ∧ 0 < m.size ∧ m.size ≤ 4 := by
  have key : ∀ m ∈ mores, allBlank m ∧ 0 < m.size ∧ m.size ≤ 4 := by
    intro m hm
    simp only [mores, List.mem_cons, List.not_mem_nil, or_false] at hm
    have dec : ∀ m : ByteArray, (∀ i, i < m.size → cls (byteAt m i) = 1) → allBlank m := fun _ h => h
    rcases hm with rfl | rfl | rfl | rfl
    · exact ⟨dec _ (by decide), by decide, by decide⟩
    · exact ⟨dec _ (by decide), by decide, by decide⟩
    · exact ⟨dec _ (by decide), by decide, by decide⟩
    · exact ⟨dec _ (by decide), by decide, by decide⟩
  have hl : i < mores.length := h
  exact ⟨mores[i], List.getElem?_eq_getElem hl, key _ (List.getElem_mem hl)⟩
theorem tm_pos {k n : Int} (hn : 0 < n) : -n < k.tmod n ∧ k.tmod n < n := ⟨Int.lt_tmod_of_pos k hn, Int.tmod_lt_of_pos k hn⟩
theorem tm_nn {k n : Int} (hk : 0 ≤ k) (hn : 0 < n) : 0 ≤ k.tmod n := Int.tmod_nonneg n hk
/-- Blanks put in at a place where a token begins, or at the end. -/
theorem blanks_in {s m : ByteArray} {l : List Tok} (h : lexGo s 0 = (l, none)) (hm : allBlank m) (hm0 : 0 < m.size) {a : Nat} (ha : a ≤ s.size) (hb : Bd s 0 a) :
    ∃ l', lexGo ((s.extract 0 a ++ m) ++ s.extract a s.size) 0 = (l', none) ∧ erase l' = erase l := by
  have hu : (s.extract 0 a).size = a := by rw [ex_size ha]; omega
  have e := ex_split s ha
  have := lexGo_put (u := s.extract 0 a) (v := s.extract a s.size) hm hm0 (p := 0) (Nat.zero_le _) (by rw [e, hu]; exact hb) (l := l) (by rw [e]; exact h)
  rwa [← ByteArray.append_assoc] at this
/-- Blanks ahead and behind. -/
theorem blanks_out {s m : ByteArray} {l : List Tok} (h : lexGo s 0 = (l, none)) (hm : allBlank m) (hm0 : 0 < m.size) :
    ∃ l', lexGo ((m ++ s) ++ m) 0 = (l', none) ∧ erase l' = erase l := by
  have em : s ++ (⟨#[]⟩ : ByteArray) = s := by apply ba_ext; rw [ByteArray.data_append]; simp
  obtain ⟨l1, g1, g2⟩ := lexGo_put (u := s) (v := ⟨#[]⟩) hm hm0 (p := 0) (Nat.zero_le _) (by rw [em]; exact bd_end 0 (Nat.zero_le _) h) (l := l) (by rw [em]; exact h)
  have em2 : m ++ (⟨#[]⟩ : ByteArray) = m := by apply ba_ext; rw [ByteArray.data_append]; simp
  rw [em2] at g1
  obtain ⟨l2, g3, g4⟩ := lexGo_r m (s ++ m) 0 (Nat.zero_le _) g1
  have e0 : (⟨#[]⟩ : ByteArray) ++ (m ++ (s ++ m)) = m ++ (s ++ m) := by apply ba_ext; rw [ByteArray.data_append]; simp
  have q := runN_all (m := m) (v := s ++ m) ⟨#[]⟩ hm 0 (Nat.zero_le _)
  rw [e0] at q
  have z : ByteArray.size ⟨#[]⟩ = 0 := rfl
  rw [z, Nat.zero_add, Nat.zero_add] at q
  rw [Nat.add_zero] at g3
  refine ⟨l2, ?_, by rw [g4, g2]⟩
  rw [ByteArray.append_assoc, lexGo_blank (Nat.zero_le _) (by rw [size_app]; omega) q]
  exact g3
theorem erase_len {l l' : List Tok} (h : erase l' = erase l) : l'.length = l.length := by
  have := congrArg List.length h
  simpa [erase] using this
theorem erase_at {l l' : List Tok} (h : erase l' = erase l) {i : Nat} {t : Tok} (hi : l[i]? = some t) : ∃ t', l'[i]? = some t' ∧ t'.1 = t.1 ∧ t'.2.1 = t.2.1 := by
  have hl := erase_len h
  have hlt := (List.getElem?_eq_some_iff.1 hi).1
  have h1 := congrArg (fun x => x[i]?) h
  simp only [erase, List.getElem?_map, hi, Option.map_some] at h1
  cases hx : l'[i]? with
  | none => rw [hx] at h1; simp at h1
  | some t' => rw [hx] at h1; simp at h1; exact ⟨t', rfl, h1.1, h1.2⟩
theorem lexGo_len {s : ByteArray} : ∀ (l : List Tok) (p : Nat) (r : Option Nat), p ≤ s.size → lexGo s p = (l, r) → l.length ≤ s.size - p
  | [], _, _, _, _ => Nat.zero_le _
  | t :: l, p, r, hp, h => by
    obtain ⟨k, pl, e, hx, hk, hl, hlt, hle, hg, hj, hpe⟩ := step_more (i := 0) hp h (by simp)
    have := lexGo_len l e r hle hg
    simp only [List.length_cons]
    omega
theorem wrapped {w : Int} {n : Nat} (hn : 0 < n) : ∃ i : Nat, i < n ∧ (w.tmod (n : Int) + (n : Int)).tmod (n : Int) = (i : Int) := by
  have h1 := tm_pos (k := w) (n := (n : Int)) (by omega)
  have h2 := tm_pos (k := w.tmod (n : Int) + (n : Int)) (n := (n : Int)) (by omega)
  have h3 := tm_nn (k := w.tmod (n : Int) + (n : Int)) (n := (n : Int)) (by omega) (by omega)
  exact ⟨((w.tmod (n : Int) + (n : Int)).tmod (n : Int)).toNat, by omega, by omega⟩
end Go.Proofs.Ytnpbpiommpgikaa.Vc
