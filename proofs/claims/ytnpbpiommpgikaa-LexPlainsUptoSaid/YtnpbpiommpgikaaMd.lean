/- A joined text has the same tokens: plain Lean. -/
import Derived.Test.YtnpbpiommpgikaaMc
set_option linter.unusedVariables false
set_option linter.unusedSimpArgs false
namespace Go.Proofs.Ytnpbpiommpgikaa.Vc
open Go Go.RowKit

theorem runN_l2 {u v v' : ByteArray} {c : Int} (hb : cls (byteAt v' 0) ≠ c) (i : Nat) (hi : i ≤ u.size) (h : runN (u ++ v) c i ≤ u.size) : runN (u ++ v') c i = runN (u ++ v) c i := by
  induction hn : u.size - i generalizing i with
  | zero =>
    have : i = u.size := by omega
    subst this
    have h1 : runN (u ++ v') c u.size = u.size := runN_end (by
      rintro ⟨a, b⟩
      have := byteAt_r u v' 0
      rw [Nat.add_zero] at this
      rw [this] at b
      exact hb b)
    have h2 := runN_ge (u ++ v) c u.size
    rw [h1]; omega
  | succ n ih =>
    have hlt : i < u.size := by omega
    by_cases hcl : cls (byteAt u i) = c
    · have e1 : runN (u ++ v) c i = runN (u ++ v) c (i + 1) := by
        by_cases hsz : i < (u ++ v).size
        · exact runN_step hsz (by rw [byteAt_l u v hlt]; exact hcl)
        · rw [size_app] at hsz; omega
      have e2 : runN (u ++ v') c i = runN (u ++ v') c (i + 1) := runN_step (by rw [size_app]; omega) (by rw [byteAt_l u v' hlt]; exact hcl)
      rw [e1] at h ⊢
      rw [e2]
      exact ih (i + 1) (by omega) h (by omega)
    · rw [runN_end (by rintro ⟨_, b⟩; rw [byteAt_l u v' hlt] at b; exact hcl b), runN_end (by rintro ⟨_, b⟩; rw [byteAt_l u v hlt] at b; exact hcl b)]
/-- What may follow a word. -/
def stp (v : ByteArray) : Prop := cls (byteAt v 0) ≠ 2 ∧ cls (byteAt v 0) ≠ 3 ∧ byteAt v 0 ≠ 46
theorem numEnd_l2 {u v v' : ByteArray} (hb : stp v') (i : Nat) (hi : i ≤ u.size) (h : numEnd (u ++ v) i ≤ u.size) : numEnd (u ++ v') i = numEnd (u ++ v) i := by
  have hge := numEnd_ge (u ++ v) i
  have hr : runN (u ++ v') 2 i = runN (u ++ v) 2 i := runN_l2 hb.1 i hi (by omega)
  have h0 : byteAt (u ++ v') u.size = byteAt v' 0 := by have := byteAt_r u v' 0; rwa [Nat.add_zero] at this
  by_cases hc : runN (u ++ v) 2 i + 1 < (u ++ v).size ∧ byteAt (u ++ v) (runN (u ++ v) 2 i) = 46 ∧ cls (byteAt (u ++ v) (runN (u ++ v) 2 i + 1)) = 2
  · have e1 := numEnd_dot hc.1 hc.2.1 hc.2.2
    have hgt := runN_gt hc.1 hc.2.2
    rw [e1] at h
    have k1 : runN (u ++ v) 2 i + 1 < u.size := by omega
    rw [e1, numEnd_dot, hr]
    · exact runN_l2 hb.1 _ (by omega) h
    · rw [hr, size_app]; omega
    · rw [hr, byteAt_l u v' (by omega)]; have := hc.2.1; rwa [byteAt_l u v (by omega)] at this
    · rw [hr, byteAt_l u v' k1]; have := hc.2.2; rwa [byteAt_l u v k1] at this
  · have e1 := numEnd_no hc
    rw [e1] at h ⊢
    rw [numEnd_no, hr]
    rw [hr]
    rintro ⟨a, b, c⟩
    by_cases hq : runN (u ++ v) 2 i = u.size
    · rw [hq, h0] at b; exact hb.2.2 b
    · have k1 : runN (u ++ v) 2 i < u.size := by omega
      by_cases hq2 : runN (u ++ v) 2 i + 1 = u.size
      · rw [hq2, h0] at c; exact hb.1 c
      · have k2 : runN (u ++ v) 2 i + 1 < u.size := by omega
        rw [byteAt_l u v' k1] at b
        rw [byteAt_l u v' k2] at c
        exact hc ⟨by rw [size_app]; omega, by rw [byteAt_l u v k1]; exact b, by rw [byteAt_l u v k2]; exact c⟩
/-- A token that ends before the cut stays. -/
theorem nx_l2 {u v v' : ByteArray} {p : Nat} {k : Int} {t : ByteArray} {pl e : Nat} (hb : stp v' ∨ k = 2) (hp : p ≤ u.size) (h : nx (u ++ v) p = (k, t, pl, e, true)) (hk : k ≠ 3) (he : e ≤ u.size) : nx (u ++ v') p = (k, t, pl, e, true) := by
  obtain ⟨h1, h2, h3, h4⟩ := nx_shape (by rw [size_app]; omega) h hk
  have hj : runN (u ++ v) 1 p < u.size := by omega
  have hj' := runN_ll (v' := v') p hj
  rw [h1] at hj'
  have hlt : pl < u.size := by omega
  have hsz : ¬ pl = (u ++ v').size := by rw [size_app]; omega
  have hbt : byteAt (u ++ v') pl = byteAt (u ++ v) pl := by rw [byteAt_l u v' hlt, byteAt_l u v hlt]
  have hex : ∀ a b, b ≤ u.size → (u ++ v').extract a b = (u ++ v).extract a b := fun a b hb => by rw [ex_l u v' hb, ex_l u v hb]
  have hx := h
  unfold nx at hx
  rw [h1] at hx
  split at hx
  · injection hx with a1 a2; exact absurd a1.symm hk
  · split at hx
    · rename_i hc
      rw [nx_sign hj' hsz (by rw [hbt]; exact hc), hex _ _ (by omega)]; exact hx
    · split at hx
      · rename_i hc
        have hb' : stp v' := hb.resolve_right (fun e => by injection hx with a1 a2; rw [e] at a1; cases a1)
        have e1 : runN (u ++ v) 3 pl = e := by injection hx with a1 a2; injection a2 with a2 a3; injection a3 with a3 a4; injection a4 with a4 a5
        have e2 : runN (u ++ v') 3 pl = e := by rw [runN_l2 (v := v) hb'.2.1 pl (by omega) (by omega)]; exact e1
        rw [e1] at hx
        rw [nx_word hj' hsz (by rw [hbt]; exact hc), e2, hex _ _ he]; exact hx
      · split at hx
        · rename_i hc
          have hb' : stp v' := hb.resolve_right (fun e => by injection hx with a1 a2; rw [e] at a1; cases a1)
          have e1 : numEnd (u ++ v) pl = e := by injection hx with a1 a2; injection a2 with a2 a3; injection a3 with a3 a4; injection a4 with a4 a5
          have e2 : numEnd (u ++ v') pl = e := by rw [numEnd_l2 (v := v) hb' pl (by omega) (by omega)]; exact e1
          rw [e1] at hx
          rw [nx_num hj' hsz (by rw [hbt]; exact hc) e2, hex _ _ he]; exact hx
        · injection hx with a1 a2; injection a2 with a2 a3; injection a3 with a3 a4; injection a4 with a4 a5; cases a5
/-- A text that is one token, of this kind. -/
def TW (k : Int) (t : ByteArray) : Prop := nx (t ++ sp1) 0 = (k, t, 0, t.size, true) ∧ k ≠ 3
theorem runN_idem {s : ByteArray} {c : Int} {p q : Nat} (h : runN s c p = q) : runN s c q = q := by
  induction p using runN.induct s c with
  | case1 i hi ih => rw [runN, if_pos hi] at h; exact ih h
  | case2 i hi => rw [runN, if_neg hi] at h; subst h; exact runN_end hi
theorem ex_cat (s : ByteArray) {a b : Nat} (h : a ≤ b) : s.extract 0 a ++ s.extract a b = s.extract 0 b := by
  apply ba_ext
  rw [ByteArray.data_append, Array.toList_append, ex_list, ex_list, ex_list, List.drop_zero, List.drop_zero]
  have : s.data.toList.take a = (s.data.toList.take b).take a := by rw [List.take_take, Nat.min_eq_left h]
  rw [this, List.take_append_drop]
theorem tw_of {s : ByteArray} {p : Nat} {k : Int} {pl e : Nat} (hp : p ≤ s.size) (h : nx s p = (k, s.extract pl e, pl, e, true)) (hk : k ≠ 3) : TW k (s.extract pl e) := by
  obtain ⟨h1, _, h3, h4⟩ := nx_shape hp h hk
  have idem := runN_idem h1
  have h' : nx s pl = (k, s.extract pl e, pl, e, true) := by rw [← nx_blank (p := p) (q := pl) (by rw [h1, idem])]; exact h
  have hu : (s.extract 0 e).size = e := by rw [ex_size h4]; omega
  have hu0 : (s.extract 0 pl).size = pl := by rw [ex_size (by omega)]; omega
  have e0 := ex_split s h4
  have g := nx_l (u := s.extract 0 e) (v := s.extract e s.size) (v' := sp1) (by decide) (by decide) (p := pl) (by omega) (by rw [e0]; exact h') hk (by omega)
  rw [← ex_cat s (Nat.le_of_lt h3), ByteArray.append_assoc] at g
  have r := nx_r (s.extract 0 pl) (s.extract pl e ++ sp1) 0
  rw [Nat.add_zero, hu0, g] at r
  refine ⟨?_, hk⟩
  have hsz : (s.extract pl e).size = e - pl := ex_size h4
  revert r
  generalize nx (s.extract pl e ++ sp1) 0 = x
  obtain ⟨a, b, c, d, f⟩ := x
  intro r
  simp only [Prod.mk.injEq] at r
  obtain ⟨r1, r2, r3, r4, r5⟩ := r
  subst r1; subst r5
  rw [if_pos rfl] at r3
  rw [hsz, ← r2, show c = 0 by omega, show d = e - pl by omega]
theorem tw_cls {k : Int} {t : ByteArray} (h : TW k t) : ((k = 2 ∧ cls (byteAt t 0) = 4) ∨ (k = 1 ∧ cls (byteAt t 0) = 3) ∨ (k = 0 ∧ cls (byteAt t 0) = 2)) ∧ 0 < t.size := by
  obtain ⟨h, hk⟩ := h
  obtain ⟨h1, _, h3, h4⟩ := nx_shape (Nat.zero_le _) h hk
  refine ⟨?_, h3⟩
  have hb := byteAt_l t sp1 h3
  unfold nx at h
  rw [h1, hb] at h
  split at h
  · injection h with a1 a2; exact absurd a1.symm hk
  · split at h
    · rename_i hc; injection h with a1 a2; exact .inl ⟨a1.symm, hc⟩
    · split at h
      · rename_i hc; injection h with a1 a2; exact .inr (.inl ⟨a1.symm, hc⟩)
      · split at h
        · rename_i hc; injection h with a1 a2; exact .inr (.inr ⟨a1.symm, hc⟩)
        · injection h with a1 a2; injection a2 with a2 a3; injection a3 with a3 a4; injection a4 with a4 a5; cases a5
def allTW (l : List TokZ) : Prop := ∀ t ∈ l, TW t.1 t.2.1
theorem jn_stp : ∀ {l : List TokZ}, allTW l → stp (jn true l)
  | [], _ => by unfold stp; decide
  | t :: l, h => by
    obtain ⟨h1, h2⟩ := tw_cls (h t (List.mem_cons_self ..))
    simp only [jn, Bool.true_and]
    by_cases hw : isW t.1 = true
    · rw [if_pos hw]
      unfold stp
      rw [byteAt_l sp1 _ (by decide)]
      decide
    · rw [if_neg hw, ba_nil']
      unfold stp
      rw [byteAt_l t.2.1 _ h2]
      have h4 : cls (byteAt t.2.1 0) = 4 := by
        rcases h1 with h | h | h
        · exact h.2
        · exact absurd (by unfold isW; rw [h.1]; decide) hw
        · exact absurd (by unfold isW; rw [h.1]; decide) hw
      refine ⟨by rw [h4]; decide, by rw [h4]; decide, fun e => ?_⟩
      rw [e] at h4; revert h4; decide
def er (t : TokZ) : Int × ByteArray := (t.1, t.2.1)
theorem jn_lex : ∀ (l : List TokZ), allTW l → ∀ w, ∃ l', lexGo (jn w l) 0 = (l', none) ∧ erase l' = l.map er
  | [], _, w => by
    have e : runN ByteArray.empty 1 0 = 0 := runN_end (by decide)
    have n0 : nx ByteArray.empty 0 = (3, .empty, 0, 0, true) := nx_end e rfl
    exact ⟨[], by simp only [jn]; exact lexGo_end (by rw [n0]) (by rw [n0]), rfl⟩
  | t :: l, h, w => by
    obtain ⟨l1, g1, g2⟩ := jn_lex l (fun x hx => h x (List.mem_cons_of_mem _ hx)) (isW t.1)
    have htw := h t (List.mem_cons_self ..)
    have hst : stp (jn (isW t.1) l) ∨ t.1 = 2 := by
      by_cases hw : isW t.1 = true
      · rw [hw]; exact .inl (jn_stp fun x hx => h x (List.mem_cons_of_mem _ hx))
      · right
        rcases (tw_cls htw).1 with h | h | h
        · exact h.1
        · exact absurd (by unfold isW; rw [h.1]; decide) hw
        · exact absurd (by unfold isW; rw [h.1]; decide) hw
    have n0 := nx_l2 (v' := jn (isW t.1) l) hst (Nat.zero_le _) htw.1 htw.2 (Nat.le_refl _)
    obtain ⟨l2, g3, g4⟩ := lexGo_r t.2.1 (jn (isW t.1) l) 0 (Nat.zero_le _) g1
    rw [Nat.add_zero] at g3
    have g5 : lexGo (t.2.1 ++ jn (isW t.1) l) 0 = ((t.1, t.2.1, 0) :: l2, none) := by
      rw [lexGo_more (Nat.zero_le _) (by rw [n0]) (by rw [n0]; exact htw.2), n0]
      simp only
      rw [g3]
    have g6 : erase ((t.1, t.2.1, 0) :: l2) = (t :: l).map er := by
      rw [List.map_cons, ← g2, ← g4]; rfl
    simp only [jn]
    by_cases hc : (w && isW t.1) = true
    · rw [if_pos hc]
      obtain ⟨l3, k1, k2⟩ := lexGo_r sp1 (t.2.1 ++ jn (isW t.1) l) 0 (Nat.zero_le _) g5
      have hb : byteAt (sp1 ++ (t.2.1 ++ jn (isW t.1) l)) 0 = 32 := by rw [byteAt_l sp1 _ (by decide)]; decide
      have hs1 : (sp1 ++ (t.2.1 ++ jn (isW t.1) l)).size = 1 + (t.2.1 ++ jn (isW t.1) l).size := by rw [size_app]; rfl
      have q : runN (sp1 ++ (t.2.1 ++ jn (isW t.1) l)) 1 0 = runN (sp1 ++ (t.2.1 ++ jn (isW t.1) l)) 1 1 := runN_step (by omega) (by rw [hb]; decide)
      refine ⟨l3, ?_, by rw [k2, g6]⟩
      rw [lexGo_blank (Nat.zero_le _) (by omega) q]
      exact k1
    · rw [if_neg hc, ba_nil']
      exact ⟨_, g5, g6⟩
theorem tw_lex {s : ByteArray} {r : Option Nat} : ∀ (l : List Tok) (p : Nat), p ≤ s.size → lexGo s p = (l, r) → allTW (l.map toZ)
  | [], _, _, _ => by intro x hx; cases hx
  | t :: l, p, hp, h => by
    obtain ⟨k, pl, e, hx, hk, hl, hlt, hle, hg, hj, hpe⟩ := step_more (i := 0) hp h (by simp)
    have ih := tw_lex l e hle hg
    simp only [List.getElem?_cons_zero, Option.some.injEq] at hl
    subst hl
    intro x hx'
    rw [List.map_cons, List.mem_cons] at hx'
    rcases hx' with rfl | hx'
    · exact tw_of hp hx hk
    · exact ih x hx'
def szs (l : List Tok) : Nat := (l.map fun t => t.2.1.size).sum
theorem szs_lex {s : ByteArray} {r : Option Nat} : ∀ (l : List Tok) (p : Nat), p ≤ s.size → lexGo s p = (l, r) → szs l ≤ s.size - p
  | [], _, _, _ => Nat.zero_le _
  | t :: l, p, hp, h => by
    obtain ⟨k, pl, e, hx, hk, hl, hlt, hle, hg, hj, hpe⟩ := step_more (i := 0) hp h (by simp)
    have ih := szs_lex l e hle hg
    simp only [List.getElem?_cons_zero, Option.some.injEq] at hl
    subst hl
    have h1 := runN_ge s 1 p
    have h2 := ex_size (a := pl) hle
    unfold szs at ih ⊢
    rw [List.map_cons, List.sum_cons]
    show (s.extract pl e).size + _ ≤ _
    omega
theorem jn_len (w : Bool) : ∀ (l : List Tok), (jn w (l.map toZ)).size ≤ szs l + l.length
  | [] => Nat.zero_le _
  | t :: l => by
    have ih := jn_len (isW t.1) l
    unfold szs at ih ⊢
    rw [List.map_cons, List.map_cons, List.sum_cons]
    simp only [jn, size_app]
    have h1 : (if (w && isW (toZ t).1) = true then sp1 else ByteArray.empty).size ≤ 1 := by split <;> decide
    have h2 : (toZ t).2.1.size = t.2.1.size := rfl
    have h3 : isW (toZ t).1 = isW t.1 := rfl
    rw [h3] at h1 ⊢
    rw [h2]
    simp only [List.length_cons]
    omega
theorem jn_er : ∀ (a b : List TokZ) (w : Bool), a.map er = b.map er → jn w a = jn w b
  | [], [], _, _ => rfl
  | [], _ :: _, _, h => by cases h
  | _ :: _, [], _, h => by cases h
  | x :: a, y :: b, w, h => by
    rw [List.map_cons, List.map_cons] at h
    injection h with h1 h2
    have e1 : x.1 = y.1 := by show (er x).1 = (er y).1; rw [h1]
    have e2 : x.2.1 = y.2.1 := by show (er x).2 = (er y).2; rw [h1]
    simp only [jn, e1, e2, jn_er a b _ h2]
theorem er_toZ (l : List Tok) : (l.map toZ).map er = erase l := by rw [List.map_map]; rfl
theorem jnT_lex {s : ByteArray} {l : List Tok} (h : lexGo s 0 = (l, none)) : ∃ m, lexGo (jnT l) 0 = (m, none) ∧ erase m = erase l ∧ jnT m = jnT l ∧ (jnT l).size ≤ 2 * s.size ∧ l.length ≤ s.size := by
  obtain ⟨m, g1, g2⟩ := jn_lex (l.map toZ) (tw_lex l 0 (Nat.zero_le _) h) false
  rw [er_toZ] at g2
  have h1 := szs_lex l 0 (Nat.zero_le _) h
  have h2 := jn_len false l
  have h3 := lexGo_len l 0 none (Nat.zero_le _) h
  refine ⟨m, g1, g2, ?_, by unfold jnT; omega, by omega⟩
  exact jn_er _ _ _ (by rw [er_toZ, er_toZ, g2])
end Go.Proofs.Ytnpbpiommpgikaa.Vc
