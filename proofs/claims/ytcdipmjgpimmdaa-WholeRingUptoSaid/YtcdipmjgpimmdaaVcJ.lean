/- The calculus, tenth part: loops and meeting points, the slots that change named, the others as they were. -/
import Derived.Test.YtcdipmjgpimmdaaVcI
set_option linter.unusedVariables false
set_option linter.unusedSimpArgs false
namespace Go.Proofs.Ytcdipmjgpimmdaa.Vc
open Go Go.RowKit

/-- All that the named entries (over the frame below them) say is so in the frame at hand. -/
def Cov (F' m F : Fr) : Prop := ∀ t y, getO (m ++ F) t = some y → y = .u ∨ getO F' t = some y
def inK : Fr → Nat → Bool
  | [], _ => false
  | (t, _) :: r, k => bif Nat.beq k t then true else inK r k
def keysIn : Fr → Fr → Bool
  | [], _ => true
  | (t, _) :: r, m => bif inK m t then keysIn r m else false
/-- What the named entries say. -/
def Says (F' : Fr) : Fr → Prop
  | [] => True
  | (t, y) :: r => (y = .u ∨ getO F' t = some y) ∧ Says F' r
theorem Says.nil {F' : Fr} : Says F' [] := trivial
theorem Says.u {F' : Fr} {t : Nat} {r : Fr} (h : Says F' r) : Says F' ((t, .u) :: r) := ⟨.inl rfl, h⟩
theorem Says.cons {F' : Fr} {t : Nat} {y : V} {r : Fr} (e : getO F' t = some y) (h : Says F' r) : Says F' ((t, y) :: r) := ⟨.inr e, h⟩
theorem getO_append_in : ∀ (m F : Fr) (t : Nat), inK m t = true → getO (m ++ F) t = getO m t
  | (k, y) :: r, F, t, h => by
    simp only [inK, List.cons_append, getO] at h ⊢
    cases hb : Nat.beq t k
    · rw [hb] at h; exact getO_append_in r F t h
    · rfl
theorem getO_append_out : ∀ (m F : Fr) (t : Nat), inK m t = false → getO (m ++ F) t = getO F t
  | [], F, t, h => rfl
  | (k, y) :: r, F, t, h => by
    simp only [inK, List.cons_append, getO] at h ⊢
    cases hb : Nat.beq t k
    · rw [hb] at h; exact getO_append_out r F t h
    · rw [hb] at h; simp at h
theorem says_at {F' : Fr} : ∀ {m : Fr} {t : Nat} {y : V}, Says F' m → getO m t = some y → y = .u ∨ getO F' t = some y
  | [], t, y, _, h => by simp [getO] at h
  | (k, z) :: r, t, y, ⟨h1, h2⟩, h => by
    simp only [getO] at h
    cases hb : Nat.beq t k
    · rw [hb] at h; exact says_at h2 h
    · rw [hb] at h
      have e := Nat.eq_of_beq_eq_true hb
      subst e
      injection h with h
      subst h
      exact h1
theorem keysIn_at : ∀ {A m : Fr} {t : Nat}, keysIn A m = true → inK m t = false → inK A t = false
  | [], m, t, _, _ => rfl
  | (k, y) :: r, m, t, h, h2 => by
    simp only [keysIn] at h
    cases hk : inK m k
    · rw [hk] at h; simp at h
    · rw [hk] at h
      simp only [inK]
      cases hb : Nat.beq t k
      · exact keysIn_at h h2
      · have e := Nat.eq_of_beq_eq_true hb
        subst e
        rw [hk] at h2; simp at h2
/-- The frame at hand is what was there, with entries in front that name no other slots. -/
theorem cov_of {m F : Fr} (A : Fr) (hk : keysIn A m = true) (h : Says (A ++ F) m) : Cov (A ++ F) m F := fun t y e => by
  cases hm : inK m t
  · rw [getO_append_out m F t hm] at e
    rw [getO_append_out A F t (keysIn_at hk hm)]
    exact .inr e
  · rw [getO_append_in m F t hm] at e
    exact says_at h e
theorem cov_start {m F : Fr} (h : Says F m) : Cov F m F := cov_of (A := []) rfl h

section
variable {P : Program} {Γ : Ctx} {F : Fr} {H : List Ob} {Q : Exit → Fr → List Ob → Prop}
theorem StA.cov {ρ : List Re} {a : Act} {w : World} {F' m : Fr} (h : Cov F' m F) (s : StA Γ ρ F' H a w) : StA Γ ρ (m ++ F) H a w :=
  ⟨s.hr, s.n, s.ds, fun t => by
    have := s.fr t
    unfold get at this ⊢
    cases e : getO (m ++ F) t with
    | none => trivial
    | some y =>
      rcases h t y e with rfl | h
      · trivial
      · rw [h] at this; exact this, s.fro⟩
theorem St.cov {a : Act} {w : World} {F' m : Fr} (h : Cov F' m F) (s : St Γ F' H a w) : St Γ (m ++ F) H a w := by obtain ⟨ρ, s⟩ := s; exact ⟨ρ, s.cov h⟩

/-- A loop: ghost, what holds of it, the slots that change, the own objects, a measure. -/
theorem jc_loopF {c : Code} {G : Type} (C : G → Prop) (m : G → Fr) (Hg : G → List Ob) (μ : G → Nat) (g0 : G) (h0 : C g0) (hF : Says F (m g0)) (hH : H = Hg g0)
    (round : ∀ g, C g → JC P c Γ (m g ++ F) (Hg g) (qThen (fun F' H' => ∃ g', C g' ∧ μ g' < μ g ∧ H' = Hg g' ∧ Cov F' (m g') F) Q)) : JC P (.loop c) Γ F H Q :=
  jc_loop C (fun g => m g ++ F) Hg μ g0 h0 (fun a w s => hH ▸ s.cov (cov_start hF)) fun g hg =>
    JC_mono (fun e F' H' q => by
      cases e with
      | normal => obtain ⟨g', h1, h2, h3, h4⟩ := q; exact ⟨g', h1, h2, fun a w s => h3 ▸ s.cov h4⟩
      | _ => exact q) (round g hg)
/-- A meeting point: what holds where the ways meet. -/
def Meet (G : Type) (C : G → Prop) (m : G → Fr) (Hg : G → List Ob) (F F' : Fr) (H' : List Ob) : Prop := ∃ g, C g ∧ H' = Hg g ∧ Cov F' (m g) F
theorem jc_meet {x y : Code} {G : Type} (C : G → Prop) (m : G → Fr) (Hg : G → List Ob) (h1 : JC P x Γ F H (qThen (Meet G C m Hg F) Q)) (h2 : ∀ g, C g → JC P y Γ (m g ++ F) (Hg g) Q) : JC P (.seq x y) Γ F H Q := fun a w s =>
  wp_seq (Code.wp_mono (fun e a w ⟨F', H', q, s'⟩ => by
    cases e <;> first | (obtain ⟨g, c1, c2, c3⟩ := q; exact h2 g c1 a w (c2 ▸ s'.cov c3)) | exact ⟨F', H', q, s'⟩) (h1 a w s))
/-- The same, the objects being as they were. -/
theorem jc_meetH {x y : Code} {G : Type} (C : G → Prop) (m : G → Fr) (h1 : JC P x Γ F H (qThen (Meet G C m (fun _ => H) F) Q)) (h2 : ∀ g, C g → JC P y Γ (m g ++ F) H Q) : JC P (.seq x y) Γ F H Q := jc_meet C m (fun _ => H) h1 h2
theorem jc_if {c : Operand} {x y : Code} {p : Prop} [Decidable p] (h : ovO F c = some (.b (decide p))) (ht : p → JC P x Γ F H Q) (hf : ¬ p → JC P y Γ F H Q) : JC P (.cond c x y) Γ F H Q := fun a w ⟨ρ, s⟩ =>
  wp_cond_split (eval_b s h) (fun e => ht (of_decide_eq_true e) a w ⟨ρ, s⟩) (fun e => hf (of_decide_eq_false e) a w ⟨ρ, s⟩)
theorem jc_ifn {c : Operand} {x y : Code} {p : Prop} [Decidable p] (h : ovO F c = some (.b (!decide p))) (ht : ¬ p → JC P x Γ F H Q) (hf : p → JC P y Γ F H Q) : JC P (.cond c x y) Γ F H Q := fun a w ⟨ρ, s⟩ =>
  wp_cond_split (eval_b s h) (fun e => ht (by simpa using e) a w ⟨ρ, s⟩) (fun e => hf (by simpa using e) a w ⟨ρ, s⟩)
/-- A truth in a slot that is a proposition's. -/
theorem jo_ifp {ops : Array Oper} {l : List Oper} (t : Nat) {p : Prop} [Decidable p] (h : getO F t = some (.b (decide p))) (ht : p → JO P ops l Γ ((t, .b true) :: F) H Q) (hf : ¬ p → JO P ops l Γ ((t, .b false) :: F) H Q) : JO P ops l Γ F H Q :=
  jo_split t h (fun e => ht (of_decide_eq_true e)) (fun e => hf (of_decide_eq_false e))
theorem cov_n {F' m F : Fr} (n : Nat) (hA : F'.drop n = F) (hk : keysIn (F'.take n) m = true) (h : Says F' m) : Cov F' m F := by
  have e : F' = F'.take n ++ F := by rw [← hA, List.take_append_drop]
  have h' : Says (F'.take n ++ F) m := e ▸ h
  rw [e]
  exact cov_of _ hk h'
theorem jc_litt {c : Operand} {x y : Code} (h : ovO F c = some (.b true)) (j : JC P x Γ F H Q) : JC P (.cond c x y) Γ F H Q := jc_cond h (fun _ => j) (fun e => by simp at e)
theorem jc_litf {c : Operand} {x y : Code} (h : ovO F c = some (.b false)) (j : JC P y Γ F H Q) : JC P (.cond c x y) Γ F H Q := jc_cond h (fun e => by simp at e) (fun _ => j)
theorem wrap_i32 {m : Int} (h1 : -2147483648 ≤ m) (h2 : m < 2147483648) : IntKind.i32.wrap m = m := by
  simp only [IntKind.wrap, IntKind.bits, IntKind.signed] <;> simp <;> omega
theorem wrap_u32 {m : Int} (h1 : 0 ≤ m) (h2 : m < 4294967296) : IntKind.u32.wrap m = m := by
  simp only [IntKind.wrap, IntKind.bits, IntKind.signed] <;> simp <;> omega
theorem wrap_u8 {m : Int} (h1 : 0 ≤ m) (h2 : m < 256) : IntKind.u8.wrap m = m := by
  simp only [IntKind.wrap, IntKind.bits, IntKind.signed] <;> simp <;> omega
theorem wrap_i64 {m : Int} (h1 : -9223372036854775808 ≤ m) (h2 : m < 9223372036854775808) : IntKind.i64.wrap m = m := by
  simp only [IntKind.wrap, IntKind.bits, IntKind.signed] <;> simp <;> omega
theorem wrap_u64 {m : Int} (h1 : 0 ≤ m) (h2 : m < 18446744073709551616) : IntKind.u64.wrap m = m := by
  simp only [IntKind.wrap, IntKind.bits, IntKind.signed] <;> simp <;> omega
end
end Go.Proofs.Ytcdipmjgpimmdaa.Vc
