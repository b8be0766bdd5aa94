/- The calculus, thirteenth part: rows that are not born yet; objects of a round left behind. -/
import Derived.Test.YtcdipmjgpimmdaaVcL
set_option linter.unusedVariables false
set_option linter.unusedSimpArgs false
namespace Go.Proofs.Ytcdipmjgpimmdaa.Vc
open Go Go.RowKit

mutual
/-- It names own objects below n alone. -/
def idB (n : Nat) : V → Bool
  | .p id _ _ => Nat.blt id n
  | .o id _ _ _ => Nat.blt id n
  | .f _ cs => idBL n cs
  | .a cs => idBL n cs
  | .t cs => idBL n cs
  | _ => true
def idBL (n : Nat) : List V → Bool
  | [] => true
  | y :: ys => idB n y && idBL n ys
end
section
variable {P : Program} {Γ : Ctx} {F : Fr} {H : List Ob} {Q : Exit → Fr → List Ob → Prop}
mutual
theorem Rel.cut {w : World} {L : Nat → Prop} {B n : Nat} {ρ : List Re} : ∀ (y : V) (v : Value), idB n y = true → Rel w L B ρ y v → Rel w L B (ρ.take n) y v
  | .i _ _, _, _, h => h
  | .b _, _, _, h => h
  | .s _, _, _, h => h
  | .c _, _, _, h => h
  | .n _ _ _, _, _, h => h
  | .l _ _ _, _, _, h => h
  | .q _, _, _, h => h
  | .u, _, _, h => h
  | .p id _ _, _, hi, ⟨re, e, h⟩ => ⟨re, by rw [List.getElem?_take, if_pos (by simpa [idB] using hi)]; exact e, h⟩
  | .o id _ _ _, _, hi, ⟨re, e, h⟩ => ⟨re, by rw [List.getElem?_take, if_pos (by simpa [idB] using hi)]; exact e, h⟩
  | .f _ cs, _, hi, ⟨us, e, h⟩ => ⟨us, e, RelL.cut cs us hi h⟩
  | .a cs, _, hi, ⟨us, e, h⟩ => ⟨us, e, RelL.cut cs us hi h⟩
  | .t cs, _, hi, ⟨us, e, h⟩ => ⟨us, e, RelL.cut cs us hi h⟩
theorem RelL.cut {w : World} {L : Nat → Prop} {B n : Nat} {ρ : List Re} : ∀ (ys : List V) (us : List Value), idBL n ys = true → RelL w L B ρ ys us → RelL w L B (ρ.take n) ys us
  | [], _, _, h => h
  | y :: ys, us, hi, ⟨u, us', e, h1, h2⟩ => by
    simp only [idBL, Bool.and_eq_true] at hi
    exact ⟨u, us', e, Rel.cut y u hi.1 h1, RelL.cut ys us' hi.2 h2⟩
end
/-- The objects' own cells name objects below n alone. -/
def ObsId (n : Nat) (H : List Ob) : Prop := ∀ ob ∈ H, ob.live = true → ∀ y ∈ ob.cs, idB n y = true
theorem ObsId.nil {n : Nat} : ObsId n [] := fun _ h => by simp at h
theorem ObsId.cons {n : Nat} {ob : Ob} {H : List Ob} (h : ob.cs.all (idB n) = true) (hs : ObsId n H) : ObsId n (ob :: H) := fun o ho hl y hy => by
  rcases List.mem_cons.1 ho with rfl | ho
  · exact List.all_eq_true.1 h y hy
  · exact hs o ho hl y hy
theorem ObsId.dead {n : Nat} {ob : Ob} {H : List Ob} (h : ob.live = false) (hs : ObsId n H) : ObsId n (ob :: H) := fun o ho hl y hy => by
  rcases List.mem_cons.1 ho with rfl | ho
  · rw [h] at hl; simp at hl
  · exact hs o ho hl y hy
theorem ints_id {n : Nat} {k : IntKind} {l : List Int} : (ints k l).all (idB n) = true := by
  rw [List.all_eq_true]
  intro y hy
  obtain ⟨x, _, rfl⟩ := List.mem_map.1 hy
  rfl
/-- Objects from n on are left behind. -/
theorem StA.cut {ρ : List Re} {a : Act} {w : World} (n : Nat) (s : StA Γ ρ F H a w) (hF : F.all (fun p => idB n p.2) = true) (hO : ObsId n (H.take n)) (hΓ : Γ.ρ0 = []) : StA Γ (ρ.take n) F (H.take n) a w := by
  have at1 : ∀ (i : Nat) (o : Ob), (H.take n)[i]? = some o → i < n ∧ H[i]? = some o := fun i o h => by
    rw [List.getElem?_take] at h
    split at h
    · exact ⟨by assumption, h⟩
    · cases h
  have at2 : ∀ (i : Nat) (r : Re), (ρ.take n)[i]? = some r → ρ[i]? = some r := fun i r h => by
    rw [List.getElem?_take] at h
    split at h
    · exact h
    · cases h
  have lsub : ∀ b, Lset Γ.M (ρ.take n) (H.take n) b → Lset Γ.M ρ H b := by
    rintro b (h | ⟨i, o, r, h1, h2, h3, h4⟩)
    · exact .inl h
    · exact .inr ⟨i, o, r, (at1 i o h1).2, h2, at2 i r h3, h4⟩
  have ev : Ev w (Lset Γ.M ρ H) Γ.w0.heap.size (ρ.take n) w (Lset Γ.M (ρ.take n) (H.take n)) Γ.w0.heap.size (ρ.take n) :=
    ⟨Nat.le_refl _, fun _ _ _ => rfl, fun b _ hn h => hn (lsub b h), Nat.le_refl _, fun i r h => ⟨r, h, Nat.le_refl _, fun _ => rfl⟩⟩
  refine ⟨⟨by simp [s.hr.len], fun i o h1 h2 => ?_, fun i j oi oj ri rj g hij h1 h2 h3 h4 h5 h6 => s.hr.apart i j oi oj ri rj g hij (at1 i oi h1).2 h2 (at1 j oj h3).2 h4 (at2 i ri h5) (at2 j rj h6), fun i o r g h1 h2 h3 => s.hr.foreign i o r g (at1 i o h1).2 h2 (at2 i r h3)⟩, s.n, s.ds, fun t => ?_,
    ⟨s.fro.os, s.fro.tape, s.fro.output, s.fro.size, s.fro.blk, s.fro.old, fun i o r g h1 h2 h3 => s.fro.mine i o r g (at1 i o h1).2 h2 (at2 i r h3), fun i r h => by rw [hΓ] at h; simp at h⟩⟩
  · obtain ⟨hin, h1'⟩ := at1 i o h1
    obtain ⟨r, h3, h4⟩ := s.hr.ob i o h1' h2
    refine ⟨r, by rw [List.getElem?_take, if_pos hin]; exact h3, h4.ver, h4.sz, h4.nob, fun g hg => ?_⟩
    obtain ⟨cur, c1, c2, c3, c4, c5⟩ := h4.blk g hg
    exact ⟨cur, c1, c2, c3, c4, fun j y hy => by
      obtain ⟨u, d1, d2, d3⟩ := c5 j y hy
      exact ⟨u, d1, d2, (d3.cut y u (hO o (List.mem_of_getElem? h1) h2 y (List.mem_of_getElem? hy))).ev ev⟩⟩
  · have := s.fr t
    have hid : idB n (get F t) = true := by
      unfold get
      cases e : getO F t with
      | none => rfl
      | some y =>
        have : ∀ (F : Fr) y, F.all (fun p => idB n p.2) = true → getO F t = some y → idB n y = true := by
          intro F
          induction F with
          | nil => intro y _ h; simp [getO] at h
          | cons p F ih =>
            intro y ha h
            simp only [List.all_cons, Bool.and_eq_true] at ha
            simp only [getO] at h
            cases hb : Nat.beq t p.1
            · rw [hb] at h; exact ih y ha.2 h
            · rw [hb] at h; injection h with h; rw [← h]; exact ha.1
        exact this F y hF e
    exact (this.cut _ _ hid).ev ev
/-- A loop whose rounds leave objects behind: n objects stay. -/
theorem jc_loopD {c : Code} {G : Type} (n : Nat) (C : G → Prop) (m : G → Fr) (Hg : G → List Ob) (μ : G → Nat) (g0 : G) (h0 : C g0) (hF : Says F (m g0)) (hH : H = Hg g0) (hΓ : Γ.ρ0 = []) (hFn : F.all (fun p => idB n p.2) = true)
    (hm : ∀ g, C g → (m g).all (fun p => idB n p.2) = true) (hO : ∀ g, C g → ObsId n (Hg g))
    (round : ∀ g, C g → JC P c Γ (m g ++ F) (Hg g) (qThen (fun F' H' => ∃ g', C g' ∧ μ g' < μ g ∧ H'.take n = Hg g' ∧ Cov F' (m g') F) Q)) : JC P (.loop c) Γ F H Q :=
  jc_loop C (fun g => m g ++ F) Hg μ g0 h0 (fun a w s => hH ▸ s.cov (cov_start hF)) fun g hg =>
    JC_mono (fun e F' H' q => by
      cases e with
      | normal =>
        obtain ⟨g', h1, h2, h3, h4⟩ := q
        refine ⟨g', h1, h2, fun a w s => ?_⟩
        obtain ⟨ρ, s'⟩ := s.cov h4
        exact ⟨_, h3 ▸ s'.cut n (by rw [List.all_append, hFn, hm g' h1]; rfl) (by rw [h3]; exact hO g' h1) hΓ⟩
      | _ => exact q) (round g hg)
theorem str_beq (p q : ByteArray) : (p.toList == q.toList) = decide (p = q) := by
  rw [ByteArray.toList_eq, ByteArray.toList_eq]
  by_cases h : p = q
  · subst h; simp
  · rw [decide_eq_false h]
    cases hb : (p.data.toList == q.data.toList)
    · rfl
    · have e := eq_of_beq hb
      exact absurd (by cases p; cases q; simp at e; rw [e]) h
theorem ly_eqS {x y : Operand} {T T' : TypeId} {p q : ByteArray} (hx : ovO F x = some (.s p)) (hy : ovO F y = some (.s q)) : LY P Γ (.binOp .eql T x y T') F H (.b (decide (p = q))) := by
  rw [← str_beq]; exact ly_eqs hx hy
theorem ly_neS {x y : Operand} {T T' : TypeId} {p q : ByteArray} (hx : ovO F x = some (.s p)) (hy : ovO F y = some (.s q)) : LY P Γ (.binOp .neq T x y T') F H (.b (decide (p ≠ q))) := by
  have : decide (p ≠ q) = !(p.toList == q.toList) := by rw [str_beq]; simp
  rw [this]; exact ly_nes hx hy
/-- A truth that is known. -/
theorem ly_tt {op : Op} {p : Prop} [Decidable p] (h : LY P Γ op F H (.b (decide p))) (hp : p) : LY P Γ op F H (.b true) := by rwa [decide_eq_true hp] at h
theorem ly_ff {op : Op} {p : Prop} [Decidable p] (h : LY P Γ op F H (.b (decide p))) (hp : ¬ p) : LY P Γ op F H (.b false) := by rwa [decide_eq_false hp] at h
theorem ly_is {op : Op} {y z : V} (h : LY P Γ op F H y) (e : y = z) : LY P Γ op F H z := e ▸ h
theorem setV_all : ∀ (cs ys : List V), cs.length = ys.length → setV cs 0 ys = ys := fun cs ys h => by
  apply List.ext_getElem?
  intro j
  cases e : (setV cs 0 ys)[j]? with
  | none =>
    have : cs.length ≤ j := by have := List.getElem?_eq_none_iff.1 e; rwa [setV_length] at this
    rw [List.getElem?_eq_none (by omega)]
  | some y =>
    rcases setV_at cs 0 ys j y e with ⟨_, _, h3⟩ | ⟨h1, h2⟩
    · rw [← h3]; rfl
    · have := (List.getElem?_eq_some_iff.1 h2).1
      omega
theorem takeV_all {ys : List V} {n : Nat} (h : ys.length = n) : takeV ys 0 n = ys := by rw [takeV_eq, List.drop_zero, ← h, List.take_length]
theorem retv_ints {k : IntKind} : ∀ (l : List Int), RetV H (.a (ints k l)) (.a (ints k l))
  | [] => .a0
  | _ :: l => .a1 .i (retv_ints l)
theorem ints_one {k : IntKind} {l : List Int} : (ints k l).all (oneO H) = true := by
  rw [List.all_eq_true]
  intro y hy
  obtain ⟨x, _, rfl⟩ := List.mem_map.1 hy
  rfl
theorem ints_pure {k : IntKind} {l : List Int} : (ints k l).all pureV = true := by
  rw [List.all_eq_true]
  intro y hy
  obtain ⟨x, _, rfl⟩ := List.mem_map.1 hy
  rfl
/-- A slice that is nil as an own row that is not born yet. -/
theorem jc_own0 {c : Code} (t : Nat) {id : Nat} (T sz : Nat) (hx : getO F t = some (.c (.slice none 0 0))) (hid : H.length = id) (j : JC P c Γ ((t, .o id 0 0 0) :: F) (H ++ [⟨T, sz, 0, true, []⟩]) Q) : JC P c Γ F H Q := fun a w ⟨ρ, s⟩ => by
  have s' := s.born (re := ⟨none, 0, 0, sz⟩) (ob := ⟨T, sz, 0, true, []⟩) (w' := w) ⟨rfl, rfl, rfl, Nat.le_refl _, fun _ _ _ => rfl⟩ rfl rfl rfl (fun g h => by cases h) (fun _ => ⟨rfl, rfl⟩) (fun g h => by cases h)
  refine j a w ⟨_, s'.hr, s'.n, s'.ds, fun t' => ?_, s'.fro⟩
  rw [get_cons]
  by_cases e : t' = t
  · rw [if_pos e]
    have h1 := s'.fr t'
    unfold get at h1
    rw [e, hx] at h1
    rw [e]
    have h2 : a.tmps.getD t undef = .slice none 0 0 := h1
    refine ⟨⟨none, 0, 0, sz⟩, ?_, Nat.zero_le _, fun _ => ⟨Nat.le_refl _, .inr ⟨rfl, h2, rfl, rfl⟩⟩⟩
    rw [← hid, ← s.hr.len]
    simp
  · rw [if_neg e]; exact s'.fr t'
end
end Go.Proofs.Ytcdipmjgpimmdaa.Vc
