/- The calculus: functions of the run-time over three whole numbers; arrays by value; what is the same in every world. -/
import Derived.Test.YtcdipmjgpimmdaaVcT
import Derived.Laws.Externs
set_option linter.unusedVariables false
set_option linter.unusedSimpArgs false
namespace Go.Proofs.Ytcdipmjgpimmdaa.Vc
open Go Go.RowKit
section
variable {P : Program} {Γ : Ctx} {F : Fr} {H : List Ob} {Q : Exit → Fr → List Ob → Prop}
theorem hy_ext3 {f : FuncId} {fn : Func} {e : Array Value → Sem Value} {x y z : Operand} {ts : Array TypeId} {k1 k2 k3 : IntKind} {m n c : Int} {v : Value} {yy : V} (hf : P.funcs[f]? = some fn) (hname : (fn.name == "runtime.NumGoroutine") = false)
    (hb : fn.body.isNone = true) (hn : Extern.findNext fn = none) (he : Extern.find fn = some e) (hx : ovO F x = some (.i k1 m)) (hy : ovO F y = some (.i k2 n)) (hz : ovO F z = some (.i k3 c))
    (hrun : ∀ w, (e #[.int k1 m, .int k2 n, .int k3 c]).run P w = .ok v w) (hv : ∀ w L B ρ, Rel w L B ρ yy v) :
    HY P Γ (.call { callee := .value (.func f), args := #[x, y, z], argTypes := ts }) F H yy H := fun ρ a w s => by
  refine ⟨v, w, ρ, hv _ _ _ _, s, Ext.refl w, fun _ _ _ _ _ => ?_⟩
  have e0 : a.eval (.func f) = .func (.func f) #[] #[] := rfl
  simp [execOp, resolve, e0, Deferred.ofValue, invoke]
  rw [run_callFunc_extern hf hname hb hn he, eval_i s hx, eval_i s hy, eval_i s hz]
  simp [hrun]
theorem rel_pair {k : IntKind} {a b : Int} : ∀ w L B ρ, Rel w L B ρ (.t [.i k a, .i k b]) (.tuple #[.int k a, .int k b]) := fun w L B ρ => ⟨[.int k a, .int k b], rfl, _, _, rfl, rfl, _, _, rfl, rfl, rfl⟩
def sub64Entry : Array Value → Sem Value := fun args => do
  let (x, y, b) ← Extern.MathBitsCarry.three "Sub64" args
  pure (Extern.MathBitsCarry.pair ((x + Extern.MathBitsCarry.m64 - y - b) % Extern.MathBitsCarry.m64) (if x < y + b then 1 else 0))
theorem run_sub64 (x y c : Int) (hx : 0 ≤ x) (hx1 : x < 18446744073709551616) (hy : 0 ≤ y) (hy1 : y < 18446744073709551616) (hc0 : 0 ≤ c) (hc : c ≤ 1) (w : World) :
    (sub64Entry #[.int .u64 x, .int .u64 y, .int .u64 c]).run P w =
      .ok (.tuple #[.int .u64 (if x < y + c then x - y - c + 18446744073709551616 else x - y - c), .int .u64 (if x < y + c then 1 else 0)]) w := by
  have key : ∀ k : Nat, k ≤ 1 → (sub64Entry #[.int .u64 x, .int .u64 y, .int .u64 (k : Int)]).run P w =
      .ok (Extern.MathBitsCarry.pair ((x.toNat + Extern.MathBitsCarry.m64 - y.toNat - k) % Extern.MathBitsCarry.m64) (if x.toNat < y.toNat + k then 1 else 0)) w := by
    intro k hk
    have : k = 0 ∨ k = 1 := by omega
    rcases this with rfl | rfl <;> rfl
  obtain ⟨k, rfl⟩ := Int.eq_ofNat_of_zero_le hc0
  rw [key k (by omega)]
  obtain ⟨X, rfl⟩ := Int.eq_ofNat_of_zero_le hx
  obtain ⟨Y, rfl⟩ := Int.eq_ofNat_of_zero_le hy
  have hm : Extern.MathBitsCarry.m64 = 18446744073709551616 := rfl
  simp only [Extern.MathBitsCarry.pair, hm, Int.toNat_natCast]
  have e1 : (Int.ofNat ((X + 18446744073709551616 - Y - k) % 18446744073709551616)) = (if (X : Int) < (Y : Int) + (k : Int) then (X : Int) - Y - k + 18446744073709551616 else (X : Int) - Y - k) := by
    show ((((X + 18446744073709551616 - Y - k) % 18446744073709551616 : Nat)) : Int) = _
    split <;> omega
  have e2 : (Int.ofNat (if X < Y + k then 1 else 0)) = (if (X : Int) < (Y : Int) + (k : Int) then 1 else 0) := by
    by_cases h : X < Y + k
    · rw [if_pos h, if_pos (by omega)]; rfl
    · rw [if_neg h, if_neg (by omega)]; rfl
  rw [e1, e2]
/-- The same in every world. -/
theorem ly_const {op : Op} {v : Value} {y : V} (hr : ∀ w L B ρ, Rel w L B ρ y v) (h : ∀ (a : Act) (dst : Option Tmp) (type : TypeId) (pos : String) (after : Array Edge) (g : Option (Nat × Bool)) (w' : World), (execOp a.eval ⟨dst, op, type, pos, after, g⟩).run P w' = .ok (.value v) w') : LY P Γ op F H y :=
  fun ρ a w s => ⟨v, hr _ _ _ _, fun dst type pos after g w' _ => h a dst type pos after g w'⟩
/-- An array's place, by value. -/
theorem ly_ixa {T E n i : Nat} {x ix : Operand} {cs : List V} {k : IntKind} {m : Int} {y : V} (hT : P.underlying T = some (.array n E)) (hE : oneB P E = true) (hx : ovO F x = some (.a cs)) (hi : ovO F ix = some (.i k m)) (hn : m = (i : Int)) (hlt : i < n) (hy : cs[i]? = some y) :
    LY P Γ (.index T x ix) F H y := fun ρ a w s => by
  obtain ⟨us, hv, hr⟩ := s.ov hx
  obtain ⟨u, hu, hrel⟩ := relL_at cs us i y hr hy
  refine ⟨u, hrel, fun _ _ _ _ _ w' _ => ?_⟩
  have e : (Instr.index T (a.eval x) (a.eval ix)).run P w' = .ok u w' := by
    rw [hv, eval_i s hi, hn]
    simp [Instr.index, asIntOf, run_underlying hT, hlt, run_sizeOf' (oneB_size hE), part, oneB_isAgg hE, hu]
  exact run_v e
/-- A part of a call's results, whatever the world. -/
theorem lo_ext {ops : Array Oper} {d : Nat} {x : Operand} {T : TypeId} {ps : String} {af : Array Edge} {vs : List V} {i : Nat} {y : V} (hx : ovO F x = some (.t vs)) (hy : vs[i]? = some y) (hd : d < Γ.N) : LO P ops false Γ ⟨some d, .extract x i, T, ps, af, none⟩ d F H y :=
  ⟨rfl, hd, fun ρ a w s => by
    obtain ⟨us, hv, hr⟩ := s.ov hx
    obtain ⟨u, hu, hr'⟩ := relL_at vs us i y hr hy
    refine ⟨u, hr', .inl ⟨rfl, fun w' _ => ?_⟩⟩
    have e : (Instr.extract (a.eval x) i).run P w' = .ok u w' := by rw [hv]; simp [Instr.extract, hu]
    exact run_v e⟩
/-! ### A light operation first: of the others, those that wait for it, through whatever, are left out. -/
theorem unlisted_absurd {listed : Array Bool} {k : Nat} (h0 : listed.getD k true = false) (h1 : listed.getD k false = true) : False := by
  rcases Nat.lt_or_ge k listed.size with h' | h'
  · simp [h'] at h0 h1; rw [h0] at h1; cases h1
  · simp [Array.getElem?_eq_none h'] at h1
def depX (ops : Array Oper) (listed : Array Bool) (i : Nat) (D : List Nat) : Bool :=
  D.all fun j => !(listed.getD j true) && match ops[j]? with
    | some oj => oj.after.any (fun e => Region.binds .any e && (Nat.beq e.on i || D.contains e.on))
    | none => false
def freeX2 (st : Bool) (ops : Array Oper) (listed : Array Bool) (i : Nat) (D : List Nat) : Bool :=
  match ops[i]? with
  | none => false
  | some oi => (List.range ops.size).all fun j => Nat.beq j i || listed.getD j true || D.contains j || match ops[j]? with
      | some oj => oi.apart ops oj && (!st || mildB oj)
      | none => true
theorem wpAnyX_first2 {ops : Array Oper} {Q : Exit → Act → World → Prop} {st : Bool} {i : Nat} {oi : Oper} {v : Value} (D : List Nat) (hi : ops[i]? = some oi) (hsel : ∀ (j : Nat) (o : Oper) cs b, ops[j]? = some o → o.op ≠ .select cs b)
    (hQ : ∀ c a w, Q (.panic c) (a.put oi.dst v) w → Q (.panic c) a w) (hD : ∀ j ∈ D, ∃ oj, ops[j]? = some oj ∧ ∃ e ∈ oj.after, Region.binds .any e = true ∧ (e.on = i ∨ e.on ∈ D)) :
    ∀ (fuel : Nat) (listed : Array Bool) (a : Act) (w : World),
      (∀ j ∈ D, listed.getD j true = false) →
      (∀ j oj, ops[j]? = some oj → j ≠ i → listed.getD j true = false → j ∉ D → oi.apart ops oj = true ∧ (st = true → mildB oj = true)) →
      i ∈ Region.ready .any ops listed → YieldsX P ops st oi v a w →
      wpAnyX P ops Q fuel (listed.setIfInBounds i true) (a.put oi.dst v) w → wpAnyX P ops Q (fuel + 1) listed a w := by
  intro fuel
  induction fuel with
  | zero =>
    intro listed a w _ _ hr hy H
    refine ⟨fun h => (by rw [h] at hr; cases hr), fun j hj => ?_⟩
    by_cases hji : j = i
    · subst hji; exact hy.wpOp hi ⟨fun _ _ _ => Ext.refl w, H⟩
    · have := ready_mono hj hji
      rw [H.1] at this
      cases this
  | succ fuel ih =>
    intro listed a w hun hfree hr hy H
    refine ⟨fun h => (by rw [h] at hr; cases hr), fun j hj => ?_⟩
    by_cases hji : j = i
    · subst hji; exact hy.wpOp hi ⟨fun _ _ _ => Ext.refl w, H⟩
    · obtain ⟨hjun, oj, hoj, hall⟩ := mem_ready.1 hj
      have h1 : wpOp P ops Q j (fun a' w' => (mildB oj = true → Ext w w') ∧ wpAnyX P ops Q fuel ((listed.setIfInBounds i true).setIfInBounds j true) a' w') (a.put oi.dst v) w :=
        wpOp_mono (fun a' w' h => ⟨h.1 oj hoj, h.2⟩) (H.2 j (ready_mono hj hji))
      have hjD : j ∉ D := fun hjD => by
        obtain ⟨oj', hoj', e, he, hb, hon⟩ := hD j hjD
        obtain rfl : oj' = oj := by have := hoj'.symm.trans hoj; injection this
        have h1 := hall e he hb
        rcases hon with hon | hon
        · rw [hon] at h1; exact unlisted_absurd (mem_ready.1 hr).1 h1
        · exact unlisted_absurd (hun _ hon) h1
      obtain ⟨hap, hmild⟩ := hfree j oj hoj hji hjun hjD
      have h2 := wpOp_putX hoj hap hmild (fun cs b => hsel i oi cs b hi) (fun cs b => hsel j oj cs b hoj) hQ hy h1
      have hun' : ∀ k ∈ D, (listed.setIfInBounds j true).getD k true = false := fun k hk => by
        have hne : j ≠ k := fun h => hjD (by rw [h]; exact hk)
        rw [getD_set_ne true hne]; exact hun k hk
      have hfree' : ∀ k ok, ops[k]? = some ok → k ≠ i → (listed.setIfInBounds j true).getD k true = false → k ∉ D → oi.apart ops ok = true ∧ (st = true → mildB ok = true) := fun k ok hk hki hku hkD => by
        refine hfree k ok hk hki ?_ hkD
        by_cases hjk : j = k
        · subst hjk; exact hjun
        · rw [getD_set_ne true hjk] at hku; exact hku
      refine wpOp_mono (fun a' w' h3 => ⟨fun o ho hmo => by rw [hoj] at ho; injection ho with ho; subst ho; exact h3.1 hmo, ih (listed.setIfInBounds j true) a' w' hun' hfree' (ready_mono hr (Ne.symm hji)) h3.2.1 ?_⟩) h2
      rw [Array.setIfInBounds_comm _ _ hji]
      exact h3.2.2
theorem ja_l2 {ops : Array Oper} {fuel : Nat} {listed : Array Bool} (i : Nat) (D : List Nat) {st : Bool} {o : Oper} {d : Nat} {y : V} (h : LO P ops st Γ o d F H y) (hi : ops[i]? = some o) (hs : Region.noSelect ops = true)
    (hr : (Region.ready .any ops listed).contains i = true) (hf : freeX2 st ops listed i D = true) (hdp : depX ops listed i D = true) (hQ : ∀ c F H d, Q (.panic c) F H → Q (.panic c) ((d, .u) :: F) H)
    (j : JA P ops fuel (listed.setIfInBounds i true) Γ ((d, y) :: F) H Q) : JA P ops (fuel + 1) listed Γ F H Q := fun a w ⟨ρ, s⟩ => by
  obtain ⟨hdst, hd, h⟩ := h
  obtain ⟨v, r, hy⟩ := h ρ a w s
  have hD : ∀ j ∈ D, listed.getD j true = false ∧ ∃ oj, ops[j]? = some oj ∧ ∃ e ∈ oj.after, Region.binds .any e = true ∧ (e.on = i ∨ e.on ∈ D) := fun j hj => by
    have := List.all_eq_true.1 hdp j hj
    simp only [Bool.and_eq_true, Bool.not_eq_true'] at this
    refine ⟨this.1, ?_⟩
    cases hoj : ops[j]? with
    | none => rw [hoj] at this; simp at this
    | some oj =>
      rw [hoj] at this
      obtain ⟨e, he, hb⟩ := Array.any_eq_true'.1 this.2
      simp only [Bool.and_eq_true, Bool.or_eq_true] at hb
      exact ⟨oj, rfl, e, he, hb.1, hb.2.imp Nat.eq_of_beq_eq_true (fun h => by simpa using h)⟩
  refine wpAnyX_first2 D hi (Region.noSelect_spec hs) ?_ (fun j hj => (hD j hj).2) fuel listed a w (fun j hj => (hD j hj).1) (fun j oj hoj hne hun hjD => ?_) (by simpa using hr) hy (by rw [hdst]; exact j _ _ ⟨ρ, s.put hd r⟩)
  · rintro c a' w' ⟨F', H', q, ρ', s'⟩
    refine ⟨(d, .u) :: F', H', hQ _ _ _ _ q, ρ', s'.hr, ?_, ?_, fun t => ?_, s'.fro⟩
    · have := s'.n; rw [hdst] at this; simpa [Act.put] using this
    · have := s'.ds; rw [hdst] at this; simpa [Act.put] using this
    · rw [get_cons]
      by_cases e : t = d
      · rw [if_pos e]; trivial
      · rw [if_neg e]
        have := s'.fr t
        rw [hdst] at this
        simpa [Act.put, Array.getD_eq_getD_getElem?, Array.getElem?_setIfInBounds_ne (Ne.symm e)] using this
  · simp only [freeX2, hi, List.all_eq_true, List.mem_range] at hf
    have h1 := hf j (Array.getElem?_eq_some_iff.1 hoj).1
    have hb : Nat.beq j i = false := by
      cases hb : Nat.beq j i
      · rfl
      · exact absurd (Nat.eq_of_beq_eq_true hb) hne
    have hc : D.contains j = false := by simpa using hjD
    simp only [hoj, hb, hun, hc, Bool.false_or, Bool.and_eq_true, Bool.or_eq_true, Bool.not_eq_true'] at h1
    exact ⟨h1.1, fun e => h1.2.resolve_left (by simp [e])⟩
theorem js_l {ops : Array Oper} {d : Nat} {op : Op} {T : TypeId} {ps : String} {af : Array Edge} {y : V} {R : Fr → List Ob → Prop} (h : LY P Γ op F H y) (hd : d < Γ.N) (k : R ((d, y) :: F) H) : JS P ops Γ ⟨some d, op, T, ps, af, none⟩ F H Q R := fun a w ⟨ρ, s⟩ => by
  obtain ⟨v, r, hr⟩ := h ρ a w s
  refine ⟨rfl, ?_⟩
  unfold Oper.wp
  rw [hr _ _ _ _ _ w (Ext.refl w)]
  exact ⟨fun _ => Ext.refl w, _, _, k, ρ, s.put hd r⟩
theorem js_lg {ops : Array Oper} {d : Nat} {op : Op} {T : TypeId} {ps : String} {af : Array Edge} {y : V} {R : Fr → List Ob → Prop} {j0 : Nat} {b0 : Bool} (t0 : Nat) (ht : (ops[j0]?).bind (·.dst) = some t0) (hb0 : getO F t0 = some (.b b0)) (h : LY P Γ op F H y) (hd : d < Γ.N) (k : R ((d, y) :: F) H) : JS P ops Γ ⟨some d, op, T, ps, af, some (j0, b0)⟩ F H Q R := fun a w ⟨ρ, s⟩ => by
  obtain ⟨v, r, hr⟩ := h ρ a w s
  refine ⟨wanted_yes rfl (yielded_of s ht hb0), ?_⟩
  unfold Oper.wp
  rw [hr _ _ _ _ _ w (Ext.refl w)]
  exact ⟨fun _ => Ext.refl w, _, _, k, ρ, s.put hd r⟩
/-- Two are ready; three. -/
theorem ja_2 {ops : Array Oper} {fuel : Nat} {listed : Array Bool} (i j : Nat) {o o' : Oper} (h : JS P ops Γ o F H Q fun F' H' => JA P ops fuel (listed.setIfInBounds i true) Γ F' H' Q) (h' : JS P ops Γ o' F H Q fun F' H' => JA P ops fuel (listed.setIfInBounds j true) Γ F' H' Q) (hi : ops[i]? = some o) (hj : ops[j]? = some o') (hr : Region.ready .any ops listed = [i, j]) : JA P ops (fuel + 1) listed Γ F H Q :=
  ja_all [i, j] hr rfl fun k hk => by
    simp only [List.mem_cons, List.not_mem_nil, or_false] at hk
    rcases hk with rfl | rfl
    · exact ⟨o, hi, h⟩
    · exact ⟨o', hj, h'⟩
theorem ja_3 {ops : Array Oper} {fuel : Nat} {listed : Array Bool} (i j l : Nat) {o o' o'' : Oper} (h : JS P ops Γ o F H Q fun F' H' => JA P ops fuel (listed.setIfInBounds i true) Γ F' H' Q) (h' : JS P ops Γ o' F H Q fun F' H' => JA P ops fuel (listed.setIfInBounds j true) Γ F' H' Q) (h'' : JS P ops Γ o'' F H Q fun F' H' => JA P ops fuel (listed.setIfInBounds l true) Γ F' H' Q) (hi : ops[i]? = some o) (hj : ops[j]? = some o') (hl : ops[l]? = some o'') (hr : Region.ready .any ops listed = [i, j, l]) : JA P ops (fuel + 1) listed Γ F H Q :=
  ja_all [i, j, l] hr rfl fun k hk => by
    simp only [List.mem_cons, List.not_mem_nil, or_false] at hk
    rcases hk with rfl | rfl | rfl
    · exact ⟨o, hi, h⟩
    · exact ⟨o', hj, h'⟩
    · exact ⟨o'', hl, h''⟩
end
end Go.Proofs.Ytcdipmjgpimmdaa.Vc
