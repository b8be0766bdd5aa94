/- Made, negated, sized and compared whole numbers answer as the document says, of every input of bulk at most 1048576 Texts joined: VcY, VcZ, VcP, VcQ, VcW, Na, Nb, Nc, Nd, Ne, Nf, Ng, Nh. -/
import Derived.Test.YtcdipmjgpimmdaaK2
import Derived.Laws.Externs
import Derived.Laws.CopyRow
import Derived.Laws.IdiomCopy
/- The calculus: functions of the run-time over three whole numbers; arrays by value; what is the same in every world. -/
set_option linter.unusedVariables false
set_option linter.unusedSimpArgs false
namespace Go.Proofs.Ytcdipmjgpimmdaa.Vc
open Go Go.RowKit
section
variable {P : Program} {Γ : Ctx} {F : Fr} {H : List Ob} {Q : Exit → Fr → List Ob → Prop}
theorem hy_ext3 {f : FuncId} {fn : Func} {e : Array Value → Sem Value} {x y z : Operand} {ts : Array TypeId} {k1 k2 k3 : IntKind} {m n c : Int} {v : Value} {yy : V} (hf : P.funcs[f]? = some fn) (hname : (fn.name == "runtime.NumGoroutine") = false)
    (hb : fn.body.isNone = true) (hn : Extern.findNext fn = none) (he : Extern.find fn = some e) (hx : ovO F x = some (.i k1 m)) (hy : ovO F y = some (.i k2 n)) (hz : ovO F z = some (.i k3 c))
    (hrun : ∀ w, (e #[.int k1 m, .int k2 n, .int k3 c]).run P w = .ok v w) (hv : ∀ w L B ρ, Rel w L B ρ yy v) :
    HY P Γ (.call { callee := .value (.func f), args := #[x, y, z], argTypes := ts }) F H yy H := fun ρ a w s => by
  refine ⟨v, w, ρ, hv _ _ _ _, s, Ext.refl w, fun _ _ _ _ _ => ?_⟩
  have e0 : a.eval (.func f) = .func (.func f) #[] #[] := rfl
  simp [execOp, resolve, e0, Deferred.ofValue, invoke]
  rw [run_callFunc_extern hf hname hb hn he, eval_i s hx, eval_i s hy, eval_i s hz]
  simp [hrun]
theorem rel_pair {k : IntKind} {a b : Int} : ∀ w L B ρ, Rel w L B ρ (.t [.i k a, .i k b]) (.tuple #[.int k a, .int k b]) := fun w L B ρ => ⟨[.int k a, .int k b], rfl, _, _, rfl, rfl, _, _, rfl, rfl, rfl⟩
def sub64Entry : Array Value → Sem Value := fun args => do
  let (x, y, b) ← Extern.MathBitsCarry.three "Sub64" args
  pure (Extern.MathBitsCarry.pair ((x + Extern.MathBitsCarry.m64 - y - b) % Extern.MathBitsCarry.m64) (if x < y + b then 1 else 0))
theorem run_sub64 (x y c : Int) (hx : 0 ≤ x) (hx1 : x < 18446744073709551616) (hy : 0 ≤ y) (hy1 : y < 18446744073709551616) (hc0 : 0 ≤ c) (hc : c ≤ 1) (w : World) :
    (sub64Entry #[.int .u64 x, .int .u64 y, .int .u64 c]).run P w =
      .ok (.tuple #[.int .u64 (if x < y + c then x - y - c + 18446744073709551616 else x - y - c), .int .u64 (if x < y + c then 1 else 0)]) w := by
  have key : ∀ k : Nat, k ≤ 1 → (sub64Entry #[.int .u64 x, .int .u64 y, .int .u64 (k : Int)]).run P w =
      .ok (Extern.MathBitsCarry.pair ((x.toNat + Extern.MathBitsCarry.m64 - y.toNat - k) % Extern.MathBitsCarry.m64) (if x.toNat < y.toNat + k then 1 else 0)) w := by
    intro k hk
    have : k = 0 ∨ k = 1 := by omega
    rcases this with rfl | rfl <;> rfl
  obtain ⟨k, rfl⟩ := Int.eq_ofNat_of_zero_le hc0
  rw [key k (by omega)]
  obtain ⟨X, rfl⟩ := Int.eq_ofNat_of_zero_le hx
  obtain ⟨Y, rfl⟩ := Int.eq_ofNat_of_zero_le hy
  have hm : Extern.MathBitsCarry.m64 = 18446744073709551616 := rfl
  simp only [Extern.MathBitsCarry.pair, hm, Int.toNat_natCast]
  have e1 : (Int.ofNat ((X + 18446744073709551616 - Y - k) % 18446744073709551616)) = (if (X : Int) < (Y : Int) + (k : Int) then (X : Int) - Y - k + 18446744073709551616 else (X : Int) - Y - k) := by
    show ((((X + 18446744073709551616 - Y - k) % 18446744073709551616 : Nat)) : Int) = _
    split <;> omega
  have e2 : (Int.ofNat (if X < Y + k then 1 else 0)) = (if (X : Int) < (Y : Int) + (k : Int) then 1 else 0) := by
    by_cases h : X < Y + k
    · rw [if_pos h, if_pos (by omega)]; rfl
    · rw [if_neg h, if_neg (by omega)]; rfl
  rw [e1, e2]
/-- The same in every world. -/
theorem ly_const {op : Op} {v : Value} {y : V} (hr : ∀ w L B ρ, Rel w L B ρ y v) (h : ∀ (a : Act) (dst : Option Tmp) (type : TypeId) (pos : String) (after : Array Edge) (g : Option (Nat × Bool)) (w' : World), (execOp a.eval ⟨dst, op, type, pos, after, g⟩).run P w' = .ok (.value v) w') : LY P Γ op F H y :=
  fun ρ a w s => ⟨v, hr _ _ _ _, fun dst type pos after g w' _ => h a dst type pos after g w'⟩
/-- An array's place, by value. -/
theorem ly_ixa {T E n i : Nat} {x ix : Operand} {cs : List V} {k : IntKind} {m : Int} {y : V} (hT : P.underlying T = some (.array n E)) (hE : oneB P E = true) (hx : ovO F x = some (.a cs)) (hi : ovO F ix = some (.i k m)) (hn : m = (i : Int)) (hlt : i < n) (hy : cs[i]? = some y) :
    LY P Γ (.index T x ix) F H y := fun ρ a w s => by
  obtain ⟨us, hv, hr⟩ := s.ov hx
  obtain ⟨u, hu, hrel⟩ := relL_at cs us i y hr hy
  refine ⟨u, hrel, fun _ _ _ _ _ w' _ => ?_⟩
  have e : (Instr.index T (a.eval x) (a.eval ix)).run P w' = .ok u w' := by
    rw [hv, eval_i s hi, hn]
    simp [Instr.index, asIntOf, run_underlying hT, hlt, run_sizeOf' (oneB_size hE), part, oneB_isAgg hE, hu]
  exact run_v e
/-- A part of a call's results, whatever the world. -/
theorem lo_ext {ops : Array Oper} {d : Nat} {x : Operand} {T : TypeId} {ps : String} {af : Array Edge} {vs : List V} {i : Nat} {y : V} (hx : ovO F x = some (.t vs)) (hy : vs[i]? = some y) (hd : d < Γ.N) : LO P ops false Γ ⟨some d, .extract x i, T, ps, af, none⟩ d F H y :=
  ⟨rfl, hd, fun ρ a w s => by
    obtain ⟨us, hv, hr⟩ := s.ov hx
    obtain ⟨u, hu, hr'⟩ := relL_at vs us i y hr hy
    refine ⟨u, hr', .inl ⟨rfl, fun w' _ => ?_⟩⟩
    have e : (Instr.extract (a.eval x) i).run P w' = .ok u w' := by rw [hv]; simp [Instr.extract, hu]
    exact run_v e⟩
/-! ### A light operation first: of the others, those that wait for it, through whatever, are left out. -/
theorem unlisted_absurd {listed : Array Bool} {k : Nat} (h0 : listed.getD k true = false) (h1 : listed.getD k false = true) : False := by
  rcases Nat.lt_or_ge k listed.size with h' | h'
  · simp [h'] at h0 h1; rw [h0] at h1; cases h1
  · simp [Array.getElem?_eq_none h'] at h1
def depX (ops : Array Oper) (listed : Array Bool) (i : Nat) (D : List Nat) : Bool :=
  D.all fun j => !(listed.getD j true) && match ops[j]? with
    | some oj => oj.after.any (fun e => Region.binds .any e && (Nat.beq e.on i || D.contains e.on))
    | none => false
def freeX2 (st : Bool) (ops : Array Oper) (listed : Array Bool) (i : Nat) (D : List Nat) : Bool :=
  match ops[i]? with
  | none => false
  | some oi => (List.range ops.size).all fun j => Nat.beq j i || listed.getD j true || D.contains j || match ops[j]? with
      | some oj => oi.apart ops oj && (!st || mildB oj)
      | none => true
theorem wpAnyX_first2 {ops : Array Oper} {Q : Exit → Act → World → Prop} {st : Bool} {i : Nat} {oi : Oper} {v : Value} (D : List Nat) (hi : ops[i]? = some oi) (hsel : ∀ (j : Nat) (o : Oper) cs b, ops[j]? = some o → o.op ≠ .select cs b)
    (hQ : ∀ c a w, Q (.panic c) (a.put oi.dst v) w → Q (.panic c) a w) (hD : ∀ j ∈ D, ∃ oj, ops[j]? = some oj ∧ ∃ e ∈ oj.after, Region.binds .any e = true ∧ (e.on = i ∨ e.on ∈ D)) :
    ∀ (fuel : Nat) (listed : Array Bool) (a : Act) (w : World),
      (∀ j ∈ D, listed.getD j true = false) →
      (∀ j oj, ops[j]? = some oj → j ≠ i → listed.getD j true = false → j ∉ D → oi.apart ops oj = true ∧ (st = true → mildB oj = true)) →
      i ∈ Region.ready .any ops listed → YieldsX P ops st oi v a w →
      wpAnyX P ops Q fuel (listed.setIfInBounds i true) (a.put oi.dst v) w → wpAnyX P ops Q (fuel + 1) listed a w := by
  intro fuel
  induction fuel with
  | zero =>
    intro listed a w _ _ hr hy H
    refine ⟨fun h => (by rw [h] at hr; cases hr), fun j hj => ?_⟩
    by_cases hji : j = i
    · subst hji; exact hy.wpOp hi ⟨fun _ _ _ => Ext.refl w, H⟩
    · have := ready_mono hj hji
      rw [H.1] at this
      cases this
  | succ fuel ih =>
    intro listed a w hun hfree hr hy H
    refine ⟨fun h => (by rw [h] at hr; cases hr), fun j hj => ?_⟩
    by_cases hji : j = i
    · subst hji; exact hy.wpOp hi ⟨fun _ _ _ => Ext.refl w, H⟩
    · obtain ⟨hjun, oj, hoj, hall⟩ := mem_ready.1 hj
      have h1 : wpOp P ops Q j (fun a' w' => (mildB oj = true → Ext w w') ∧ wpAnyX P ops Q fuel ((listed.setIfInBounds i true).setIfInBounds j true) a' w') (a.put oi.dst v) w :=
        wpOp_mono (fun a' w' h => ⟨h.1 oj hoj, h.2⟩) (H.2 j (ready_mono hj hji))
      have hjD : j ∉ D := fun hjD => by
        obtain ⟨oj', hoj', e, he, hb, hon⟩ := hD j hjD
        obtain rfl : oj' = oj := by have := hoj'.symm.trans hoj; injection this
        have h1 := hall e he hb
        rcases hon with hon | hon
        · rw [hon] at h1; exact unlisted_absurd (mem_ready.1 hr).1 h1
        · exact unlisted_absurd (hun _ hon) h1
      obtain ⟨hap, hmild⟩ := hfree j oj hoj hji hjun hjD
      have h2 := wpOp_putX hoj hap hmild (fun cs b => hsel i oi cs b hi) (fun cs b => hsel j oj cs b hoj) hQ hy h1
      have hun' : ∀ k ∈ D, (listed.setIfInBounds j true).getD k true = false := fun k hk => by
        have hne : j ≠ k := fun h => hjD (by rw [h]; exact hk)
        rw [getD_set_ne true hne]; exact hun k hk
      have hfree' : ∀ k ok, ops[k]? = some ok → k ≠ i → (listed.setIfInBounds j true).getD k true = false → k ∉ D → oi.apart ops ok = true ∧ (st = true → mildB ok = true) := fun k ok hk hki hku hkD => by
        refine hfree k ok hk hki ?_ hkD
        by_cases hjk : j = k
        · subst hjk; exact hjun
        · rw [getD_set_ne true hjk] at hku; exact hku
      refine wpOp_mono (fun a' w' h3 => ⟨fun o ho hmo => by rw [hoj] at ho; injection ho with ho; subst ho; exact h3.1 hmo, ih (listed.setIfInBounds j true) a' w' hun' hfree' (ready_mono hr (Ne.symm hji)) h3.2.1 ?_⟩) h2
      rw [Array.setIfInBounds_comm _ _ hji]
      exact h3.2.2
theorem ja_l2 {ops : Array Oper} {fuel : Nat} {listed : Array Bool} (i : Nat) (D : List Nat) {st : Bool} {o : Oper} {d : Nat} {y : V} (h : LO P ops st Γ o d F H y) (hi : ops[i]? = some o) (hs : Region.noSelect ops = true)
    (hr : (Region.ready .any ops listed).contains i = true) (hf : freeX2 st ops listed i D = true) (hdp : depX ops listed i D = true) (hQ : ∀ c F H d, Q (.panic c) F H → Q (.panic c) ((d, .u) :: F) H)
    (j : JA P ops fuel (listed.setIfInBounds i true) Γ ((d, y) :: F) H Q) : JA P ops (fuel + 1) listed Γ F H Q := fun a w ⟨ρ, s⟩ => by
  obtain ⟨hdst, hd, h⟩ := h
  obtain ⟨v, r, hy⟩ := h ρ a w s
  have hD : ∀ j ∈ D, listed.getD j true = false ∧ ∃ oj, ops[j]? = some oj ∧ ∃ e ∈ oj.after, Region.binds .any e = true ∧ (e.on = i ∨ e.on ∈ D) := fun j hj => by
    have := List.all_eq_true.1 hdp j hj
    simp only [Bool.and_eq_true, Bool.not_eq_true'] at this
    refine ⟨this.1, ?_⟩
    cases hoj : ops[j]? with
    | none => rw [hoj] at this; simp at this
    | some oj =>
      rw [hoj] at this
      obtain ⟨e, he, hb⟩ := Array.any_eq_true'.1 this.2
      simp only [Bool.and_eq_true, Bool.or_eq_true] at hb
      exact ⟨oj, rfl, e, he, hb.1, hb.2.imp Nat.eq_of_beq_eq_true (fun h => by simpa using h)⟩
  refine wpAnyX_first2 D hi (Region.noSelect_spec hs) ?_ (fun j hj => (hD j hj).2) fuel listed a w (fun j hj => (hD j hj).1) (fun j oj hoj hne hun hjD => ?_) (by simpa using hr) hy (by rw [hdst]; exact j _ _ ⟨ρ, s.put hd r⟩)
  · rintro c a' w' ⟨F', H', q, ρ', s'⟩
    refine ⟨(d, .u) :: F', H', hQ _ _ _ _ q, ρ', s'.hr, ?_, ?_, fun t => ?_, s'.fro⟩
    · have := s'.n; rw [hdst] at this; simpa [Act.put] using this
    · have := s'.ds; rw [hdst] at this; simpa [Act.put] using this
    · rw [get_cons]
      by_cases e : t = d
      · rw [if_pos e]; trivial
      · rw [if_neg e]
        have := s'.fr t
        rw [hdst] at this
        simpa [Act.put, Array.getD_eq_getD_getElem?, Array.getElem?_setIfInBounds_ne (Ne.symm e)] using this
  · simp only [freeX2, hi, List.all_eq_true, List.mem_range] at hf
    have h1 := hf j (Array.getElem?_eq_some_iff.1 hoj).1
    have hb : Nat.beq j i = false := by
      cases hb : Nat.beq j i
      · rfl
      · exact absurd (Nat.eq_of_beq_eq_true hb) hne
    have hc : D.contains j = false := by simpa using hjD
    simp only [hoj, hb, hun, hc, Bool.false_or, Bool.and_eq_true, Bool.or_eq_true, Bool.not_eq_true'] at h1
    exact ⟨h1.1, fun e => h1.2.resolve_left (by simp [e])⟩
theorem js_l {ops : Array Oper} {d : Nat} {op : Op} {T : TypeId} {ps : String} {af : Array Edge} {y : V} {R : Fr → List Ob → Prop} (h : LY P Γ op F H y) (hd : d < Γ.N) (k : R ((d, y) :: F) H) : JS P ops Γ ⟨some d, op, T, ps, af, none⟩ F H Q R := fun a w ⟨ρ, s⟩ => by
  obtain ⟨v, r, hr⟩ := h ρ a w s
  refine ⟨rfl, ?_⟩
  unfold Oper.wp
  rw [hr _ _ _ _ _ w (Ext.refl w)]
  exact ⟨fun _ => Ext.refl w, _, _, k, ρ, s.put hd r⟩
theorem js_lg {ops : Array Oper} {d : Nat} {op : Op} {T : TypeId} {ps : String} {af : Array Edge} {y : V} {R : Fr → List Ob → Prop} {j0 : Nat} {b0 : Bool} (t0 : Nat) (ht : (ops[j0]?).bind (·.dst) = some t0) (hb0 : getO F t0 = some (.b b0)) (h : LY P Γ op F H y) (hd : d < Γ.N) (k : R ((d, y) :: F) H) : JS P ops Γ ⟨some d, op, T, ps, af, some (j0, b0)⟩ F H Q R := fun a w ⟨ρ, s⟩ => by
  obtain ⟨v, r, hr⟩ := h ρ a w s
  refine ⟨wanted_yes rfl (yielded_of s ht hb0), ?_⟩
  unfold Oper.wp
  rw [hr _ _ _ _ _ w (Ext.refl w)]
  exact ⟨fun _ => Ext.refl w, _, _, k, ρ, s.put hd r⟩
/-- Two are ready; three. -/
theorem ja_2 {ops : Array Oper} {fuel : Nat} {listed : Array Bool} (i j : Nat) {o o' : Oper} (h : JS P ops Γ o F H Q fun F' H' => JA P ops fuel (listed.setIfInBounds i true) Γ F' H' Q) (h' : JS P ops Γ o' F H Q fun F' H' => JA P ops fuel (listed.setIfInBounds j true) Γ F' H' Q) (hi : ops[i]? = some o) (hj : ops[j]? = some o') (hr : Region.ready .any ops listed = [i, j]) : JA P ops (fuel + 1) listed Γ F H Q :=
  ja_all [i, j] hr rfl fun k hk => by
    simp only [List.mem_cons, List.not_mem_nil, or_false] at hk
    rcases hk with rfl | rfl
    · exact ⟨o, hi, h⟩
    · exact ⟨o', hj, h'⟩
theorem ja_3 {ops : Array Oper} {fuel : Nat} {listed : Array Bool} (i j l : Nat) {o o' o'' : Oper} (h : JS P ops Γ o F H Q fun F' H' => JA P ops fuel (listed.setIfInBounds i true) Γ F' H' Q) (h' : JS P ops Γ o' F H Q fun F' H' => JA P ops fuel (listed.setIfInBounds j true) Γ F' H' Q) (h'' : JS P ops Γ o'' F H Q fun F' H' => JA P ops fuel (listed.setIfInBounds l true) Γ F' H' Q) (hi : ops[i]? = some o) (hj : ops[j]? = some o') (hl : ops[l]? = some o'') (hr : Region.ready .any ops listed = [i, j, l]) : JA P ops (fuel + 1) listed Γ F H Q :=
  ja_all [i, j, l] hr rfl fun k hk => by
    simp only [List.mem_cons, List.not_mem_nil, or_false] at hk
    rcases hk with rfl | rfl | rfl
    · exact ⟨o, hi, h⟩
    · exact ⟨o', hj, h'⟩
    · exact ⟨o'', hl, h''⟩
end
end Go.Proofs.Ytcdipmjgpimmdaa.Vc

/- The calculus: copy; places held for objects that are made in any order. -/
set_option linter.unusedVariables false
set_option linter.unusedSimpArgs false
namespace Go.Proofs.Ytcdipmjgpimmdaa.Vc
open Go Go.RowKit
section
variable {P : Program} {Γ : Ctx} {F : Fr} {H : List Ob} {Q : Exit → Fr → List Ob → Prop}
theorem setV_head : ∀ (a b : List V), b.length ≤ a.length → setV a 0 b = b ++ a.drop b.length
  | [], [], _ => rfl
  | [], _ :: _, h => by simp at h
  | _ :: _, [], _ => rfl
  | x :: a, y :: b, h => by
    show y :: setV a 0 b = y :: (b ++ (x :: a).drop (b.length + 1))
    rw [setV_head a b (by simpa using h)]; rfl
/-- copy of whole numbers into an own row, from its head on. -/
theorem sy_copy {T U E t id ver n : Nat} {x y : Operand} {fr : Bool} {k : IntKind} {l l0 : List Int} (hT : P.underlying T = some (.slice E)) (hE : (P.info? E).map (·.size) = some 1) (hx : ovO F x = some (.o id ver 0 n)) (hH : H[id]? = some ⟨t, 1, ver, true, ints k l0⟩) (hn : l0.length = n) (hy : ovO F y = some (.n fr k l)) (hle : l.length ≤ n) :
    ∀ ρ a w, StA Γ ρ F H a w → ∃ w' ρ', StA Γ ρ' F (H.set id ⟨t, 1, ver, true, ints k (l ++ l0.drop l.length)⟩) a w' ∧
      ∀ (dst : Option Tmp) (type : TypeId) (pos : String) (after : Array Edge) (g : Option (Nat × Bool)), (execOp a.eval ⟨dst, .call { callee := .builtin .copy, args := #[x, y], argTypes := #[T, U] }, type, pos, after, g⟩).run P w = .ok (.value (.int .i64 l.length)) w' := fun ρ a w s => by
  obtain ⟨re, o⟩ := s.own hH rfl
  obtain ⟨re0, e1, hle0, hp⟩ := s.ov hx
  obtain rfl : re0 = re := by have := e1.symm.trans o.at_; injection this
  obtain ⟨hcap, hq⟩ := hp (o.ok.ver.symm)
  obtain ⟨A, c, hv, hlc, hcm, h3⟩ := s.ov hy
  have fin : ∀ w', (Builtin.copy_ #[T, U] T #[a.eval x, a.eval y]).run P w = .ok (goInt l.length) w' → ∀ (dst : Option Tmp) (type : TypeId) (pos : String) (after : Array Edge) (g : Option (Nat × Bool)), (Builtin.copy_ #[T, U] type #[a.eval x, a.eval y]).run P w = .ok (goInt l.length) w' → (execOp a.eval ⟨dst, .call { callee := .builtin .copy, args := #[x, y], argTypes := #[T, U] }, type, pos, after, g⟩).run P w = .ok (.value (.int .i64 l.length)) w' := fun w' _ dst type pos after g h =>
    run_builtin (b := .copy) (ts := #[T, U]) (T := type) (a := a) (args := #[x, y]) (vs := [a.eval x, a.eval y]) (by simp) (fun ts t a_ => Builtin.copy_ ts t a_) (fun _ _ => rfl) h dst pos after g
  by_cases h0 : l = []
  · subst h0
    have hset : H.set id ⟨t, 1, ver, true, ints k ([] ++ l0.drop ([] : List Int).length)⟩ = H := by
      apply List.ext_getElem?
      intro i
      rw [List.getElem?_set]
      by_cases e : id = i
      · subst e; rw [if_pos rfl, if_pos (List.getElem?_eq_some_iff.1 hH).1, hH]; rfl
      · rw [if_neg e]
    refine ⟨w, ρ, by rw [hset]; exact s, fun dst type pos after g => ?_⟩
    have hrun : ∀ ty, (Builtin.copy_ #[T, U] ty #[a.eval x, a.eval y]).run P w = .ok (goInt ([] : List Int).length) w := fun ty => by
      rw [hv]
      rcases hq with ⟨g', ad, hg, hv0, had⟩ | ⟨hg, hv0, _, hl0⟩
      · rw [hv0]; exact run_copy_none (P := P) w T U ty E _ _ _ _ _ _ hT hE (by simp [Nat.min_def])
      · rw [hv0]; exact run_copy_none (P := P) w T U ty E _ _ _ _ _ _ hT hE (by simp [Nat.min_def])
    exact fin w (hrun T) dst type pos after g (hrun type)
  · obtain ⟨ad2, hA, hb2, hc2⟩ := h3 h0
    subst hA
    have hlp : 0 < l.length := List.length_pos_iff.2 h0
    rcases hq with ⟨g, ad, hg, hv0, had⟩ | ⟨hg, hv0, _, hl0⟩
    · obtain ⟨cur, c1, c2, c3, c4, c5⟩ := o.ok.blk g hg
      have had' := had (.inr rfl)
      rw [Nat.zero_mul] at had'
      have hc3 : (ints k l0).length ≤ cur.size := c3
      rw [ints_length] at hc3
      have hus : (l.map (Value.int k)).length = l.length := List.length_map ..
      have hlen : (cur.toList.take 0 ++ l.map (Value.int k) ++ cur.toList.drop (0 + (l.map (Value.int k)).length)).length = cur.size := by simp; omega
      have hset : ints k (l ++ l0.drop l.length) = setV (ints k l0) 0 (ints k l) := by
        rw [setV_head _ _ (by rw [ints_length, ints_length]; omega), ints_length, ← ints_append]
        congr 1
        simp [ints, List.map_drop]
      rw [hset]
      refine ⟨_, ρ.set id re0, s.update (ob' := ⟨t, 1, ver, true, setV (ints k l0) 0 (ints k l)⟩) (re' := re0) hH rfl o.at_ (by rw [hg]; exact grownBy_setRow w g (cur.toList.take 0 ++ l.map (Value.int k) ++ cur.toList.drop (0 + (l.map (Value.int k)).length)).toArray) rfl o.ok.ver o.ok.sz (Nat.le_refl _) (fun _ => rfl) (.inl rfl)
        (fun h => by rw [hg] at h; cases h) (fun g' hg' => ?_), fun dst type pos after gd => ?_⟩
      · obtain rfl : g = g' := by rw [hg] at hg'; injection hg'
        refine ⟨_, setRow_heap w g cur _ t (0, 0) c1, by rw [List.size_toArray, hlen]; exact c2, by rw [List.size_toArray, hlen]; show (setV (ints k l0) 0 (ints k l)).length ≤ _; rw [setV_length]; exact c3, c4, fun j y' hy' => ?_⟩
        rw [List.getElem?_toArray]
        rcases setV_at (ints k l0) 0 (ints k l) j y' hy' with ⟨k1', k2', k3'⟩ | ⟨k1', k2'⟩
        · rw [Nat.sub_zero, ints_at] at k3'
          cases hj : l[j]? with
          | none => rw [hj] at k3'; cases k3'
          | some z =>
            rw [hj] at k3'
            simp only [Option.map_some, Option.some.injEq] at k3'
            subst k3'
            refine ⟨.int k z, ?_, rfl, rfl⟩
            have hjl := (List.getElem?_eq_some_iff.1 hj).1
            rw [List.getElem?_append_left (by simp; omega)]
            simp [hj]
        · obtain ⟨u, d1, d2, d3⟩ := c5 j y' k2'
          refine ⟨u, ?_, d2, d3⟩
          rw [← Array.getElem?_toList] at d1
          rw [ints_length] at k1'
          rw [List.getElem?_append_right (by simp; omega), List.getElem?_drop, ← d1]; congr 1; simp; omega
      · have hr := fun ty => run_copy_row (P := P) w T U ty E g 0 n (re0.cap - 0) ad2 l.length c cur t (l.map (Value.int k)) hT hE c1 (by rw [hus]; exact (Nat.min_eq_left hle).symm) (fun j v hj => by
          rw [List.getElem?_map] at hj
          cases hj2 : l[j]? with
          | none => rw [hj2] at hj; cases hj
          | some z => rw [hj2] at hj; simp at hj; subst hj; exact hc2 j z hj2) (by rw [hus]; omega) (by simp [Value.oneCell'])
        have hrun : ∀ ty, (Builtin.copy_ #[T, U] ty #[a.eval x, a.eval y]).run P w = .ok (goInt l.length) (w.setRow g (cur.toList.take 0 ++ l.map (Value.int k) ++ cur.toList.drop (0 + (l.map (Value.int k)).length)).toArray) := fun ty => by
          rw [hv, hv0, had']
          have := hr ty
          rwa [hus] at this ⊢
        exact fin _ (hrun T) dst type pos after gd (hrun type)
    · omega
theorem jo_copy {ops : Array Oper} {rest : List Oper} {d T U E t id ver n : Nat} {ty : TypeId} {ps : String} {af : Array Edge} {x y : Operand} {fr : Bool} {k : IntKind} {l l0 : List Int} (hT : P.underlying T = some (.slice E)) (hE : (P.info? E).map (·.size) = some 1) (hx : ovO F x = some (.o id ver 0 n)) (hH : H[id]? = some ⟨t, 1, ver, true, ints k l0⟩) (hn : l0.length = n) (hy : ovO F y = some (.n fr k l)) (hle : l.length ≤ n)
    (hd : d < Γ.N) (j : JO P ops rest Γ ((d, .i .i64 l.length) :: F) (H.set id ⟨t, 1, ver, true, ints k (l ++ l0.drop l.length)⟩) Q) :
    JO P ops (⟨some d, .call { callee := .builtin .copy, args := #[x, y], argTypes := #[T, U] }, ty, ps, af, none⟩ :: rest) Γ F H Q := fun a w ⟨ρ, s⟩ => by
  obtain ⟨w', ρ', s', hr⟩ := sy_copy (U := U) hT hE hx hH hn hy hle ρ a w s
  refine wpList_plain rfl fun K hK => ?_
  unfold Oper.wp
  rw [hr _ _ _ _ _]
  exact hK _ _ (j _ _ ⟨ρ', s'.put hd rfl⟩)
/-- Places held. -/
theorem jc_hold {c : Code} : ∀ (k : Nat) (H : List Ob), JC P c Γ F (H ++ List.replicate k (⟨0, 1, 0, true, []⟩ : Ob)) Q → JC P c Γ F H Q
  | 0, H, j => by simpa using j
  | k + 1, H, j => fun a w ⟨ρ, s⟩ => by
    have s' := s.born (re := ⟨none, 0, 0, 1⟩) (ob := ⟨0, 1, 0, true, []⟩) (w' := w) ⟨rfl, rfl, rfl, Nat.le_refl _, fun _ _ _ => rfl⟩ rfl rfl rfl (fun g h => by cases h) (fun _ => ⟨rfl, rfl⟩) (fun g h => by cases h)
    exact jc_hold k (H ++ [⟨0, 1, 0, true, []⟩]) (by rw [List.append_assoc]; exact j) a w ⟨_, s'⟩
/-- A variable made at a place that is held. -/
theorem hy_allocAt {T n : Nat} {zs : List Value} {id ver T' sz' : Nat} {cs : List V} (hz : ((P.info? T).bind (·.zero)).map (·.cells.toList) = some zs) (hone : zs.all (·.oneCell') = true) (hn : zs.length = n) (h0 : n ≤ maxLen) (hH : H[id]? = some ⟨T', sz', ver, true, cs⟩) :
    HY P Γ (.alloc T) F H (.p id (ver + 1) 0) (H.set id ⟨T, n, ver + 1, true, zs.map cV⟩) := fun ρ a w s => by
  cases hi : P.info? T with
  | none => rw [hi] at hz; cases hz
  | some i =>
    rw [hi] at hz
    cases hz0 : i.zero with
    | none => simp [hz0] at hz
    | some z =>
      simp [hz0] at hz
      obtain ⟨re, o⟩ := s.own hH rfl
      have hver : re.ver = ver := o.ok.ver
      refine ⟨.pointer (some ⟨w.heap.size, 0, none⟩), w.alloc (.cells z.cells T), ρ.set id ⟨some w.heap.size, 1, ver + 1, n⟩, ⟨⟨some w.heap.size, 1, ver + 1, n⟩, by rw [List.getElem?_set]; simp [(List.getElem?_eq_some_iff.1 o.at_).1], Nat.le_refl _, fun _ => ⟨_, rfl, rfl⟩⟩,
        s.update (ob' := ⟨T, n, ver + 1, true, zs.map cV⟩) (re' := ⟨some w.heap.size, 1, ver + 1, n⟩) hH rfl o.at_ (World.grownBy_alloc w _ _) rfl rfl rfl (by show re.ver ≤ ver + 1; omega) (fun h => by have : re.ver = ver + 1 := h; omega) (.inr ⟨_, rfl, Nat.le_refl _⟩) (fun h => by cases h) (fun g' hg' => ?_), ext_alloc w _, fun _ _ _ _ _ => ?_⟩
      · injection hg' with hg'
        subst hg'
        refine ⟨z.cells, by show (w.heap.push _)[w.heap.size]? = _; rw [Array.getElem?_push, if_pos rfl], by show _ = 1 * n; rw [Nat.one_mul, ← hn, ← hz]; simp, by show (zs.map cV).length ≤ _; rw [List.length_map, ← hz]; simp, by show 1 ≤ maxLen; decide, fun j y hy => ?_⟩
        rw [List.getElem?_map] at hy
        cases hj : zs[j]? with
        | none => rw [hj] at hy; cases hy
        | some u =>
          rw [hj] at hy
          simp at hy
          subst hy
          exact ⟨u, by rw [← hz] at hj; simpa using hj, List.all_eq_true.1 hone u (List.mem_of_getElem? hj), rel_cV _ _ _ _ _⟩
      · have e : (Instr.alloc T true (.tuple #[])).run P w = .ok (.pointer (some ⟨w.heap.size, 0, none⟩)) (w.alloc (.cells z.cells T)) := by
          simp [Instr.alloc, zeroValue, typeInfo, hi, hz0, newVar, newRow, newObj, Sem.run]
        exact run_v e
/-! ### Regions in which several operations that make memory come up in any order: by what has come up -/
theorem ja_gen {ops : Array Oper} {fuel : Nat} {listed : Array Bool} (hp : ∀ c F H d, Q (.panic c) F H → Q (.panic c) ((d, .u) :: F) H) (k : ∀ (ops' : Array Oper) (Q' : Exit → Fr → List Ob → Prop) (F' : Fr), (∀ c F H d, Q' (.panic c) F H → Q' (.panic c) ((d, .u) :: F) H) → ops' = ops → Q' = Q → F' = F → JA P ops' fuel listed Γ F' H Q') : JA P ops fuel listed Γ F H Q := k _ _ _ hp rfl rfl rfl
theorem ja_to {ops : Array Oper} {fuel : Nat} {listed listed' : Array Bool} {F' m F0 : Fr} {H' : List Ob} (hl : listed = listed') (hH : H' = H) (hc : Cov F' m F0) (S : JA P ops fuel listed' Γ (m ++ F0) H Q) : JA P ops fuel listed Γ F' H' Q := fun a w ⟨ρ, s⟩ => by
  subst hl; subst hH
  exact S a w ⟨ρ, s.cov hc⟩
theorem ja_4 {ops : Array Oper} {fuel : Nat} {listed : Array Bool} (i j l m : Nat) {o o' o'' o3 : Oper} (h : JS P ops Γ o F H Q fun F' H' => JA P ops fuel (listed.setIfInBounds i true) Γ F' H' Q) (h' : JS P ops Γ o' F H Q fun F' H' => JA P ops fuel (listed.setIfInBounds j true) Γ F' H' Q) (h'' : JS P ops Γ o'' F H Q fun F' H' => JA P ops fuel (listed.setIfInBounds l true) Γ F' H' Q) (h3 : JS P ops Γ o3 F H Q fun F' H' => JA P ops fuel (listed.setIfInBounds m true) Γ F' H' Q)
    (hi : ops[i]? = some o) (hj : ops[j]? = some o') (hl : ops[l]? = some o'') (hm : ops[m]? = some o3) (hr : Region.ready .any ops listed = [i, j, l, m]) : JA P ops (fuel + 1) listed Γ F H Q :=
  ja_all [i, j, l, m] hr rfl fun k hk => by
    simp only [List.mem_cons, List.not_mem_nil, or_false] at hk
    rcases hk with rfl | rfl | rfl | rfl
    · exact ⟨o, hi, h⟩
    · exact ⟨o', hj, h'⟩
    · exact ⟨o'', hl, h''⟩
    · exact ⟨o3, hm, h3⟩
end
end Go.Proofs.Ytcdipmjgpimmdaa.Vc

/- The calculus: functions that hand over the objects they make. -/
set_option linter.unusedVariables false
set_option linter.unusedSimpArgs false
namespace Go.Proofs.Ytcdipmjgpimmdaa.Vc
open Go Go.RowKit
section
variable {P : Program} {Γ : Ctx} {F : Fr} {H : List Ob} {Q : Exit → Fr → List Ob → Prop}
/-- A contract of a function that hands over the objects it makes: all of them up to number n. -/
theorem specN_of {f : FuncId} {fn : Func} {c : Code} {args : List V} {post : Out → List Ob → Prop} (F0 : Fr) (h0 : ((args.zipIdx 0).map fun p => (p.2, p.1)) = F0) (n : Nat) (hf : P.funcs[f]? = some fn) (hb : fn.body = some c) (hn : args.length ≤ fn.ntmps)
    (h : ∀ Γ : Ctx, Γ.N = fn.ntmps → Γ.ds = [] → (∀ b, ¬ Γ.L0 b) → Γ.ρ0 = [] → JC P c Γ F0 [] (qRetM P fn n post)) : SpecM P f args [] post := fun M w ρ vals hM hR hr => by
  have hρ : ρ = [] := List.eq_nil_of_length_eq_zero hR.len
  subst hρ
  subst h0
  refine calls_of_wp hf hb ?_
  have hlen : vals.length = args.length := (relL_one args vals hr).1
  let Γ : Ctx := ⟨fn.ntmps, w, M, [], hand [] [], []⟩
  have s : StA Γ [] ((args.zipIdx 0).map fun p => (p.2, p.1)) [] ⟨vals.toArray ++ Array.replicate (fn.ntmps - vals.toArray.size) undef, []⟩ w := by
    refine ⟨hR, ?_, rfl, fun t => ?_, ⟨rfl, rfl, rfl, Nat.le_refl _, fun _ _ _ => rfl, hM, fun i o r g h1 h2 h3 h4 => .inr ⟨i, o, r, h1, h2, h3, h4⟩, fun i r h => ⟨r, h, Nat.le_refl _, fun _ => rfl⟩⟩⟩
    · show fn.ntmps ≤ (vals.toArray ++ Array.replicate (fn.ntmps - vals.toArray.size) undef).size
      simp; omega
    · have look : ∀ (ys : List V) (k t : Nat), getO ((ys.zipIdx k).map fun p => (p.2, p.1)) t = if k ≤ t then ys[t - k]? else none := by
        intro ys
        induction ys with
        | nil => intro k t; simp [getO]
        | cons y ys ih =>
          intro k t
          simp only [List.zipIdx_cons, List.map_cons, getO]
          cases hb : Nat.beq t k
          · have hne : t ≠ k := by intro e; subst e; simp at hb
            rw [ih (k + 1) t]
            by_cases h1 : k ≤ t
            · rw [if_pos h1, if_pos (by omega), show t - k = (t - (k + 1)) + 1 by omega]; rfl
            · rw [if_neg h1, if_neg (by omega)]; rfl
          · have := Nat.eq_of_beq_eq_true hb
            subst this
            simp
      unfold get
      rw [look args 0 t, if_pos (Nat.zero_le _), Nat.sub_zero]
      cases ht : args[t]? with
      | none => exact trivial
      | some y =>
        obtain ⟨u, hu, hru⟩ := relL_at args vals t y hr ht
        have hlt : t < vals.length := (List.getElem?_eq_some_iff.1 hu).1
        have e : ((vals.toArray ++ Array.replicate (fn.ntmps - vals.toArray.size) undef).getD t undef) = u := by
          rw [Array.getD_eq_getD_getElem?, Array.getElem?_append_left (by simpa using hlt)]
          simp [hu]
        show Rel w (Lset M [] []) w.heap.size [] y ((vals.toArray ++ Array.replicate (fn.ntmps - vals.toArray.size) undef).getD t undef)
        rw [e]
        exact hru
  have hΓlen : Γ.ρ0.length ≤ n := Nat.zero_le _
  have fin : ∀ (F : Fr) (H : List Ob) (ρ1 : List Re) (a : Act) (w' : World), StA Γ ρ1 F H a w' → ObsId n (H.take n) →
      HR M w' w.heap.size (ρ1.take n) (H.take n) ∧ w'.os = w.os ∧ w'.tape = w.tape ∧ w'.output = w.output ∧ Ev w (Lset M [] []) w.heap.size [] w' (Lset M (ρ1.take n) (H.take n)) w.heap.size (ρ1.take n) ∧
      (∀ (id : Nat) (ob : Ob) (re : Re) (g : Nat), (H.take n)[id]? = some ob → ob.live = true → (ρ1.take n)[id]? = some re → re.g = some g → w.heap.size ≤ g ∨ hand [] [] g) ∧ (∀ b, b < w.heap.size → ¬ hand [] [] b → w'.heap[b]? = w.heap[b]?) := by
    intro F H ρ1 a w' s' hO
    obtain ⟨c1, c2, c3⟩ := s'.cutn n hO hΓlen
    refine ⟨c1, c2.os, c2.tape, c2.output, ⟨c2.size, fun b hlt hL => c2.blk b hlt fun hh => hL (.inr hh), fun b hlt hL hL' => ?_, Nat.le_refl _, c2.rho⟩, fun i o r g h1 h2 h3 h4 => c2.mine i o r g h1 h2 h3 h4, fun b hlt hh => c2.blk b hlt hh⟩
    rcases hL' with hM' | ⟨i, o, r, h1, h2, h3, h4⟩
    · exact hL (.inl hM')
    · rcases c2.mine i o r b h1 h2 h3 h4 with h | h
      · have h' : w.heap.size ≤ b := h
        omega
      · exact hL (.inr h)
  refine Code.wp_mono (fun e a w' ⟨F, H, q, ρ1, s'⟩ => ?_) (h Γ rfl rfl (fun b hb => by obtain ⟨i, o, r, h1, _⟩ := hb; simp at h1) rfl _ _ ⟨_, s⟩)
  have fin2 : ∀ ys, ResL P F H fn.results.toList ys → idB n (packV ys) = true → ObsId n (H.take n) → post (.ret (packV ys)) (H.take n) → a.defers = [] ∧ ∃ v, (Go.results fn a.tmps).run P w' = .ok v w' ∧ ∃ o H' ρ', post o H' ∧ EndRelM w' (Lset M ρ' H') w.heap.size ρ' o (.returned v) ∧ HR M w' w.heap.size ρ' H' ∧
      w'.os = w.os ∧ w'.tape = w.tape ∧ w'.output = w.output ∧ Ev w (Lset M [] []) w.heap.size [] w' (Lset M ρ' H') w.heap.size ρ' ∧
      (∀ (id : Nat) (ob : Ob) (re : Re) (g : Nat), H'[id]? = some ob → ob.live = true → ρ'[id]? = some re → re.g = some g → w.heap.size ≤ g ∨ hand [] [] g) ∧ (∀ b, b < w.heap.size → ¬ hand [] [] b → w'.heap[b]? = w.heap[b]?) := by
    intro ys h1 h2 h3 h4
    obtain ⟨v, hv, hr'⟩ := s'.results h1
    obtain ⟨f1, f2, f3, f4, f5, f6, f7⟩ := fin F H ρ1 a w' s' h3
    have hcut := hr'.cut (n := n) (packV ys) v h2
    have hl : Rel w' (Lset M (ρ1.take n) (H.take n)) w.heap.size (ρ1.take n) (packV ys) v :=
      hcut.ev ⟨Nat.le_refl _, fun _ _ _ => rfl, fun b _ hn hh => hn ((s'.cutn n h3 hΓlen).2.2 b hh), Nat.le_refl _, fun i r h => ⟨r, h, Nat.le_refl _, fun _ => rfl⟩⟩
    exact ⟨s'.ds, v, hv, .ret (packV ys), _, _, h4, ⟨v, rfl, hl⟩, f1, f2, f3, f4, f5, f6, f7⟩
  cases e with
  | normal => obtain ⟨ys, h1, h2, h3, h4⟩ := q; exact fin2 ys h1 h2 h3 h4
  | ret => obtain ⟨ys, h1, h2, h3, h4⟩ := q; exact fin2 ys h1 h2 h3 h4
  | panic ch =>
    obtain ⟨h3, h4⟩ := q
    obtain ⟨f1, f2, f3, f4, f5, f6, f7⟩ := fin F H ρ1 a w' s' h3
    exact ⟨s'.ds, .pan ch, _, _, h4, rfl, f1, f2, f3, f4, f5, f6, f7⟩
  | _ => exact absurd q (by simp [qRetM])
mutual
/-- Objects' numbers moved up. -/
def sh (n : Nat) : V → V
  | .p id ver off => .p (id + n) ver off
  | .o id ver off len => .o (id + n) ver off len
  | .f fn cs => .f fn (shL n cs)
  | .a cs => .a (shL n cs)
  | .t cs => .t (shL n cs)
  | y => y
def shL (n : Nat) : List V → List V
  | [] => []
  | y :: ys => sh n y :: shL n ys
end
mutual
theorem Rel.sh {w : World} {L : Nat → Prop} {B : Nat} {ρ ρG : List Re} : ∀ (y : V) (v : Value), Rel w L B ρG y v → Rel w L B (ρ ++ ρG) (Vc.sh ρ.length y) v
  | .i _ _, _, h => h
  | .b _, _, h => h
  | .s _, _, h => h
  | .c _, _, h => h
  | .n _ _ _, _, h => h
  | .l _ _ _, _, h => h
  | .q _, _, h => h
  | .p id ver off, v, ⟨re, h1, h2⟩ => ⟨re, by rw [List.getElem?_append_right (by omega), Nat.add_sub_cancel]; exact h1, h2⟩
  | .o id ver off len, v, ⟨re, h1, h2⟩ => ⟨re, by rw [List.getElem?_append_right (by omega), Nat.add_sub_cancel]; exact h1, h2⟩
  | .f fn cs, v, ⟨us, e, h⟩ => ⟨us, e, RelL.sh cs us h⟩
  | .u, _, _ => trivial
  | .a cs, v, ⟨us, e, h⟩ => ⟨us, e, RelL.sh cs us h⟩
  | .t cs, v, ⟨us, e, h⟩ => ⟨us, e, RelL.sh cs us h⟩
theorem RelL.sh {w : World} {L : Nat → Prop} {B : Nat} {ρ ρG : List Re} : ∀ (ys : List V) (us : List Value), RelL w L B ρG ys us → RelL w L B (ρ ++ ρG) (shL ρ.length ys) us
  | [], _, h => h
  | y :: ys, us, ⟨u, us', e, h1, h2⟩ => ⟨u, us', e, Rel.sh y u h1, RelL.sh ys us' h2⟩
end
theorem lset_nil {M : Nat → Prop} : Lset M [] [] = M := by
  funext b
  apply propext
  constructor
  · rintro (h | ⟨i, o, r, h1, _⟩)
    · exact h
    · simp at h1
  · exact .inl
theorem lset_app {M : Nat → Prop} {ρ ρG : List Re} {H G : List Ob} (hl : ρ.length = H.length) : Lset M (ρ ++ ρG) (H ++ G) = Lset (Lset M ρ H) ρG G := by
  funext b
  apply propext
  constructor
  · rintro (h | ⟨i, o, r, h1, h2, h3, h4⟩)
    · exact .inl (.inl h)
    · rcases Nat.lt_or_ge i H.length with hlt | hge
      · rw [List.getElem?_append_left hlt] at h1
        rw [List.getElem?_append_left (by omega)] at h3
        exact .inl (.inr ⟨i, o, r, h1, h2, h3, h4⟩)
      · rw [List.getElem?_append_right hge] at h1
        rw [List.getElem?_append_right (by omega), hl] at h3
        exact .inr ⟨_, o, r, h1, h2, h3, h4⟩
  · rintro ((h | ⟨i, o, r, h1, h2, h3, h4⟩) | ⟨i, o, r, h1, h2, h3, h4⟩)
    · exact .inl h
    · exact .inr ⟨i, o, r, by rw [List.getElem?_append_left (List.getElem?_eq_some_iff.1 h1).1]; exact h1, h2, by rw [List.getElem?_append_left (List.getElem?_eq_some_iff.1 h3).1]; exact h3, h4⟩
    · exact .inr ⟨i + H.length, o, r, by rw [List.getElem?_append_right (by omega), Nat.add_sub_cancel]; exact h1, h2, by rw [List.getElem?_append_right (by omega), hl, Nat.add_sub_cancel]; exact h3, h4⟩
/-- The objects' cells name no object. -/
def idless (G : List Ob) : Prop := ∀ ob ∈ G, ob.live = true → ∀ y ∈ ob.cs, idB 0 y = true
theorem idless_nil : idless [] := fun _ h => by simp at h
theorem idless_cons {ob : Ob} {G : List Ob} (h : ob.cs.all (idB 0) = true) (hs : idless G) : idless (ob :: G) := fun o ho hl y hy => by
  rcases List.mem_cons.1 ho with rfl | ho
  · exact List.all_eq_true.1 h y hy
  · exact hs o ho hl y hy
theorem idless_dead {ob : Ob} {G : List Ob} (h : ob.live = false) (hs : idless G) : idless (ob :: G) := fun o ho hl y hy => by
  rcases List.mem_cons.1 ho with rfl | ho
  · rw [h] at hl; cases hl
  · exact hs o ho hl y hy
/-- A call that hands over what it made. -/
theorem wp_callN {f : FuncId} {fn : Func} {dst : Option Tmp} {T : TypeId} {ps : String} {af : Array Edge} {g : Option (Nat × Bool)} {c : Operand} {args : Array Operand} {ts : Array TypeId} {ys zs : List V} {post : Out → List Ob → Prop}
    (hc : ovO F c = some (.f f [])) (hf : P.funcs[f]? = some fn) (hb : fn.body.isSome = true) (hn : (fn.name == "runtime.NumGoroutine") = false) (hx : ovL F args.toList ys) (ha : ArgL ys zs) (hs : SpecM P f zs [] post) (hid : ∀ o G, post o G → idless G) {ρ : List Re} {a : Act} {w : World} (s : StA Γ ρ F H a w) {K : Act → World → Prop} {R : Exit → Act → World → Prop}
    (k : ∀ y v w' G ρ', post (.ret y) G → Rel w' (Lset Γ.M ρ' (H ++ G)) Γ.w0.heap.size ρ' (sh H.length y) v → Below w.heap.size w w' → StA Γ ρ' F (H ++ G) a w' → K (a.put dst v) w')
    (kp : ∀ ch w' G ρ', post (.pan ch) G → StA Γ ρ' F (H ++ G) a w' → R (.panic ch) a w') :
    (⟨dst, .call { callee := .value c, args := args, argTypes := ts }, T, ps, af, g⟩ : Oper).wp P a w K R := by
  obtain ⟨us0, hcv, hcr⟩ := s.ov hc
  have hus0 : us0 = [] := hcr
  subst hus0
  have hr := s.ovL hx
  have hargs : args.map a.eval = (args.toList.map a.eval).toArray := by apply Array.ext'; rw [Array.toList_map]
  have hcall := hs (Lset Γ.M ρ H) w [] (args.toList.map a.eval) (fun b h => Lset_lt s h) ⟨rfl, fun i o h => by simp at h, fun i j oi oj ri rj g _ h => by simp at h, fun i o r g h => by simp at h⟩ (by rw [lset_nil]; exact ha.rel _ hr)
  have hrun : (execOp a.eval ⟨dst, .call { callee := .value c, args := args, argTypes := ts }, T, ps, af, g⟩).run P w = .ok (.enter f (args.toList.map a.eval).toArray) w := by
    have hb' : ¬ fn.body = none := by intro h; rw [h] at hb; cases hb
    have hn' : ¬ fn.name = "runtime.NumGoroutine" := by simpa using hn
    simp [execOp, resolve, hcv, Deferred.ofValue, invoke, callFunc, program, Sem.run, hf]
    rw [if_neg hn', if_neg hb', hargs]
  unfold Oper.wp
  rw [hrun]
  show Calls P f _ w _
  refine hcall.mono fun e w' ⟨o, G, ρG, h1, h2, h3, h4, h5, h6, ev, h8, h9⟩ => ?_
  have hidG := hid o G h1
  have hnoh : ∀ b, ¬ hand [] [] b := fun b ⟨i, o, r, hh, _⟩ => by simp at hh
  have hbelow : Below w.heap.size w w' := ⟨h4, h5, h6, ev.size, fun b hlt => h9 b hlt (hnoh b)⟩
  have hold : ∀ b, b < w.heap.size → w'.heap[b]? = w.heap[b]? := hbelow.block
  have hnew : ∀ (id : Nat) (ob : Ob) (re : Re) (g : Nat), G[id]? = some ob → ob.live = true → ρG[id]? = some re → re.g = some g → w.heap.size ≤ g := fun id ob re g k1 k2 k3 k4 => (h8 id ob re g k1 k2 k3 k4).resolve_right (hnoh g)
  have hlen := s.hr.len
  have hL := lset_app (M := Γ.M) (ρG := ρG) (G := G) hlen
  have ev2 : Ev w (Lset Γ.M ρ H) Γ.w0.heap.size ρ w' (Lset Γ.M (ρ ++ ρG) (H ++ G)) Γ.w0.heap.size (ρ ++ ρG) := by
    refine ⟨ev.size, fun b hlt _ => hold b hlt, fun b hlt hn h => ?_, Nat.le_refl _, fun i r h => ⟨r, by rw [List.getElem?_append_left (List.getElem?_eq_some_iff.1 h).1]; exact h, Nat.le_refl _, fun _ => rfl⟩⟩
    rw [hL] at h
    rcases h with h | ⟨i, o, r, k1, k2, k3, k4⟩
    · exact hn h
    · have := hnew i o r b k1 k2 k3 k4; omega
  have s' : StA Γ (ρ ++ ρG) F (H ++ G) a w' := by
    refine ⟨⟨by rw [List.length_append, List.length_append, hlen, h3.len], fun i o k1 k2 => ?_, fun i j oi oj ri rj g hij k1 k2 k3 k4 k5 k6 => ?_, fun i o r g k1 k2 k3 k4 => ?_⟩, s.n, s.ds, fun t => (s.fr t).ev ev2, ⟨h4.trans s.fro.os, h5.trans s.fro.tape, h6.trans s.fro.output, Nat.le_trans s.fro.size ev.size, fun b hlt hnl => by rw [hold b (Nat.lt_of_lt_of_le hlt s.fro.size)]; exact s.fro.blk b hlt hnl, s.fro.old, fun i o r g k1 k2 k3 k4 => ?_, fun i r hi => ?_⟩⟩
    · rcases Nat.lt_or_ge i H.length with hlt | hge
      · rw [List.getElem?_append_left hlt] at k1
        obtain ⟨r, k3, k4⟩ := s.hr.ob i o k1 k2
        refine ⟨r, by rw [List.getElem?_append_left (by omega)]; exact k3, k4.ver, k4.sz, k4.nob, fun g hg => ?_⟩
        obtain ⟨cur, c1, c2, c3, c4, c5⟩ := k4.blk g hg
        have hglt : g < w.heap.size := (Array.getElem?_eq_some_iff.1 c1).1
        exact ⟨cur, by rw [hold g hglt]; exact c1, c2, c3, c4, fun j y hy => by obtain ⟨u, d1, d2, d3⟩ := c5 j y hy; exact ⟨u, d1, d2, d3.ev ev2⟩⟩
      · rw [List.getElem?_append_right hge] at k1
        obtain ⟨r, k3, k4⟩ := h3.ob _ o k1 k2
        refine ⟨r, by rw [List.getElem?_append_right (by omega), hlen]; exact k3, k4.ver, k4.sz, k4.nob, fun g hg => ?_⟩
        obtain ⟨cur, c1, c2, c3, c4, c5⟩ := k4.blk g hg
        refine ⟨cur, c1, c2, c3, c4, fun j y hy => ?_⟩
        obtain ⟨u, d1, d2, d3⟩ := c5 j y hy
        refine ⟨u, d1, d2, ?_⟩
        have hcut := d3.cut (n := 0) y u (hidG o (List.mem_of_getElem? k1) k2 y (List.mem_of_getElem? hy))
        rw [List.take_zero] at hcut
        rw [hL]
        exact rel_in s.fro.size y u hcut
    · rcases Nat.lt_or_ge i H.length with hi | hi <;> rcases Nat.lt_or_ge j H.length with hj | hj
      · rw [List.getElem?_append_left hi] at k1
        rw [List.getElem?_append_left hj] at k3
        rw [List.getElem?_append_left (by omega)] at k5 k6
        exact s.hr.apart i j oi oj ri rj g hij k1 k2 k3 k4 k5 k6
      · rw [List.getElem?_append_left hi] at k1
        rw [List.getElem?_append_right hj] at k3
        rw [List.getElem?_append_left (by omega)] at k5
        rw [List.getElem?_append_right (by omega), hlen] at k6
        intro hg hg'
        obtain ⟨r, m1, m2⟩ := s.hr.ob i oi k1 k2
        obtain rfl : r = ri := by have := m1.symm.trans k5; injection this
        obtain ⟨cur, c1, _⟩ := m2.blk g hg
        have hglt : g < w.heap.size := (Array.getElem?_eq_some_iff.1 c1).1
        have := hnew _ oj rj g k3 k4 k6 hg'
        omega
      · rw [List.getElem?_append_right hi] at k1
        rw [List.getElem?_append_left hj] at k3
        rw [List.getElem?_append_right (by omega), hlen] at k5
        rw [List.getElem?_append_left (by omega)] at k6
        intro hg hg'
        obtain ⟨r, m1, m2⟩ := s.hr.ob j oj k3 k4
        obtain rfl : r = rj := by have := m1.symm.trans k6; injection this
        obtain ⟨cur, c1, _⟩ := m2.blk g hg'
        have hglt : g < w.heap.size := (Array.getElem?_eq_some_iff.1 c1).1
        have := hnew _ oi ri g k1 k2 k5 hg
        omega
      · rw [List.getElem?_append_right hi] at k1
        rw [List.getElem?_append_right hj] at k3
        rw [List.getElem?_append_right (by omega), hlen] at k5 k6
        exact h3.apart _ _ oi oj ri rj g (by omega) k1 k2 k3 k4 k5 k6
    · rcases Nat.lt_or_ge i H.length with hi | hi
      · rw [List.getElem?_append_left hi] at k1
        rw [List.getElem?_append_left (by omega)] at k3
        exact s.hr.foreign i o r g k1 k2 k3 k4
      · rw [List.getElem?_append_right hi] at k1
        rw [List.getElem?_append_right (by omega), hlen] at k3
        exact fun hM => h3.foreign _ o r g k1 k2 k3 k4 (.inl hM)
    · rcases Nat.lt_or_ge i H.length with hi | hi
      · rw [List.getElem?_append_left hi] at k1
        rw [List.getElem?_append_left (by omega)] at k3
        exact s.fro.mine i o r g k1 k2 k3 k4
      · rw [List.getElem?_append_right hi] at k1
        rw [List.getElem?_append_right (by omega), hlen] at k3
        have := hnew _ o r g k1 k2 k3 k4
        exact .inl (Nat.le_trans s.fro.size this)
    · obtain ⟨r1, e1, e2, e3⟩ := s.fro.rho i r hi
      exact ⟨r1, by rw [List.getElem?_append_left (List.getElem?_eq_some_iff.1 e1).1]; exact e1, e2, e3⟩
  cases o with
  | ret y =>
    obtain ⟨v, rfl, hr'⟩ := h2
    refine k y v w' G (ρ ++ ρG) h1 ?_ hbelow s'
    rw [hL, ← hlen]
    exact rel_Ble s.fro.size _ v (Rel.sh y v hr')
  | pan ch =>
    have : e = .panicked ch := h2
    subst this
    exact kp ch w' G _ h1 s'
theorem jo_callN {f : FuncId} (fn : Func) {ops : Array Oper} {rest : List Oper} {d : Nat} {T : TypeId} {ps : String} {af : Array Edge} {args : Array Operand} {ts : Array TypeId} {c : Operand} {ys zs : List V} {post : Out → List Ob → Prop}
    (hs : SpecM P f zs [] post) (hid : ∀ o G, post o G → idless G) (hc : ovO F c = some (.f f [])) (hf : P.funcs[f]? = some fn) (hb : fn.body.isSome = true) (hn : (fn.name == "runtime.NumGoroutine") = false) (hx : ovL F args.toList ys) (ha : ArgL ys zs) (hd : d < Γ.N)
    (k : ∀ y G, post (.ret y) G → JO P ops rest Γ ((d, sh H.length y) :: F) (H ++ G) Q) (kp : ∀ ch G, post (.pan ch) G → Q (.panic ch) F (H ++ G)) :
    JO P ops (⟨some d, .call { callee := .value c, args := args, argTypes := ts }, T, ps, af, none⟩ :: rest) Γ F H Q := fun a w ⟨ρ, s⟩ =>
  wpList_plain rfl fun K hK => wp_callN hc hf hb hn hx ha hs hid s (fun y v w' G ρ' h1 h2 _ h4 => hK _ _ (k y G h1 _ _ ⟨ρ', h4.put hd h2⟩)) (fun ch w' G ρ' h1 h3 => ⟨F, H ++ G, kp ch G h1, ρ', h3⟩)
theorem js_callN {ops : Array Oper} {f : FuncId} (fn : Func) {d : Nat} {T : TypeId} {ps : String} {af : Array Edge} {args : Array Operand} {ts : Array TypeId} {c : Operand} {ys zs : List V} {post : Out → List Ob → Prop} {R : Fr → List Ob → Prop}
    (hs : SpecM P f zs [] post) (hid : ∀ o G, post o G → idless G) (hc : ovO F c = some (.f f [])) (hf : P.funcs[f]? = some fn) (hb : fn.body.isSome = true) (hn : (fn.name == "runtime.NumGoroutine") = false) (hx : ovL F args.toList ys) (ha : ArgL ys zs) (hd : d < Γ.N)
    (k : ∀ y G, post (.ret y) G → R ((d, sh H.length y) :: F) (H ++ G)) (kp : ∀ ch G, post (.pan ch) G → Q (.panic ch) F (H ++ G)) :
    JS P ops Γ ⟨some d, .call { callee := .value c, args := args, argTypes := ts }, T, ps, af, none⟩ F H Q R := fun a w ⟨ρ, s⟩ =>
  ⟨rfl, wp_callN hc hf hb hn hx ha hs hid s (fun y v w' G ρ' h1 h2 h3 h4 => ⟨fun _ => ext_below h3, _, _, k y G h1, ρ', h4.put hd h2⟩) (fun ch w' G ρ' h1 h3 => ⟨F, H ++ G, kp ch G h1, ρ', h3⟩)⟩
/-- An own object that is written no more, and read no more. -/
theorem jc_dead {c : Code} (id : Nat) {H' : List Ob} (hH : deadAt H id = H') (j : JC P c Γ F H' Q) : JC P c Γ F H Q := by
  subst hH
  exact fun a w ⟨ρ, s⟩ => j a w ⟨ρ, s.dead id⟩
end
end Go.Proofs.Ytcdipmjgpimmdaa.Vc

/- The calculus: own rows lent to a call that only reads; results chosen among the own objects; own objects given away to a call. -/
set_option linter.unusedVariables false
set_option linter.unusedSimpArgs false
namespace Go.Proofs.Ytcdipmjgpimmdaa.Vc
open Go Go.RowKit
mutual
/-- A value without places. -/
def scB : V → Bool
  | .i _ _ | .b _ | .s _ | .c _ | .u => true
  | .a cs => scBL cs
  | .t cs => scBL cs
  | _ => false
def scBL : List V → Bool
  | [] => true
  | y :: ys => scB y && scBL ys
end
mutual
theorem Rel.sc {w w' : World} {L L' : Nat → Prop} {B B' : Nat} {ρ ρ' : List Re} : ∀ (y : V) (v : Value), scB y = true → Rel w L B ρ y v → Rel w' L' B' ρ' y v
  | .i _ _, _, _, h => h
  | .b _, _, _, h => h
  | .s _, _, _, h => h
  | .c _, _, _, h => h
  | .u, _, _, h => h
  | .a cs, _, hs, ⟨us, e, h⟩ => ⟨us, e, RelL.sc cs us hs h⟩
  | .t cs, _, hs, ⟨us, e, h⟩ => ⟨us, e, RelL.sc cs us hs h⟩
  | .n _ _ _, _, hs, _ => by simp [scB] at hs
  | .l _ _ _, _, hs, _ => by simp [scB] at hs
  | .q _, _, hs, _ => by simp [scB] at hs
  | .p _ _ _, _, hs, _ => by simp [scB] at hs
  | .o _ _ _ _, _, hs, _ => by simp [scB] at hs
  | .f _ _, _, hs, _ => by simp [scB] at hs
theorem RelL.sc {w w' : World} {L L' : Nat → Prop} {B B' : Nat} {ρ ρ' : List Re} : ∀ (ys : List V) (us : List Value), scBL ys = true → RelL w L B ρ ys us → RelL w' L' B' ρ' ys us
  | [], _, _, h => h
  | y :: ys, us, hs, ⟨u, us', e, h1, h2⟩ => by
    simp only [scBL, Bool.and_eq_true] at hs
    exact ⟨u, us', e, Rel.sc y u hs.1 h1, RelL.sc ys us' hs.2 h2⟩
end
section
variable {P : Program} {Γ : Ctx} {F : Fr} {H : List Ob} {Q : Exit → Fr → List Ob → Prop}
/-- A call that reads own rows, and answers no place. -/
theorem wp_callL {f : FuncId} {fn : Func} {dst : Option Tmp} {T : TypeId} {ps : String} {af : Array Edge} {g : Option (Nat × Bool)} {c : Operand} {args : Array Operand} {ts : Array TypeId} {ys zs' zs : List V} {post : Out → Prop}
    (hc : ovO F c = some (.f f [])) (hf : P.funcs[f]? = some fn) (hb : fn.body.isSome = true) (hn : (fn.name == "runtime.NumGoroutine") = false) (hx : ovL F args.toList ys) (hl : RetV H (.a ys) (.a zs')) (ha : ArgL zs' zs) (hp : ∀ b, ¬ Γ.L0 b) (hs : Spec P f zs post) (hsc : ∀ y, post (.ret y) → scB y = true) {ρ : List Re} {a : Act} {w : World} (s : StA Γ ρ F H a w) {K : Act → World → Prop} {R : Exit → Act → World → Prop}
    (k : ∀ y v w', post (.ret y) → Rel w' (Lset Γ.M ρ H) Γ.w0.heap.size ρ y v → Below w.heap.size w w' → StA Γ ρ F H a w' → K (a.put dst v) w')
    (kp : ∀ ch w', post (.pan ch) → Below w.heap.size w w' → StA Γ ρ F H a w' → R (.panic ch) a w') :
    (⟨dst, .call { callee := .value c, args := args, argTypes := ts }, T, ps, af, g⟩ : Oper).wp P a w K R := by
  obtain ⟨us0, hcv, hcr⟩ := s.ov hc
  have hus0 : us0 = [] := hcr
  subst hus0
  have hr := s.ovL hx
  have hargs : args.map a.eval = (args.toList.map a.eval).toArray := by apply Array.ext'; rw [Array.toList_map]
  have hr2 : RelL w Γ.M Γ.w0.heap.size [] zs' (args.toList.map a.eval) := by
    obtain ⟨us2, e2, hr2⟩ := hl.rel s hp (v := .agg (args.toList.map a.eval).toArray) ⟨_, rfl, hr⟩
    have : args.toList.map a.eval = us2 := by injection e2 with e2; have := congrArg Array.toList e2; simpa using this
    rw [this]; exact hr2
  have hcall := hs Γ.M w (args.toList.map a.eval) (fun b h => Nat.lt_of_lt_of_le (s.fro.old b h) s.fro.size) (ha.rel _ hr2)
  have hrun : (execOp a.eval ⟨dst, .call { callee := .value c, args := args, argTypes := ts }, T, ps, af, g⟩).run P w = .ok (.enter f (args.toList.map a.eval).toArray) w := by
    have hb' : ¬ fn.body = none := by intro h; rw [h] at hb; cases hb
    have hn' : ¬ fn.name = "runtime.NumGoroutine" := by simpa using hn
    simp [execOp, resolve, hcv, Deferred.ofValue, invoke, callFunc, program, Sem.run, hf]
    rw [if_neg hn', if_neg hb', hargs]
  unfold Oper.wp
  rw [hrun]
  show Calls P f _ w _
  refine hcall.mono fun e w' ⟨o, h1, h2, h3⟩ => ?_
  have s' := s.below h3
  cases o with
  | ret y =>
    obtain ⟨v, rfl, hr'⟩ := h2
    exact k y v w' h1 (Rel.sc y v (hsc y h1) hr') h3 s'
  | pan ch =>
    have : e = .panicked ch := h2
    subst this
    exact kp ch w' h1 h3 s'
theorem jo_callL {f : FuncId} (fn : Func) {ops : Array Oper} {rest : List Oper} {d : Nat} {T : TypeId} {ps : String} {af : Array Edge} {args : Array Operand} {ts : Array TypeId} {c : Operand} {ys zs' zs : List V} {post : Out → Prop}
    (hs : Spec P f zs post) (hc : ovO F c = some (.f f [])) (hf : P.funcs[f]? = some fn) (hb : fn.body.isSome = true) (hn : (fn.name == "runtime.NumGoroutine") = false) (hx : ovL F args.toList ys) (hl : RetV H (.a ys) (.a zs')) (ha : ArgL zs' zs) (hp : ∀ b, ¬ Γ.L0 b) (hsc : ∀ y, post (.ret y) → scB y = true) (hd : d < Γ.N)
    (k : ∀ y, post (.ret y) → JO P ops rest Γ ((d, y) :: F) H Q) (kp : ∀ ch, post (.pan ch) → Q (.panic ch) F H) :
    JO P ops (⟨some d, .call { callee := .value c, args := args, argTypes := ts }, T, ps, af, none⟩ :: rest) Γ F H Q := fun a w ⟨ρ, s⟩ =>
  wpList_plain rfl fun K hK => wp_callL hc hf hb hn hx hl ha hp hs hsc s (fun y v w' h1 h2 _ h4 => hK _ _ (k y h1 _ _ ⟨ρ, h4.put hd h2⟩)) (fun ch w' h1 _ h3 => ⟨F, H, kp ch h1, ρ, h3⟩)
theorem jo_callLg {f : FuncId} (fn : Func) {ops : Array Oper} {rest : List Oper} {d : Nat} {T : TypeId} {ps : String} {af : Array Edge} {args : Array Operand} {ts : Array TypeId} {c : Operand} {ys zs' zs : List V} {post : Out → Prop} {j0 : Nat} {b0 : Bool} (t0 : Nat) (ht : (ops[j0]?).bind (·.dst) = some t0) (hb0 : getO F t0 = some (.b b0))
    (hs : Spec P f zs post) (hc : ovO F c = some (.f f [])) (hf : P.funcs[f]? = some fn) (hb : fn.body.isSome = true) (hn : (fn.name == "runtime.NumGoroutine") = false) (hx : ovL F args.toList ys) (hl : RetV H (.a ys) (.a zs')) (ha : ArgL zs' zs) (hp : ∀ b, ¬ Γ.L0 b) (hsc : ∀ y, post (.ret y) → scB y = true) (hd : d < Γ.N)
    (k : ∀ y, post (.ret y) → JO P ops rest Γ ((d, y) :: F) H Q) (kp : ∀ ch, post (.pan ch) → Q (.panic ch) F H) :
    JO P ops (⟨some d, .call { callee := .value c, args := args, argTypes := ts }, T, ps, af, some (j0, b0)⟩ :: rest) Γ F H Q := fun a w ⟨ρ, s⟩ =>
  wpList_step fun K hK => by
    rw [if_pos (wanted_yes rfl (yielded_of s ht hb0))]
    exact wp_callL hc hf hb hn hx hl ha hp hs hsc s (fun y v w' h1 h2 _ h4 => hK _ _ (k y h1 _ _ ⟨ρ, h4.put hd h2⟩)) (fun ch w' h1 _ h3 => ⟨F, H, kp ch h1, ρ, h3⟩)
theorem js_callL {ops : Array Oper} {f : FuncId} (fn : Func) {d : Nat} {T : TypeId} {ps : String} {af : Array Edge} {args : Array Operand} {ts : Array TypeId} {c : Operand} {ys zs' zs : List V} {post : Out → Prop} {R : Fr → List Ob → Prop}
    (hs : Spec P f zs post) (hc : ovO F c = some (.f f [])) (hf : P.funcs[f]? = some fn) (hb : fn.body.isSome = true) (hn : (fn.name == "runtime.NumGoroutine") = false) (hx : ovL F args.toList ys) (hl : RetV H (.a ys) (.a zs')) (ha : ArgL zs' zs) (hp : ∀ b, ¬ Γ.L0 b) (hsc : ∀ y, post (.ret y) → scB y = true) (hd : d < Γ.N)
    (k : ∀ y, post (.ret y) → R ((d, y) :: F) H) (kp : ∀ ch, post (.pan ch) → Q (.panic ch) F H) :
    JS P ops Γ ⟨some d, .call { callee := .value c, args := args, argTypes := ts }, T, ps, af, none⟩ F H Q R := fun a w ⟨ρ, s⟩ =>
  ⟨rfl, wp_callL hc hf hb hn hx hl ha hp hs hsc s (fun y v w' h1 h2 h3 h4 => ⟨fun _ => ext_below h3, _, _, k y h1, ρ, h4.put hd h2⟩) (fun ch w' h1 _ h3 => ⟨F, H, kp ch h1, ρ, h3⟩)⟩

/-! ### Nil in a slot's value as own rows that are not born yet -/
inductive NilOwn (id : Nat) : V → V → Prop
  | same {y : V} : NilOwn id y y
  | nil : NilOwn id (.c (.slice none 0 0)) (.o id 0 0 0)
  | a0 : NilOwn id (.a []) (.a [])
  | a1 {y z : V} {ys zs : List V} (h : NilOwn id y z) (hs : NilOwn id (.a ys) (.a zs)) : NilOwn id (.a (y :: ys)) (.a (z :: zs))
theorem NilOwn.rel {id : Nat} {y z : V} (h : NilOwn id y z) {w : World} {L : Nat → Prop} {B sz : Nat} {ρ : List Re} (hid : ρ[id]? = some ⟨none, 0, 0, sz⟩) : ∀ {v : Value}, Rel w L B ρ y v → Rel w L B ρ z v := by
  induction h with
  | same => exact fun h => h
  | nil => rintro v rfl; exact ⟨_, hid, Nat.zero_le _, fun _ => ⟨Nat.le_refl _, .inr ⟨rfl, rfl, rfl, rfl⟩⟩⟩
  | a0 => exact fun h => h
  | a1 h hs ih1 ih2 =>
    rintro v ⟨us, rfl, u, us', rfl, hr1, hr2⟩
    obtain ⟨us'', e2, hr3⟩ := ih2 ⟨us', rfl, hr2⟩
    have : us' = us'' := by injection e2 with e2; have := congrArg Array.toList e2; simpa using this
    subst this
    exact ⟨_, rfl, u, us', rfl, ih1 hr1, hr3⟩
theorem jc_own0a {c : Code} (t : Nat) {id : Nat} (T sz : Nat) {y z : V} (hx : getO F t = some y) (hid : H.length = id) (hz : NilOwn id y z) (j : JC P c Γ ((t, z) :: F) (H ++ [⟨T, sz, 0, true, []⟩]) Q) : JC P c Γ F H Q := fun a w ⟨ρ, s⟩ => by
  have s' := s.born (re := ⟨none, 0, 0, sz⟩) (ob := ⟨T, sz, 0, true, []⟩) (w' := w) ⟨rfl, rfl, rfl, Nat.le_refl _, fun _ _ _ => rfl⟩ rfl rfl rfl (fun g h => by cases h) (fun _ => ⟨rfl, rfl⟩) (fun g h => by cases h)
  refine j a w ⟨_, s'.hr, s'.n, s'.ds, fun t' => ?_, s'.fro⟩
  rw [get_cons]
  by_cases e : t' = t
  · rw [if_pos e]
    have h1 := s'.fr t'
    unfold get at h1
    rw [e, hx] at h1
    rw [e]
    exact hz.rel (sz := sz) (by rw [← hid, ← s.hr.len]; simp) h1
  · rw [if_neg e]; exact s'.fr t'

/-! ### Chosen objects -/
def selL {α : Type} (d : α) (sel : List Nat) (l : List α) : List α := sel.map fun i => (l[i]?).getD d
def noOb : Ob := ⟨0, 0, 0, false, []⟩
def noRe : Re := ⟨none, 0, 0, 0⟩
theorem selL_at {α : Type} {d : α} {sel : List Nat} {l : List α} {j : Nat} {x : α} (h : (selL d sel l)[j]? = some x) : ∃ i, sel[j]? = some i ∧ (l[i]?).getD d = x := by
  unfold selL at h
  rw [List.getElem?_map] at h
  cases hj : sel[j]? with
  | none => rw [hj] at h; cases h
  | some i => rw [hj] at h; exact ⟨i, rfl, by injection h⟩
theorem selL_some {α : Type} {d : α} {sel : List Nat} {l : List α} {j i : Nat} {x : α} (h : sel[j]? = some i) (hx : l[i]? = some x) : (selL d sel l)[j]? = some x := by
  unfold selL
  rw [List.getElem?_map, h]
  simp [hx]
theorem selOb_at {sel : List Nat} {H : List Ob} {j : Nat} {o : Ob} (h : (selL noOb sel H)[j]? = some o) (hl : o.live = true) : ∃ i, sel[j]? = some i ∧ H[i]? = some o := by
  obtain ⟨i, h1, h2⟩ := selL_at h
  refine ⟨i, h1, ?_⟩
  cases hi : H[i]? with
  | none => rw [hi] at h2; subst h2; cases hl
  | some o' => rw [hi] at h2; rw [← h2]; rfl
mutual
/-- Numbers in a choice told as the objects' own. -/
def ren (sel : List Nat) : V → V
  | .p id ver off => .p (sel.getD id 0) ver off
  | .o id ver off len => .o (sel.getD id 0) ver off len
  | .f fn cs => .f fn (renL sel cs)
  | .a cs => .a (renL sel cs)
  | .t cs => .t (renL sel cs)
  | y => y
def renL (sel : List Nat) : List V → List V
  | [] => []
  | y :: ys => ren sel y :: renL sel ys
end
theorem sel_re {sel : List Nat} {ρ : List Re} {id : Nat} {re : Re} (hi : id < sel.length) (e : ρ[sel.getD id 0]? = some re) : (selL noRe sel ρ)[id]? = some re := by
  refine selL_some (i := sel[id]) (List.getElem?_eq_getElem hi) ?_
  rw [List.getD_eq_getElem?_getD, List.getElem?_eq_getElem hi] at e
  exact e
mutual
theorem Rel.unren {w : World} {L : Nat → Prop} {B : Nat} {ρ : List Re} {sel : List Nat} : ∀ (y : V) (v : Value), idB sel.length y = true → Rel w L B ρ (ren sel y) v → Rel w L B (selL noRe sel ρ) y v
  | .i _ _, _, _, h => h
  | .b _, _, _, h => h
  | .s _, _, _, h => h
  | .c _, _, _, h => h
  | .n _ _ _, _, _, h => h
  | .l _ _ _, _, _, h => h
  | .q _, _, _, h => h
  | .u, _, _, h => h
  | .p id _ _, _, hi, ⟨re, e, h⟩ => ⟨re, sel_re (by simpa [idB] using hi) e, h⟩
  | .o id _ _ _, _, hi, ⟨re, e, h⟩ => ⟨re, sel_re (by simpa [idB] using hi) e, h⟩
  | .f _ cs, _, hi, ⟨us, e, h⟩ => ⟨us, e, RelL.unren cs us hi h⟩
  | .a cs, _, hi, ⟨us, e, h⟩ => ⟨us, e, RelL.unren cs us hi h⟩
  | .t cs, _, hi, ⟨us, e, h⟩ => ⟨us, e, RelL.unren cs us hi h⟩
theorem RelL.unren {w : World} {L : Nat → Prop} {B : Nat} {ρ : List Re} {sel : List Nat} : ∀ (ys : List V) (us : List Value), idBL sel.length ys = true → RelL w L B ρ (renL sel ys) us → RelL w L B (selL noRe sel ρ) ys us
  | [], _, _, h => h
  | y :: ys, us, hi, ⟨u, us', e, h1, h2⟩ => by
    simp only [idBL, Bool.and_eq_true] at hi
    exact ⟨u, us', e, Rel.unren y u hi.1 h1, RelL.unren ys us' hi.2 h2⟩
end
theorem lset_sel {M : Nat → Prop} {ρ : List Re} {H : List Ob} {sel : List Nat} (hlen : ρ.length = H.length) : ∀ b, Lset M (selL noRe sel ρ) (selL noOb sel H) b → Lset M ρ H b := by
  rintro b (h | ⟨j, o, r, h1, h2, h3, h4⟩)
  · exact .inl h
  · obtain ⟨i, k1, k2⟩ := selOb_at h1 h2
    obtain ⟨i', k3, k4⟩ := selL_at h3
    obtain rfl : i = i' := by rw [k1] at k3; injection k3
    have : i < ρ.length := by rw [hlen]; exact (List.getElem?_eq_some_iff.1 k2).1
    rw [List.getElem?_eq_getElem this] at k4
    exact .inr ⟨i, o, r, k2, h2, by rw [List.getElem?_eq_getElem this]; exact congrArg some k4, h4⟩
theorem sel_both {ρ : List Re} {H : List Ob} {sel : List Nat} (hlen : ρ.length = H.length) {j : Nat} {o : Ob} {r : Re} (h1 : (selL noOb sel H)[j]? = some o) (h2 : o.live = true) (h3 : (selL noRe sel ρ)[j]? = some r) : ∃ i, sel[j]? = some i ∧ H[i]? = some o ∧ ρ[i]? = some r := by
  obtain ⟨i, k1, k2⟩ := selOb_at h1 h2
  obtain ⟨i', k3, k4⟩ := selL_at h3
  obtain rfl : i = i' := by rw [k1] at k3; injection k3
  have : i < ρ.length := by rw [hlen]; exact (List.getElem?_eq_some_iff.1 k2).1
  rw [List.getElem?_eq_getElem this] at k4
  exact ⟨i, k1, k2, by rw [List.getElem?_eq_getElem this]; exact congrArg some k4⟩
/-- What a body has to show where it ends that hands over some of its objects. -/
def qRetS (P : Program) (fn : Func) (post : Out → List Ob → Prop) : Exit → Fr → List Ob → Prop
  | .ret, F, H | .normal, F, H => ∃ sel ys y, ResL P F H fn.results.toList ys ∧ ren sel y = packV ys ∧ idB sel.length y = true ∧ sel.Nodup ∧ idless (selL noOb sel H) ∧ post (.ret y) (selL noOb sel H)
  | .panic ch, _, H => post (.pan ch) []
  | _, _, _ => False
theorem specS_of {f : FuncId} {fn : Func} {c : Code} {args : List V} {post : Out → List Ob → Prop} (F0 : Fr) (h0 : ((args.zipIdx 0).map fun p => (p.2, p.1)) = F0) (hf : P.funcs[f]? = some fn) (hb : fn.body = some c) (hn : args.length ≤ fn.ntmps)
    (h : ∀ Γ : Ctx, Γ.N = fn.ntmps → Γ.ds = [] → (∀ b, ¬ Γ.L0 b) → Γ.ρ0 = [] → JC P c Γ F0 [] (qRetS P fn post)) : SpecM P f args [] post := fun M w ρ vals hM hR hr => by
  have hρ : ρ = [] := List.eq_nil_of_length_eq_zero hR.len
  subst hρ
  subst h0
  refine calls_of_wp hf hb ?_
  have hlen : vals.length = args.length := (relL_one args vals hr).1
  let Γ : Ctx := ⟨fn.ntmps, w, M, [], hand [] [], []⟩
  have s : StA Γ [] ((args.zipIdx 0).map fun p => (p.2, p.1)) [] ⟨vals.toArray ++ Array.replicate (fn.ntmps - vals.toArray.size) undef, []⟩ w := by
    refine ⟨hR, ?_, rfl, fun t => ?_, ⟨rfl, rfl, rfl, Nat.le_refl _, fun _ _ _ => rfl, hM, fun i o r g h1 h2 h3 h4 => .inr ⟨i, o, r, h1, h2, h3, h4⟩, fun i r h => ⟨r, h, Nat.le_refl _, fun _ => rfl⟩⟩⟩
    · show fn.ntmps ≤ (vals.toArray ++ Array.replicate (fn.ntmps - vals.toArray.size) undef).size
      simp; omega
    · have look : ∀ (ys : List V) (k t : Nat), getO ((ys.zipIdx k).map fun p => (p.2, p.1)) t = if k ≤ t then ys[t - k]? else none := by
        intro ys
        induction ys with
        | nil => intro k t; simp [getO]
        | cons y ys ih =>
          intro k t
          simp only [List.zipIdx_cons, List.map_cons, getO]
          cases hb : Nat.beq t k
          · have hne : t ≠ k := by intro e; subst e; simp at hb
            rw [ih (k + 1) t]
            by_cases h1 : k ≤ t
            · rw [if_pos h1, if_pos (by omega), show t - k = (t - (k + 1)) + 1 by omega]; rfl
            · rw [if_neg h1, if_neg (by omega)]; rfl
          · have := Nat.eq_of_beq_eq_true hb
            subst this
            simp
      unfold get
      rw [look args 0 t, if_pos (Nat.zero_le _), Nat.sub_zero]
      cases ht : args[t]? with
      | none => exact trivial
      | some y =>
        obtain ⟨u, hu, hru⟩ := relL_at args vals t y hr ht
        have hlt : t < vals.length := (List.getElem?_eq_some_iff.1 hu).1
        have e : ((vals.toArray ++ Array.replicate (fn.ntmps - vals.toArray.size) undef).getD t undef) = u := by
          rw [Array.getD_eq_getD_getElem?, Array.getElem?_append_left (by simpa using hlt)]
          simp [hu]
        show Rel w (Lset M [] []) w.heap.size [] y ((vals.toArray ++ Array.replicate (fn.ntmps - vals.toArray.size) undef).getD t undef)
        rw [e]
        exact hru
  have nohand : ∀ b, ¬ hand [] [] b := fun b hb => by obtain ⟨i, o, r, h1, _⟩ := hb; simp at h1
  have fin : ∀ (F : Fr) (H : List Ob) (ρ1 : List Re) (a : Act) (w' : World) (sel : List Nat), StA Γ ρ1 F H a w' → sel.Nodup → idless (selL noOb sel H) →
      HR M w' w.heap.size (selL noRe sel ρ1) (selL noOb sel H) ∧ w'.os = w.os ∧ w'.tape = w.tape ∧ w'.output = w.output ∧ Ev w (Lset M [] []) w.heap.size [] w' (Lset M (selL noRe sel ρ1) (selL noOb sel H)) w.heap.size (selL noRe sel ρ1) ∧
      (∀ (id : Nat) (ob : Ob) (re : Re) (g : Nat), (selL noOb sel H)[id]? = some ob → ob.live = true → (selL noRe sel ρ1)[id]? = some re → re.g = some g → w.heap.size ≤ g ∨ hand [] [] g) ∧ (∀ b, b < w.heap.size → ¬ hand [] [] b → w'.heap[b]? = w.heap[b]?) := by
    intro F H ρ1 a w' sel s' hnd hO
    have hsub := lset_sel (M := M) (sel := sel) s'.hr.len
    have ev : Ev w' (Lset M ρ1 H) w.heap.size ([] : List Re) w' (Lset M (selL noRe sel ρ1) (selL noOb sel H)) w.heap.size (selL noRe sel ρ1) :=
      ⟨Nat.le_refl _, fun _ _ _ => rfl, fun b _ hn h => hn (hsub b h), Nat.le_refl _, fun i r h => by simp at h⟩
    refine ⟨⟨by simp [selL], fun j o h1 h2 => ?_, fun j j' oj oj' rj rj' g hjj h1 h2 h3 h4 h5 h6 => ?_, fun j o r g h1 h2 h3 h4 => ?_⟩, s'.fro.os, s'.fro.tape, s'.fro.output, ⟨s'.fro.size, fun b hlt hL => s'.fro.blk b hlt (nohand b), fun b hlt hL hL' => ?_, Nat.le_refl _, fun i r h => by simp at h⟩, fun j o r g h1 h2 h3 h4 => ?_, fun b hlt hh => s'.fro.blk b hlt hh⟩
    · obtain ⟨i, k1, k2⟩ := selOb_at h1 h2
      obtain ⟨r, k3, k4⟩ := s'.hr.ob i o k2 h2
      refine ⟨r, selL_some k1 k3, k4.ver, k4.sz, k4.nob, fun g hg => ?_⟩
      obtain ⟨cur, c1, c2, c3, c4, c5⟩ := k4.blk g hg
      refine ⟨cur, c1, c2, c3, c4, fun q y hy => ?_⟩
      obtain ⟨u, d1, d2, d3⟩ := c5 q y hy
      refine ⟨u, d1, d2, ?_⟩
      have hcut := d3.cut (n := 0) y u (hO o (List.mem_of_getElem? h1) h2 y (List.mem_of_getElem? hy))
      rw [List.take_zero] at hcut
      exact hcut.ev ev
    · obtain ⟨i, k1, k2, k3⟩ := sel_both s'.hr.len h1 h2 h5
      obtain ⟨i', k1', k2', k3'⟩ := sel_both s'.hr.len h3 h4 h6
      refine s'.hr.apart i i' oj oj' rj rj' g (fun e => hjj ?_) k2 h2 k2' h4 k3 k3'
      subst e
      have hj : j < sel.length := (List.getElem?_eq_some_iff.1 k1).1
      exact (List.getElem?_inj hj hnd).1 (k1.trans k1'.symm)
    · obtain ⟨i, k1, k2, k3⟩ := sel_both s'.hr.len h1 h2 h3
      exact s'.hr.foreign i o r g k2 h2 k3 h4
    · rcases hsub b hL' with hM' | ⟨i, o, r, h1, h2, h3, h4⟩
      · exact hL (.inl hM')
      · rcases s'.fro.mine i o r b h1 h2 h3 h4 with h | h
        · have h' : w.heap.size ≤ b := h
          omega
        · exact nohand b h
    · obtain ⟨i, k1, k2, k3⟩ := sel_both s'.hr.len h1 h2 h3
      exact s'.fro.mine i o r g k2 h2 k3 h4
  refine Code.wp_mono (fun e a w' ⟨F, H, q, ρ1, s'⟩ => ?_) (h Γ rfl rfl nohand rfl _ _ ⟨_, s⟩)
  have fin2 : ∀ sel ys y, ResL P F H fn.results.toList ys → ren sel y = packV ys → idB sel.length y = true → sel.Nodup → idless (selL noOb sel H) → post (.ret y) (selL noOb sel H) → a.defers = [] ∧ ∃ v, (Go.results fn a.tmps).run P w' = .ok v w' ∧ ∃ o H' ρ', post o H' ∧ EndRelM w' (Lset M ρ' H') w.heap.size ρ' o (.returned v) ∧ HR M w' w.heap.size ρ' H' ∧
      w'.os = w.os ∧ w'.tape = w.tape ∧ w'.output = w.output ∧ Ev w (Lset M [] []) w.heap.size [] w' (Lset M ρ' H') w.heap.size ρ' ∧
      (∀ (id : Nat) (ob : Ob) (re : Re) (g : Nat), H'[id]? = some ob → ob.live = true → ρ'[id]? = some re → re.g = some g → w.heap.size ≤ g ∨ hand [] [] g) ∧ (∀ b, b < w.heap.size → ¬ hand [] [] b → w'.heap[b]? = w.heap[b]?) := by
    intro sel ys y h1 h2 h3 h4 h5 h6
    obtain ⟨v, hv, hr'⟩ := s'.results h1
    obtain ⟨f1, f2, f3, f4, f5, f6, f7⟩ := fin F H ρ1 a w' sel s' h4 h5
    rw [← h2] at hr'
    have hl : Rel w' (Lset M (selL noRe sel ρ1) (selL noOb sel H)) w.heap.size (selL noRe sel ρ1) y v :=
      (hr'.unren y v h3).ev ⟨Nat.le_refl _, fun _ _ _ => rfl, fun b _ hn hh => hn (lset_sel s'.hr.len b hh), Nat.le_refl _, fun i r h => ⟨r, h, Nat.le_refl _, fun _ => rfl⟩⟩
    exact ⟨s'.ds, v, hv, .ret y, _, _, h6, ⟨v, rfl, hl⟩, f1, f2, f3, f4, f5, f6, f7⟩
  cases e with
  | normal => obtain ⟨sel, ys, y, h1, h2, h3, h4, h5, h6⟩ := q; exact fin2 sel ys y h1 h2 h3 h4 h5 h6
  | ret => obtain ⟨sel, ys, y, h1, h2, h3, h4, h5, h6⟩ := q; exact fin2 sel ys y h1 h2 h3 h4 h5 h6
  | panic ch =>
    obtain ⟨f1, f2, f3, f4, f5, f6, f7⟩ := fin F H ρ1 a w' [] s' List.nodup_nil (fun _ h => by simp [selL] at h)
    exact ⟨s'.ds, .pan ch, _, _, q, rfl, f1, f2, f3, f4, f5, f6, f7⟩
  | _ => exact absurd q (by simp [qRetS])
end
end Go.Proofs.Ytcdipmjgpimmdaa.Vc

/- The calculus: own objects given away to a call that writes them. -/
set_option linter.unusedVariables false
set_option linter.unusedSimpArgs false
namespace Go.Proofs.Ytcdipmjgpimmdaa.Vc
open Go Go.RowKit
/-- Objects that are written, and read, no more. -/
def deads (H : List Ob) : List Nat → List Ob
  | [] => H
  | i :: sel => deads (deadAt H i) sel
theorem deads_len : ∀ (sel : List Nat) (H : List Ob), (deads H sel).length = H.length
  | [], H => rfl
  | i :: sel, H => by rw [deads, deads_len sel]; simp [deadAt]
theorem deads_some : ∀ {sel : List Nat} {H : List Ob} {i : Nat} {o : Ob}, (deads H sel)[i]? = some o → o.live = true → i ∉ sel ∧ H[i]? = some o
  | [], H, i, o, h, hl => ⟨by simp, h⟩
  | j :: sel, H, i, o, h, hl => by
    obtain ⟨h1, h2⟩ := deads_some (sel := sel) h hl
    obtain ⟨h3, h4⟩ := deadAt_some h2 hl
    exact ⟨by simp [h1, h3], h4⟩
inductive SelOk (H : List Ob) (sel0 : List Nat) : List Nat → List Ob → Prop
  | nil : SelOk H sel0 [] []
  | cons {i t sz ver : Nat} {sel : List Nat} {cs cs' : List V} {H0 : List Ob} (h : H[i]? = some ⟨t, sz, ver, true, cs'⟩) (hc : cs' = renL sel0 cs) (hs : SelOk H sel0 sel H0) : SelOk H sel0 (i :: sel) (⟨t, sz, ver, true, cs⟩ :: H0)
theorem SelOk.len {H : List Ob} {sel0 sel : List Nat} {H0 : List Ob} (h : SelOk H sel0 sel H0) : sel.length = H0.length := by
  induction h with
  | nil => rfl
  | cons _ _ _ ih => simp [ih]
theorem SelOk.at_ {H : List Ob} {sel0 sel : List Nat} {H0 : List Ob} (h : SelOk H sel0 sel H0) : ∀ {j : Nat} {o : Ob}, H0[j]? = some o → o.live = true ∧ ∃ i, sel[j]? = some i ∧ H[i]? = some { o with cs := renL sel0 o.cs } := by
  induction h with
  | nil => intro j o h; simp at h
  | cons h hc hs ih =>
    intro j o hj
    cases j with
    | zero =>
      simp at hj
      subst hj
      exact ⟨rfl, _, rfl, by rw [h, hc]⟩
    | succ j => exact ih (by simpa using hj)
theorem renL_at (sel : List Nat) : ∀ (cs : List V) (q : Nat) (y : V), cs[q]? = some y → (renL sel cs)[q]? = some (ren sel y)
  | [], _, _, h => by simp at h
  | c :: cs, 0, y, h => by simp at h; subst h; rfl
  | c :: cs, q + 1, y, h => by
    have := renL_at sel cs q y (by simpa using h)
    simpa [renL] using this
theorem renL_ints (sel : List Nat) (k : IntKind) : ∀ l : List Int, ints k l = renL sel (ints k l)
  | [] => rfl
  | x :: l => by
    show V.i k x :: ints k l = V.i k x :: renL sel (ints k l)
    rw [← renL_ints sel k l]
section
variable {P : Program} {Γ : Ctx} {F : Fr} {H : List Ob} {Q : Exit → Fr → List Ob → Prop}
theorem wp_callG {f : FuncId} {fn : Func} {dst : Option Tmp} {T : TypeId} {ps : String} {af : Array Edge} {g : Option (Nat × Bool)} {c : Operand} {args : Array Operand} {ts : Array TypeId} {sel : List Nat} {zs : List V} {H0 : List Ob} {post : Out → List Ob → Prop}
    (hc : ovO F c = some (.f f [])) (hf : P.funcs[f]? = some fn) (hb : fn.body.isSome = true) (hn : (fn.name == "runtime.NumGoroutine") = false) (hx : ovL F args.toList (renL sel zs)) (hzi : idBL sel.length zs = true) (hzf : noFrL zs = true) (hsel : SelOk H sel sel H0) (hnd : sel.Nodup) (hO : ObsId sel.length H0) (hfl : freshless H0) (hs : SpecM P f zs H0 post) (hsc : ∀ y G, post (.ret y) G → scB y = true) {ρ : List Re} {a : Act} {w : World} (s : StA Γ ρ F H a w) {K : Act → World → Prop} {R : Exit → Act → World → Prop}
    (k : ∀ y v w' G, post (.ret y) G → Rel w' (Lset Γ.M ρ (deads H sel)) Γ.w0.heap.size ρ y v → StA Γ ρ F (deads H sel) a w' → K (a.put dst v) w')
    (kp : ∀ ch w' G, post (.pan ch) G → StA Γ ρ F (deads H sel) a w' → R (.panic ch) a w') :
    (⟨dst, .call { callee := .value c, args := args, argTypes := ts }, T, ps, af, g⟩ : Oper).wp P a w K R := by
  obtain ⟨us0, hcv, hcr⟩ := s.ov hc
  have hus0 : us0 = [] := hcr
  subst hus0
  have hr := s.ovL hx
  have hargs : args.map a.eval = (args.toList.map a.eval).toArray := by apply Array.ext'; rw [Array.toList_map]
  have lsub : ∀ b, Lset Γ.M ρ (deads H sel) b → Lset Γ.M ρ H b := by
    rintro b (h | ⟨i, o, r, h1, h2, h3, h4⟩)
    · exact .inl h
    · exact .inr ⟨i, o, r, (deads_some h1 h2).2, h2, h3, h4⟩
  have hre : ∀ {j : Nat} {o : Ob} {r : Re}, H0[j]? = some o → (selL noRe sel ρ)[j]? = some r → ∃ i, sel[j]? = some i ∧ H[i]? = some { o with cs := renL sel o.cs } ∧ ρ[i]? = some r ∧ o.live = true := by
    intro j o r h1 h3
    obtain ⟨hl, i, k1, k2⟩ := hsel.at_ h1
    obtain ⟨i', k3, k4⟩ := selL_at h3
    obtain rfl : i = i' := by rw [k1] at k3; injection k3
    have : i < ρ.length := by rw [s.hr.len]; exact (List.getElem?_eq_some_iff.1 k2).1
    rw [List.getElem?_eq_getElem this] at k4
    exact ⟨i, k1, k2, by rw [List.getElem?_eq_getElem this]; exact congrArg some k4, hl⟩
  have hsub : ∀ b, Lset (Lset Γ.M ρ (deads H sel)) (selL noRe sel ρ) H0 b → Lset Γ.M ρ H b := by
    rintro b (h | ⟨j, o, r, h1, h2, h3, h4⟩)
    · exact lsub b h
    · obtain ⟨i, k1, k2, k3, _⟩ := hre h1 h3
      exact .inr ⟨i, _, r, k2, h2, k3, h4⟩
  have ev0 : Ev w (Lset Γ.M ρ H) w.heap.size (selL noRe sel ρ) w (Lset (Lset Γ.M ρ (deads H sel)) (selL noRe sel ρ) H0) w.heap.size (selL noRe sel ρ) :=
    ⟨Nat.le_refl _, fun _ _ _ => rfl, fun b _ hn h => hn (hsub b h), Nat.le_refl _, fun i r h => ⟨r, h, Nat.le_refl _, fun _ => rfl⟩⟩
  have hHR : HR (Lset Γ.M ρ (deads H sel)) w w.heap.size (selL noRe sel ρ) H0 := by
    refine ⟨by simp [selL, hsel.len], fun j o h1 h2 => ?_, fun j j' oj oj' rj rj' g hjj h1 h2 h3 h4 h5 h6 hg => ?_, fun j o r g h1 h2 h3 h4 => ?_⟩
    · obtain ⟨hl, i, k1, k2⟩ := hsel.at_ h1
      obtain ⟨r, k3, k4⟩ := s.hr.ob i _ k2 hl
      refine ⟨r, selL_some k1 k3, k4.ver, k4.sz, fun hg => ?_, fun g hg => ?_⟩
      · obtain ⟨e1, e2⟩ := k4.nob hg
        have e1' : renL sel o.cs = [] := e1
        refine ⟨?_, e2⟩
        cases hcs : o.cs with
        | nil => rfl
        | cons y ys => rw [hcs] at e1'; simp [renL] at e1'
      · obtain ⟨cur, c1, c2, c3, c4, c5⟩ := k4.blk g hg
        have hlen : ∀ cs : List V, (renL sel cs).length = cs.length := fun cs => by
          induction cs with
          | nil => rfl
          | cons y ys ih => simp [renL, ih]
        refine ⟨cur, c1, c2, by rw [← hlen o.cs]; exact c3, c4, fun q y hy => ?_⟩
        obtain ⟨u, d1, d2, d3⟩ := c5 q (ren sel y) (renL_at sel o.cs q y hy)
        have h5 := Rel.unren y u (hO o (List.mem_of_getElem? h1) h2 y (List.mem_of_getElem? hy)) d3
        exact ⟨u, d1, d2, (rel_B y u (hfl o (List.mem_of_getElem? h1) h2 y (List.mem_of_getElem? hy)) h5).ev ev0⟩
    · obtain ⟨i, k1, k2, k3, _⟩ := hre h1 h5
      obtain ⟨i', k1', k2', k3', _⟩ := hre h3 h6
      refine s.hr.apart i i' _ _ rj rj' g (fun e => hjj ?_) k2 h2 k2' h4 k3 k3' hg
      subst e
      have hj : j < sel.length := (List.getElem?_eq_some_iff.1 k1).1
      exact (List.getElem?_inj hj hnd).1 (k1.trans k1'.symm)
    · obtain ⟨i, k1, k2, k3, _⟩ := hre h1 h3
      rintro (hM | ⟨i', o', r', e1, e2, e3, e4⟩)
      · exact s.hr.foreign i _ r g k2 h2 k3 h4 hM
      · obtain ⟨n1, n2⟩ := deads_some e1 e2
        have hne : i' ≠ i := fun e => n1 (e ▸ List.mem_of_getElem? k1)
        exact s.hr.apart i' i _ _ r' r g hne n2 e2 k2 h2 e3 k3 e4 h4
  have hcall := hs (Lset Γ.M ρ (deads H sel)) w (selL noRe sel ρ) (args.toList.map a.eval) (fun b h => Lset_lt s (lsub b h)) hHR
    ((relL_B zs _ hzf (RelL.unren zs _ hzi hr)).ev ev0)
  have hrun : (execOp a.eval ⟨dst, .call { callee := .value c, args := args, argTypes := ts }, T, ps, af, g⟩).run P w = .ok (.enter f (args.toList.map a.eval).toArray) w := by
    have hb' : ¬ fn.body = none := by intro h; rw [h] at hb; cases hb
    have hn' : ¬ fn.name = "runtime.NumGoroutine" := by simpa using hn
    simp [execOp, resolve, hcv, Deferred.ofValue, invoke, callFunc, program, Sem.run, hf]
    rw [if_neg hn', if_neg hb', hargs]
  unfold Oper.wp
  rw [hrun]
  show Calls P f _ w _
  refine hcall.mono fun e w' ⟨o, H', ρ', h1, h2, h3, h4, h5, h6, ev, h8, h9⟩ => ?_
  have hhand : ∀ b, hand (selL noRe sel ρ) H0 b → ∃ (i : Nat) (o : Ob) (r : Re), i ∈ sel ∧ H[i]? = some o ∧ o.live = true ∧ ρ[i]? = some r ∧ r.g = some b := by
    rintro b ⟨j, o, r, k1, k2, k3, k4⟩
    obtain ⟨i, e1, e2, e3, _⟩ := hre k1 k3
    exact ⟨i, _, r, List.mem_of_getElem? e1, e2, k2, e3, k4⟩
  have ev2 : Ev w (Lset Γ.M ρ H) Γ.w0.heap.size ρ w' (Lset Γ.M ρ (deads H sel)) Γ.w0.heap.size ρ := by
    refine ⟨ev.size, fun b hlt hnL => h9 b hlt fun hh => ?_, fun b _ hn h => hn (lsub b h), Nat.le_refl _, fun i r h => ⟨r, h, Nat.le_refl _, fun _ => rfl⟩⟩
    obtain ⟨i, o, r, _, e2, e3, e4, e5⟩ := hhand b hh
    exact hnL (.inr ⟨i, o, r, e2, e3, e4, e5⟩)
  have s' : StA Γ ρ F (deads H sel) a w' := by
    refine ⟨⟨by rw [deads_len]; exact s.hr.len, fun i o k1 k2 => ?_, fun i j oi oj ri rj g hij k1 k2 k3 k4 => s.hr.apart i j oi oj ri rj g hij (deads_some k1 k2).2 k2 (deads_some k3 k4).2 k4, fun i o r g k1 k2 => s.hr.foreign i o r g (deads_some k1 k2).2 k2⟩, s.n, s.ds, fun t => (s.fr t).ev ev2, ⟨h4.trans s.fro.os, h5.trans s.fro.tape, h6.trans s.fro.output, Nat.le_trans s.fro.size ev.size, fun b hlt hnl => ?_, s.fro.old, fun i o r g k1 k2 => s.fro.mine i o r g (deads_some k1 k2).2 k2, s.fro.rho⟩⟩
    · obtain ⟨n1, n2⟩ := deads_some k1 k2
      obtain ⟨r, k3, k4⟩ := s.hr.ob i o n2 k2
      refine ⟨r, k3, k4.ver, k4.sz, k4.nob, fun g hg => ?_⟩
      obtain ⟨cur, c1, c2, c3, c4, c5⟩ := k4.blk g hg
      refine ⟨cur, ?_, c2, c3, c4, fun j y hy => by obtain ⟨u, d1, d2, d3⟩ := c5 j y hy; exact ⟨u, d1, d2, d3.ev ev2⟩⟩
      rw [h9 g (s.hr.lt n2 k2 k3 hg) fun hh => ?_]
      · exact c1
      · obtain ⟨i', o', r', m1, m2, m3, m4, m5⟩ := hhand g hh
        exact s.hr.apart i i' o o' r r' g (fun e => n1 (e ▸ m1)) n2 k2 m2 m3 k3 m4 hg m5
    · rw [h9 b (Nat.lt_of_lt_of_le hlt s.fro.size) fun hh => ?_]
      · exact s.fro.blk b hlt hnl
      · obtain ⟨i', o', r', m1, m2, m3, m4, m5⟩ := hhand b hh
        rcases s.fro.mine i' o' r' b m2 m3 m4 m5 with h | h
        · omega
        · exact hnl h
  cases o with
  | ret y =>
    obtain ⟨v, rfl, hr'⟩ := h2
    exact k y v w' H' h1 (Rel.sc y v (hsc y H' h1) hr') s'
  | pan ch =>
    have : e = .panicked ch := h2
    subst this
    exact kp ch w' H' h1 s'
theorem jo_callG {f : FuncId} (fn : Func) {ops : Array Oper} {rest : List Oper} {d : Nat} {T : TypeId} {ps : String} {af : Array Edge} {args : Array Operand} {ts : Array TypeId} {c : Operand} {sel : List Nat} {zs : List V} {H0 : List Ob} {post : Out → List Ob → Prop}
    (hs : SpecM P f zs H0 post) (hc : ovO F c = some (.f f [])) (hf : P.funcs[f]? = some fn) (hb : fn.body.isSome = true) (hn : (fn.name == "runtime.NumGoroutine") = false) (hx : ovL F args.toList (renL sel zs)) (hzi : idBL sel.length zs = true) (hzf : noFrL zs = true) (hsel : SelOk H sel sel H0) (hnd : sel.Nodup) (hO : ObsId sel.length H0) (hfl : freshless H0) (hsc : ∀ y G, post (.ret y) G → scB y = true) (hd : d < Γ.N)
    (k : ∀ y G, post (.ret y) G → JO P ops rest Γ ((d, y) :: F) (deads H sel) Q) (kp : ∀ ch G, post (.pan ch) G → Q (.panic ch) F (deads H sel)) :
    JO P ops (⟨some d, .call { callee := .value c, args := args, argTypes := ts }, T, ps, af, none⟩ :: rest) Γ F H Q := fun a w ⟨ρ, s⟩ =>
  wpList_plain rfl fun K hK => wp_callG hc hf hb hn hx hzi hzf hsel hnd hO hfl hs hsc s (fun y v w' G h1 h2 h4 => hK _ _ (k y G h1 _ _ ⟨ρ, h4.put hd h2⟩)) (fun ch w' G h1 h3 => ⟨F, _, kp ch G h1, ρ, h3⟩)
theorem jo_callGg {f : FuncId} (fn : Func) {ops : Array Oper} {rest : List Oper} {d : Nat} {T : TypeId} {ps : String} {af : Array Edge} {args : Array Operand} {ts : Array TypeId} {c : Operand} {sel : List Nat} {zs : List V} {H0 : List Ob} {post : Out → List Ob → Prop} {j0 : Nat} {b0 : Bool} (t0 : Nat) (ht : (ops[j0]?).bind (·.dst) = some t0) (hb0 : getO F t0 = some (.b b0))
    (hs : SpecM P f zs H0 post) (hc : ovO F c = some (.f f [])) (hf : P.funcs[f]? = some fn) (hb : fn.body.isSome = true) (hn : (fn.name == "runtime.NumGoroutine") = false) (hx : ovL F args.toList (renL sel zs)) (hzi : idBL sel.length zs = true) (hzf : noFrL zs = true) (hsel : SelOk H sel sel H0) (hnd : sel.Nodup) (hO : ObsId sel.length H0) (hfl : freshless H0) (hsc : ∀ y G, post (.ret y) G → scB y = true) (hd : d < Γ.N)
    (k : ∀ y G, post (.ret y) G → JO P ops rest Γ ((d, y) :: F) (deads H sel) Q) (kp : ∀ ch G, post (.pan ch) G → Q (.panic ch) F (deads H sel)) :
    JO P ops (⟨some d, .call { callee := .value c, args := args, argTypes := ts }, T, ps, af, some (j0, b0)⟩ :: rest) Γ F H Q := fun a w ⟨ρ, s⟩ =>
  wpList_step fun K hK => by
    rw [if_pos (wanted_yes rfl (yielded_of s ht hb0))]
    exact wp_callG hc hf hb hn hx hzi hzf hsel hnd hO hfl hs hsc s (fun y v w' G h1 h2 h4 => hK _ _ (k y G h1 _ _ ⟨ρ, h4.put hd h2⟩)) (fun ch w' G h1 h3 => ⟨F, _, kp ch G h1, ρ, h3⟩)
theorem js_callG {ops : Array Oper} {f : FuncId} (fn : Func) {d : Nat} {T : TypeId} {ps : String} {af : Array Edge} {args : Array Operand} {ts : Array TypeId} {c : Operand} {sel : List Nat} {zs : List V} {H0 : List Ob} {post : Out → List Ob → Prop} {R : Fr → List Ob → Prop}
    (hs : SpecM P f zs H0 post) (hc : ovO F c = some (.f f [])) (hf : P.funcs[f]? = some fn) (hb : fn.body.isSome = true) (hn : (fn.name == "runtime.NumGoroutine") = false) (hx : ovL F args.toList (renL sel zs)) (hzi : idBL sel.length zs = true) (hzf : noFrL zs = true) (hsel : SelOk H sel sel H0) (hnd : sel.Nodup) (hO : ObsId sel.length H0) (hfl : freshless H0) (hsc : ∀ y G, post (.ret y) G → scB y = true) (hd : d < Γ.N)
    (k : ∀ y G, post (.ret y) G → R ((d, y) :: F) (deads H sel)) (kp : ∀ ch G, post (.pan ch) G → Q (.panic ch) F (deads H sel)) (hm : mildB ⟨some d, .call { callee := .value c, args := args, argTypes := ts }, T, ps, af, none⟩ = false) :
    JS P ops Γ ⟨some d, .call { callee := .value c, args := args, argTypes := ts }, T, ps, af, none⟩ F H Q R := fun a w ⟨ρ, s⟩ =>
  ⟨rfl, wp_callG hc hf hb hn hx hzi hzf hsel hnd hO hfl hs hsc s (fun y v w' G h1 h2 h4 => ⟨fun e => (by rw [hm] at e; cases e), _, _, k y G h1, ρ, h4.put hd h2⟩) (fun ch w' G h1 h3 => ⟨F, _, kp ch G h1, ρ, h3⟩)⟩
theorem js_callGg {ops : Array Oper} {f : FuncId} (fn : Func) {d : Nat} {T : TypeId} {ps : String} {af : Array Edge} {args : Array Operand} {ts : Array TypeId} {c : Operand} {sel : List Nat} {zs : List V} {H0 : List Ob} {post : Out → List Ob → Prop} {R : Fr → List Ob → Prop} {j0 : Nat} {b0 : Bool} (t0 : Nat) (ht : (ops[j0]?).bind (·.dst) = some t0) (hb0 : getO F t0 = some (.b b0))
    (hs : SpecM P f zs H0 post) (hc : ovO F c = some (.f f [])) (hf : P.funcs[f]? = some fn) (hb : fn.body.isSome = true) (hn : (fn.name == "runtime.NumGoroutine") = false) (hx : ovL F args.toList (renL sel zs)) (hzi : idBL sel.length zs = true) (hzf : noFrL zs = true) (hsel : SelOk H sel sel H0) (hnd : sel.Nodup) (hO : ObsId sel.length H0) (hfl : freshless H0) (hsc : ∀ y G, post (.ret y) G → scB y = true) (hd : d < Γ.N)
    (k : ∀ y G, post (.ret y) G → R ((d, y) :: F) (deads H sel)) (kp : ∀ ch G, post (.pan ch) G → Q (.panic ch) F (deads H sel)) (hm : mildB ⟨some d, .call { callee := .value c, args := args, argTypes := ts }, T, ps, af, some (j0, b0)⟩ = false) :
    JS P ops Γ ⟨some d, .call { callee := .value c, args := args, argTypes := ts }, T, ps, af, some (j0, b0)⟩ F H Q R := fun a w ⟨ρ, s⟩ =>
  ⟨wanted_yes rfl (yielded_of s ht hb0), wp_callG hc hf hb hn hx hzi hzf hsel hnd hO hfl hs hsc s (fun y v w' G h1 h2 h4 => ⟨fun e => (by rw [hm] at e; cases e), _, _, k y G h1, ρ, h4.put hd h2⟩) (fun ch w' G h1 h3 => ⟨F, _, kp ch G h1, ρ, h3⟩)⟩
theorem js_callLg {ops : Array Oper} {f : FuncId} (fn : Func) {d : Nat} {T : TypeId} {ps : String} {af : Array Edge} {args : Array Operand} {ts : Array TypeId} {c : Operand} {ys zs' zs : List V} {post : Out → Prop} {R : Fr → List Ob → Prop} {j0 : Nat} {b0 : Bool} (t0 : Nat) (ht : (ops[j0]?).bind (·.dst) = some t0) (hb0 : getO F t0 = some (.b b0))
    (hs : Spec P f zs post) (hc : ovO F c = some (.f f [])) (hf : P.funcs[f]? = some fn) (hb : fn.body.isSome = true) (hn : (fn.name == "runtime.NumGoroutine") = false) (hx : ovL F args.toList ys) (hl : RetV H (.a ys) (.a zs')) (ha : ArgL zs' zs) (hp : ∀ b, ¬ Γ.L0 b) (hsc : ∀ y, post (.ret y) → scB y = true) (hd : d < Γ.N)
    (k : ∀ y, post (.ret y) → R ((d, y) :: F) H) (kp : ∀ ch, post (.pan ch) → Q (.panic ch) F H) :
    JS P ops Γ ⟨some d, .call { callee := .value c, args := args, argTypes := ts }, T, ps, af, some (j0, b0)⟩ F H Q R := fun a w ⟨ρ, s⟩ =>
  ⟨wanted_yes rfl (yielded_of s ht hb0), wp_callL hc hf hb hn hx hl ha hp hs hsc s (fun y v w' h1 h2 h3 h4 => ⟨fun _ => ext_below h3, _, _, k y h1, ρ, h4.put hd h2⟩) (fun ch w' h1 _ h3 => ⟨F, H, kp ch h1, ρ, h3⟩)⟩
end
end Go.Proofs.Ytcdipmjgpimmdaa.Vc

/- What the functions over limbs compute, in plain Lean. -/
set_option linter.unusedVariables false
set_option linter.unusedSimpArgs false
namespace Go.Proofs.Ytcdipmjgpimmdaa.Vc
open Go Go.RowKit

/-- How many of the first k limbs stay, without noughts at the top. -/
def tN (l : List Int) : Nat → Nat
  | 0 => 0
  | k + 1 => if l.getD k 0 = 0 then tN l k else k + 1
def trm (l : List Int) : List Int := l.take (tN l l.length)
theorem tN_le (l : List Int) : ∀ k, tN l k ≤ k
  | 0 => Nat.le_refl _
  | k + 1 => by simp only [tN]; split <;> have := tN_le l k <;> omega
theorem tN_down {l : List Int} {k : Nat} (h0 : 0 < k) (h : l.getD (k - 1) 0 = 0) : tN l (k - 1) = tN l k := by
  obtain ⟨j, rfl⟩ : ∃ j, k = j + 1 := ⟨k - 1, by omega⟩
  simp only [Nat.add_sub_cancel] at h ⊢
  simp only [tN]
  rw [if_pos h]
theorem tN_stop {l : List Int} {k : Nat} (h0 : 0 < k) (h : ¬ l.getD (k - 1) 0 = 0) : tN l k = k := by
  obtain ⟨j, rfl⟩ : ∃ j, k = j + 1 := ⟨k - 1, by omega⟩
  simp only [Nat.add_sub_cancel] at h
  simp only [tN]
  rw [if_neg h]
theorem tN_0 {l : List Int} {k : Nat} (h : ¬ 0 < k) : tN l k = k := by
  have : k = 0 := by omega
  subst this; rfl
theorem trm_len (l : List Int) : (trm l).length ≤ l.length := by unfold trm; rw [List.length_take]; omega
theorem getD_take {l : List Int} {k i : Nat} (h : i < k) : (l.take k).getD i 0 = l.getD i 0 := by
  rw [List.getD_eq_getElem?_getD, List.getD_eq_getElem?_getD, List.getElem?_take, if_pos h]
def u64s (l : List Int) : Prop := ∀ x ∈ l, 0 ≤ x ∧ x < 18446744073709551616
theorem u64s_trm {l : List Int} (h : u64s l) : u64s (trm l) := fun x hx => h x (List.mem_of_mem_take hx)
theorem u64s_at {l : List Int} (h : u64s l) {i : Nat} (hi : i < l.length) : 0 ≤ l.getD i 0 ∧ l.getD i 0 < 18446744073709551616 := by
  rw [List.getD_eq_getElem?_getD, List.getElem?_eq_getElem hi]; exact h _ (List.getElem_mem hi)
theorem u64s_getD {l : List Int} (h : u64s l) (i : Nat) : 0 ≤ l.getD i 0 ∧ l.getD i 0 < 18446744073709551616 := by
  by_cases hi : i < l.length
  · exact u64s_at h hi
  · rw [List.getD_eq_getElem?_getD, List.getElem?_eq_none (by omega)]; exact ⟨by decide, by decide⟩
/-- How many binary digits, with fuel. -/
def bl : Nat → Nat → Nat
  | 0, _ => 0
  | f + 1, n => if n = 0 then 0 else 1 + bl f (n / 2)
theorem bl_le : ∀ f n, bl f n ≤ f
  | 0, _ => Nat.le_refl _
  | f + 1, n => by simp only [bl]; split <;> have := bl_le f (n / 2) <;> omega
theorem bl_fuel : ∀ (f d n : Nat), n < 2 ^ f → bl (f + d) n = bl f n
  | 0, d, n, h => by
    have : n = 0 := by simpa using h
    subst this
    cases d <;> simp [bl]
  | f + 1, d, n, h => by
    rw [show f + 1 + d = (f + d) + 1 by omega]
    simp only [bl]
    split
    · rfl
    · rw [bl_fuel f d (n / 2) (by rw [Nat.pow_succ] at h; omega)]
theorem bl_shift : ∀ (k f n : Nat), 2 ^ k ≤ n → bl (k + f) n = k + bl f (n / 2 ^ k)
  | 0, f, n, _ => by simp
  | k + 1, f, n, h => by
    have h2 : 2 ^ (k + 1) = 2 ^ k * 2 := Nat.pow_succ ..
    have hp : 0 < 2 ^ k := Nat.two_pow_pos k
    rw [show k + 1 + f = (k + f) + 1 by omega]
    simp only [bl]
    rw [if_neg (by omega), bl_shift k f (n / 2) (by omega), h2, Nat.mul_comm, ← Nat.div_div_eq_div_mul]
    omega
theorem bl64_shift {k n : Nat} (hk : k ≤ 64) (h : 2 ^ k ≤ n) (hn : n < 2 ^ 64) : bl 64 n = k + bl 64 (n / 2 ^ k) := by
  have h1 := bl_shift k (64 - k) n h
  rw [show k + (64 - k) = 64 by omega] at h1
  rw [h1]
  have h2 : n / 2 ^ k < 2 ^ (64 - k) := by
    rw [Nat.div_lt_iff_lt_mul (Nat.two_pow_pos k), ← Nat.pow_add, show 64 - k + k = 64 by omega]; exact hn
  have h3 := bl_fuel (64 - k) k _ h2
  rw [show 64 - k + k = 64 by omega] at h3
  rw [h3]
def lenTab : ByteArray := ⟨((List.range 256).map fun i => (bl 8 i).toUInt8).toArray⟩
theorem lenTab_at {i : Nat} (h : i < 256) : byteAt lenTab i = (bl 64 i : Int) := by
  have key : ∀ j : Fin 256, byteAt lenTab j.val = (bl 64 j.val : Int) := by decide +kernel
  exact key ⟨i, h⟩
theorem shr_nat {n k b : Nat} {kk : Int} (h : 2 ^ min kk.toNat b = k) : ((n : Int)).fdiv (2 ^ min kk.toNat b) = ((n / k : Nat) : Int) := by
  have : ((2 : Int) ^ min kk.toNat b) = ((k : Nat) : Int) := by rw [← h]; norm_cast
  rw [this]
  exact (Int.ofNat_fdiv n k).symm
/-- How many binary digits a number has. -/
def lenN (l : List Int) : Nat := if (trm l).length = 0 then 0 else 64 * ((trm l).length - 1) + bl 64 ((trm l).getD ((trm l).length - 1) 0).toNat
theorem lenN_le (l : List Int) : lenN l ≤ 64 * l.length := by
  unfold lenN
  have h1 := trm_len l
  split
  · omega
  · have := bl_le 64 ((trm l).getD ((trm l).length - 1) 0).toNat
    omega
/-- Which is greater, of the first k limbs. -/
def cmpN (a b : List Int) : Nat → Int
  | 0 => 0
  | k + 1 => if a.getD k 0 < b.getD k 0 then -1 else if b.getD k 0 < a.getD k 0 then 1 else cmpN a b k
def cmpL (a b : List Int) : Int := if a.length < b.length then -1 else if b.length < a.length then 1 else cmpN a b a.length
theorem cmpN_succ {a b : List Int} {k : Nat} (h1 : ¬ a.getD k 0 < b.getD k 0) (h2 : ¬ b.getD k 0 < a.getD k 0) : cmpN a b (k + 1) = cmpN a b k := by simp only [cmpN]; rw [if_neg h1, if_neg h2]
/-- Sums with a carry: the first i limbs. -/
def adN (a b : List Int) : Nat → List Int × Int
  | 0 => ([], 0)
  | i + 1 => ((adN a b i).1 ++ [(a.getD i 0 + b.getD i 0 + (adN a b i).2) % 18446744073709551616], (a.getD i 0 + b.getD i 0 + (adN a b i).2) / 18446744073709551616)
theorem adN_len (a b : List Int) : ∀ i, (adN a b i).1.length = i
  | 0 => rfl
  | i + 1 => by simp only [adN, List.length_append, adN_len a b i]; rfl
theorem adN_c {a b : List Int} (ha : u64s a) (hb : u64s b) : ∀ i, 0 ≤ (adN a b i).2 ∧ (adN a b i).2 ≤ 1
  | 0 => ⟨Int.le_refl 0, (by decide : (0 : Int) ≤ 1)⟩
  | i + 1 => by
    have h1 := u64s_getD ha i
    have h2 := u64s_getD hb i
    have h3 := adN_c ha hb i
    simp only [adN]
    omega
theorem adN_u {a b : List Int} : ∀ i, u64s (adN a b i).1
  | 0 => by intro x hx; cases hx
  | i + 1 => by
    intro x hx
    simp only [adN, List.mem_append, List.mem_singleton] at hx
    rcases hx with hx | hx
    · exact adN_u i x hx
    · subst hx; omega
/-- Differences with a borrow: the first i limbs. -/
def sbN (a b : List Int) : Nat → List Int × Int
  | 0 => ([], 0)
  | i + 1 => ((sbN a b i).1 ++ [if a.getD i 0 < b.getD i 0 + (sbN a b i).2 then a.getD i 0 - b.getD i 0 - (sbN a b i).2 + 18446744073709551616 else a.getD i 0 - b.getD i 0 - (sbN a b i).2], if a.getD i 0 < b.getD i 0 + (sbN a b i).2 then 1 else 0)
theorem sbN_len (a b : List Int) : ∀ i, (sbN a b i).1.length = i
  | 0 => rfl
  | i + 1 => by simp only [sbN, List.length_append, sbN_len a b i]; rfl
theorem sbN_c (a b : List Int) : ∀ i, 0 ≤ (sbN a b i).2 ∧ (sbN a b i).2 ≤ 1
  | 0 => ⟨Int.le_refl 0, (by decide : (0 : Int) ≤ 1)⟩
  | i + 1 => by simp only [sbN]; split <;> decide
theorem sbN_u {a b : List Int} (ha : u64s a) (hb : u64s b) : ∀ i, u64s (sbN a b i).1
  | 0 => by intro x hx; cases hx
  | i + 1 => by
    have h1 := u64s_getD ha i
    have h2 := u64s_getD hb i
    have h3 := sbN_c a b i
    intro x hx
    simp only [sbN, List.mem_append, List.mem_singleton] at hx
    rcases hx with hx | hx
    · exact sbN_u ha hb i x hx
    · subst hx; split <;> omega
/-- What is filled so far, noughts behind. -/
def fillI (l : List Int) (n : Nat) : List Int := l ++ List.replicate (n - l.length) 0
theorem fillI_len {l : List Int} {n : Nat} (h : l.length ≤ n) : (fillI l n).length = n := by unfold fillI; rw [List.length_append, List.length_replicate]; omega
theorem fillI_set {l : List Int} {n : Nat} {v : Int} (h : l.length < n) : (fillI l n).set l.length v = fillI (l ++ [v]) n := by
  unfold fillI
  obtain ⟨m, hm⟩ : ∃ m, n - l.length = m + 1 := ⟨n - l.length - 1, by omega⟩
  rw [hm, List.replicate_succ, List.set_append_right _ _ (Nat.le_refl _), Nat.sub_self, List.set_cons_zero, List.length_append, List.length_singleton, show n - (l.length + 1) = m by omega]
  simp
theorem fillI_full {l : List Int} {n : Nat} (h : l.length = n) : fillI l n = l := by unfold fillI; rw [h, Nat.sub_self]; simp
theorem getD_ge {l : List Int} {i : Nat} (h : l.length ≤ i) : l.getD i 0 = 0 := by rw [List.getD_eq_getElem?_getD, List.getElem?_eq_none h]; rfl
theorem cmpN_lt {a b : List Int} {k : Nat} (h0 : 0 < k) (h : a.getD (k - 1) 0 < b.getD (k - 1) 0) : cmpN a b k = -1 := by
  obtain ⟨j, rfl⟩ : ∃ j, k = j + 1 := ⟨k - 1, by omega⟩
  simp only [Nat.add_sub_cancel] at h
  simp only [cmpN]; rw [if_pos h]
theorem cmpN_gt {a b : List Int} {k : Nat} (h0 : 0 < k) (h : b.getD (k - 1) 0 < a.getD (k - 1) 0) : cmpN a b k = 1 := by
  obtain ⟨j, rfl⟩ : ∃ j, k = j + 1 := ⟨k - 1, by omega⟩
  simp only [Nat.add_sub_cancel] at h
  simp only [cmpN]; rw [if_neg (by omega), if_pos h]
theorem cmpN_eq {a b : List Int} {k : Nat} (h0 : 0 < k) (h1 : ¬ a.getD (k - 1) 0 < b.getD (k - 1) 0) (h2 : ¬ b.getD (k - 1) 0 < a.getD (k - 1) 0) : cmpN a b (k - 1) = cmpN a b k := by
  obtain ⟨j, rfl⟩ : ∃ j, k = j + 1 := ⟨k - 1, by omega⟩
  simp only [Nat.add_sub_cancel] at h1 h2 ⊢
  simp only [cmpN]; rw [if_neg h1, if_neg h2]
theorem fill_ad {X Y : List Int} {i n : Nat} (h : i < n) : (fillI (adN X Y i).1 n).set ((0 + i) * 1) ((X.getD i 0 + Y.getD i 0 + (adN X Y i).2) % 18446744073709551616) = fillI (adN X Y (i + 1)).1 n := by
  rw [Nat.zero_add, Nat.mul_one]
  have := fillI_set (l := (adN X Y i).1) (n := n) (v := (X.getD i 0 + Y.getD i 0 + (adN X Y i).2) % 18446744073709551616) (by rw [adN_len]; exact h)
  rw [adN_len] at this
  exact this
theorem fill_sb {X Y : List Int} {i n : Nat} (h : i < n) : (fillI (sbN X Y i).1 n).set ((0 + i) * 1) (if X.getD i 0 < Y.getD i 0 + (sbN X Y i).2 then X.getD i 0 - Y.getD i 0 - (sbN X Y i).2 + 18446744073709551616 else X.getD i 0 - Y.getD i 0 - (sbN X Y i).2) = fillI (sbN X Y (i + 1)).1 n := by
  rw [Nat.zero_add, Nat.mul_one]
  have := fillI_set (l := (sbN X Y i).1) (n := n) (v := if X.getD i 0 < Y.getD i 0 + (sbN X Y i).2 then X.getD i 0 - Y.getD i 0 - (sbN X Y i).2 + 18446744073709551616 else X.getD i 0 - Y.getD i 0 - (sbN X Y i).2) (by rw [sbN_len]; exact h)
  rw [sbN_len] at this
  exact this
theorem fill_last {l : List Int} {n : Nat} {v : Int} (h : l.length = n) : (fillI l (n + 1)).set ((0 + n) * 1) v = l ++ [v] := by
  rw [Nat.zero_add, Nat.mul_one]
  subst h
  rw [fillI_set (by omega), fillI_full (by simp)]
/-- The longer one first. -/
def swL (a b : List Int) : List Int × List Int := if a.length < b.length then (b, a) else (a, b)
def sumL (a b : List Int) : List Int := (adN (swL (trm a) (trm b)).1 (swL (trm a) (trm b)).2 (swL (trm a) (trm b)).1.length).1 ++ [(adN (swL (trm a) (trm b)).1 (swL (trm a) (trm b)).2 (swL (trm a) (trm b)).1.length).2]
def difL (a b : List Int) : List Int := (sbN (trm a) (trm b) (trm a).length).1
theorem u64s_app1 {l : List Int} {v : Int} (h : u64s l) (h0 : 0 ≤ v) (h1 : v < 18446744073709551616) : u64s (l ++ [v]) := fun x hx => by
  rcases List.mem_append.1 hx with hx | hx
  · exact h x hx
  · rw [List.mem_singleton] at hx; subst hx; exact ⟨h0, h1⟩
/-- The document's digits of limbs: two of 32 bits each. -/
def dig (l : List Int) : List Int := l.flatMap fun v => [v % 4294967296, v / 4294967296]
theorem dig_len (l : List Int) : (dig l).length = 2 * l.length := by
  induction l with
  | nil => rfl
  | cons v l ih => simp only [dig, List.flatMap_cons, List.length_append, List.length_cons, List.length_nil] at ih ⊢; omega
theorem dig_snoc {l : List Int} {i : Nat} (h : i < l.length) : dig (l.take (i + 1)) = dig (l.take i) ++ [l.getD i 0 % 4294967296, l.getD i 0 / 4294967296] := by
  rw [List.take_succ_eq_append_getElem h, List.getD_eq_getElem?_getD, List.getElem?_eq_getElem h]
  unfold dig
  rw [List.flatMap_append]
  rfl
/-- Digits put together to limbs again. -/
def lims : List Int → List Int
  | [] => []
  | [x] => [x]
  | x :: y :: r => IntKind.u64.wrap (x + IntKind.u64.wrap (y * 4294967296)) :: lims r
theorem drop_cons' {l : List Int} {i : Nat} (h : i < l.length) : l.drop i = l.getD i 0 :: l.drop (i + 1) := by
  rw [List.drop_eq_getElem_cons h, List.getD_eq_getElem?_getD, List.getElem?_eq_getElem h]; rfl
theorem lims2 {l : List Int} {j : Nat} (h : j + 1 < l.length) : lims (l.drop j) = IntKind.u64.wrap (l.getD j 0 + IntKind.u64.wrap (l.getD (j + 1) 0 * 4294967296)) :: lims (l.drop (j + 2)) := by
  rw [drop_cons' (by omega : j < l.length), drop_cons' h]; rfl
theorem lims1 {l : List Int} {j : Nat} (h : j < l.length) (h2 : ¬ j + 1 < l.length) : lims (l.drop j) = l.getD j 0 :: lims (l.drop (j + 2)) := by
  rw [drop_cons' h, List.drop_eq_nil_of_le (by omega : l.length ≤ j + 1), List.drop_eq_nil_of_le (by omega : l.length ≤ j + 2)]; rfl
theorem lims_len : ∀ l : List Int, (lims l).length ≤ l.length
  | [] => Nat.le_refl _
  | [_] => Nat.le_refl _
  | _ :: _ :: r => by have := lims_len r; simp only [lims, List.length_cons]; omega
theorem trm1 {x : Int} (h : ¬ x = 0) : trm [x] = [x] := by
  unfold trm
  simp only [List.length_singleton, tN]
  rw [if_neg (by simpa using h)]
  rfl
theorem u64s1 {v : Int} (h0 : 0 ≤ v) (h1 : v < 18446744073709551616) : u64s [v] := fun x hx => by rw [List.mem_singleton] at hx; subst hx; exact ⟨h0, h1⟩
theorem cmp1 {x d : Int} (h : d ≤ x) : ¬ cmpL [x] [d] < 0 := by
  unfold cmpL
  simp only [List.length_singleton, cmpN]
  rw [if_neg (by omega), if_neg (by omega)]
  have e1 : [x].getD 0 0 = x := rfl
  have e2 : [d].getD 0 0 = d := rfl
  rw [e1, e2, if_neg (by omega)]
  split <;> omega
theorem wrap_u64' {m r : Int} (h1 : 0 ≤ r) (h2 : r < 18446744073709551616) (h : m = r - 18446744073709551616) : IntKind.u64.wrap m = r := by
  subst h
  simp only [IntKind.wrap, IntKind.bits, IntKind.signed] <;> simp <;> omega
end Go.Proofs.Ytcdipmjgpimmdaa.Vc

/- What lists of limbs say as numbers, in plain Lean. -/
set_option linter.unusedVariables false
set_option linter.unusedSimpArgs false
namespace Go.Proofs.Ytcdipmjgpimmdaa.Vc
open Go Go.RowKit

def Bs : Int := 18446744073709551616
def vl : List Int → Int
  | [] => 0
  | x :: l => x + Bs * vl l
def pB : Nat → Int
  | 0 => 1
  | k + 1 => Bs * pB k
theorem pB_pos : ∀ k, 0 < pB k
  | 0 => by decide
  | k + 1 => by simp only [pB]; exact Int.mul_pos (by decide) (pB_pos k)
theorem pB_add : ∀ a b, pB (a + b) = pB a * pB b
  | 0, b => by simp [pB]
  | a + 1, b => by rw [show a + 1 + b = (a + b) + 1 by omega]; simp only [pB]; rw [pB_add a b, Int.mul_assoc]
theorem vl_app : ∀ a b : List Int, vl (a ++ b) = vl a + pB a.length * vl b
  | [], b => by simp [vl, pB]
  | x :: a, b => by
    simp only [List.cons_append, vl, List.length_cons, pB]
    rw [vl_app a b, Int.mul_add, Int.mul_assoc, Int.add_assoc]
theorem vl_nonneg : ∀ {l : List Int}, u64s l → 0 ≤ vl l
  | [], _ => Int.le_refl _
  | x :: l, h => by
    have h1 := (h x (List.mem_cons_self ..)).1
    have h2 := vl_nonneg (l := l) fun y hy => h y (List.mem_cons_of_mem _ hy)
    simp only [vl]
    have := Int.mul_nonneg (show (0 : Int) ≤ Bs by decide) h2
    omega
theorem vl_lt : ∀ {l : List Int}, u64s l → vl l < pB l.length
  | [], _ => by decide
  | x :: l, h => by
    have h1 := (h x (List.mem_cons_self ..)).2
    have h2 := vl_lt (l := l) fun y hy => h y (List.mem_cons_of_mem _ hy)
    simp only [vl, List.length_cons, pB]
    have h3 : vl l + 1 ≤ pB l.length := h2
    have h4 := Int.mul_le_mul_of_nonneg_left h3 (show (0 : Int) ≤ Bs by decide)
    rw [Int.mul_add, Int.mul_one] at h4
    have h5 : x < Bs := h1
    omega
theorem vl_zeros (n : Nat) : vl (List.replicate n 0) = 0 := by
  induction n with
  | zero => rfl
  | succ n ih => rw [List.replicate_succ]; simp [vl, ih]
/-- The value of the first k limbs. -/
def vk (l : List Int) (k : Nat) : Int := vl (l.take k)
theorem vk_0 (l : List Int) : vk l 0 = 0 := by unfold vk; simp [vl]
theorem vk_all {l : List Int} {k : Nat} (h : l.length ≤ k) : vk l k = vl l := by unfold vk; rw [List.take_of_length_le h]
theorem vk_succ (l : List Int) (k : Nat) : vk l (k + 1) = vk l k + pB k * l.getD k 0 := by
  unfold vk
  by_cases h : k < l.length
  · rw [List.take_succ_eq_append_getElem h, vl_app, List.length_take, Nat.min_eq_left (by omega), List.getD_eq_getElem?_getD, List.getElem?_eq_getElem h]
    simp [vl]
  · rw [List.take_of_length_le (by omega), List.take_of_length_le (by omega), getD_ge (by omega)]
    simp
theorem vk_tN (l : List Int) : ∀ k, k ≤ l.length → vk l (tN l k) = vk l k
  | 0, _ => rfl
  | k + 1, h => by
    simp only [tN]
    split
    · rename_i h0
      rw [vk_tN l k (by omega), vk_succ, h0, Int.mul_zero, Int.add_zero]
    · rfl
theorem vl_trm (l : List Int) : vl (trm l) = vl l := by
  have := vk_tN l l.length (Nat.le_refl _)
  rw [vk_all (Nat.le_refl _)] at this
  exact this
theorem adN_val (a b : List Int) : ∀ i, vl (adN a b i).1 + pB i * (adN a b i).2 = vk a i + vk b i
  | 0 => by simp [adN, vl, vk_0, pB]
  | i + 1 => by
    have ih := adN_val a b i
    simp only [adN]
    rw [vl_app, adN_len, vk_succ, vk_succ]
    simp only [vl, pB]
    have e := Int.emod_add_mul_ediv (a.getD i 0 + b.getD i 0 + (adN a b i).2) 18446744073709551616
    generalize hs : a.getD i 0 + b.getD i 0 + (adN a b i).2 = s at *
    generalize hq : s / 18446744073709551616 = q at *
    generalize hr : s % 18446744073709551616 = r at *
    have hB : Bs = 18446744073709551616 := rfl
    rw [Int.mul_zero, Int.add_zero, hB, Int.mul_comm 18446744073709551616 (pB i), Int.mul_assoc]
    have e2 : pB i * r + pB i * (18446744073709551616 * q) = pB i * s := by rw [← Int.mul_add, e]
    have e3 : pB i * s = pB i * a.getD i 0 + pB i * b.getD i 0 + pB i * (adN a b i).2 := by rw [← hs, Int.mul_add, Int.mul_add]
    omega
theorem sbN_val (a b : List Int) : ∀ i, vl (sbN a b i).1 - pB i * (sbN a b i).2 = vk a i - vk b i
  | 0 => by simp [sbN, vl, vk_0, pB]
  | i + 1 => by
    have ih := sbN_val a b i
    simp only [sbN]
    rw [vl_app, sbN_len, vk_succ, vk_succ]
    simp only [vl, pB]
    have hB : Bs = 18446744073709551616 := rfl
    rw [Int.mul_zero, Int.add_zero, hB, Int.mul_comm 18446744073709551616 (pB i), Int.mul_assoc]
    split
    · rw [Int.mul_one, Int.mul_add, Int.mul_sub, Int.mul_sub]; omega
    · rw [Int.mul_sub, Int.mul_sub]; simp; omega
theorem vl_swL (a b : List Int) : (swL a b).2.length ≤ (swL a b).1.length ∧ vl (swL a b).1 + vl (swL a b).2 = vl a + vl b := by
  unfold swL
  split
  · exact ⟨by show a.length ≤ b.length; omega, by show vl b + vl a = _; omega⟩
  · exact ⟨by show b.length ≤ a.length; omega, rfl⟩
theorem vl_sumL (a b : List Int) : vl (sumL a b) = vl a + vl b := by
  have h := adN_val (swL (trm a) (trm b)).1 (swL (trm a) (trm b)).2 (swL (trm a) (trm b)).1.length
  obtain ⟨h1, h2⟩ := vl_swL (trm a) (trm b)
  rw [vk_all (Nat.le_refl _), vk_all h1, h2, vl_trm, vl_trm] at h
  unfold sumL
  rw [vl_app, adN_len]
  simp only [vl]
  rw [Int.mul_zero, Int.add_zero]
  exact h
/-- No nought at the top. -/
def tpd (l : List Int) : Prop := l ≠ [] → l.getD (l.length - 1) 0 ≠ 0
theorem tN_top (l : List Int) : ∀ k, 0 < tN l k → l.getD (tN l k - 1) 0 ≠ 0
  | 0, h => by simp [tN] at h
  | k + 1, h => by
    simp only [tN] at h ⊢
    split
    · rename_i h0; rw [if_pos h0] at h; exact tN_top l k h
    · rename_i h0; exact h0
theorem trm_length (l : List Int) : (trm l).length = tN l l.length := by unfold trm; rw [List.length_take, Nat.min_eq_left (tN_le _ _)]
theorem tpd_trm (l : List Int) : tpd (trm l) := fun hne => by
  have hl := trm_length l
  have hpos : 0 < tN l l.length := by
    rcases Nat.eq_zero_or_pos (tN l l.length) with h | h
    · exact absurd (List.eq_nil_of_length_eq_zero (hl.trans h)) hne
    · exact h
  rw [hl]
  unfold trm
  rw [getD_take (by omega)]
  exact tN_top l _ hpos
theorem trm_id {l : List Int} (h : tpd l) : trm l = l := by
  unfold trm
  by_cases h0 : l = []
  · subst h0; rfl
  · have hp : 0 < l.length := List.length_pos_iff.2 h0
    rw [tN_stop hp (h h0), List.take_length]
theorem vl_ge {l : List Int} (hu : u64s l) (ht : tpd l) (h0 : l ≠ []) : pB (l.length - 1) ≤ vl l := by
  have hp : 0 < l.length := List.length_pos_iff.2 h0
  obtain ⟨k, hk⟩ : ∃ k, l.length = k + 1 := ⟨l.length - 1, by omega⟩
  have h1 : vl l = vk l (k + 1) := by rw [vk_all (by omega)]
  rw [h1, vk_succ, hk, Nat.add_sub_cancel]
  have h2 := ht h0
  rw [hk, Nat.add_sub_cancel] at h2
  have h3 := u64s_at hu (i := k) (by omega)
  have h4 : 0 ≤ vk l k := vl_nonneg fun x hx => hu x (List.mem_of_mem_take hx)
  have h5 : pB k * 1 ≤ pB k * l.getD k 0 := Int.mul_le_mul_of_nonneg_left (by omega) (Int.le_of_lt (pB_pos k))
  omega
theorem pB_mono {a b : Nat} (h : a ≤ b) : pB a ≤ pB b := by
  obtain ⟨c, rfl⟩ : ∃ c, b = a + c := ⟨b - a, by omega⟩
  rw [pB_add]
  have h1 := pB_pos c
  have h2 := Int.mul_le_mul_of_nonneg_left (show 1 ≤ pB c by omega) (Int.le_of_lt (pB_pos a))
  omega
/-- The lists' comparison is the numbers'. -/
theorem cmpN_val {a b : List Int} (ha : u64s a) (hb : u64s b) : ∀ k, (cmpN a b k = 0 ∧ vk a k = vk b k) ∨ (cmpN a b k = -1 ∧ vk a k < vk b k) ∨ (cmpN a b k = 1 ∧ vk b k < vk a k)
  | 0 => .inl ⟨rfl, by rw [vk_0, vk_0]⟩
  | k + 1 => by
    have ih := cmpN_val ha hb k
    simp only [cmpN]
    rw [vk_succ, vk_succ]
    have a1 : 0 ≤ vk a k := vl_nonneg fun x hx => ha x (List.mem_of_mem_take hx)
    have b1 : 0 ≤ vk b k := vl_nonneg fun x hx => hb x (List.mem_of_mem_take hx)
    have a2 : vk a k < pB k := Int.lt_of_lt_of_le (vl_lt fun x hx => ha x (List.mem_of_mem_take hx)) (pB_mono (by rw [List.length_take]; omega))
    have b2 : vk b k < pB k := Int.lt_of_lt_of_le (vl_lt fun x hx => hb x (List.mem_of_mem_take hx)) (pB_mono (by rw [List.length_take]; omega))
    have hp := pB_pos k
    split
    · rename_i h
      have := Int.mul_le_mul_of_nonneg_left (show a.getD k 0 + 1 ≤ b.getD k 0 by omega) (Int.le_of_lt hp)
      rw [Int.mul_add, Int.mul_one] at this
      exact .inr (.inl ⟨rfl, by omega⟩)
    · split
      · rename_i h1 h
        have := Int.mul_le_mul_of_nonneg_left (show b.getD k 0 + 1 ≤ a.getD k 0 by omega) (Int.le_of_lt hp)
        rw [Int.mul_add, Int.mul_one] at this
        exact .inr (.inr ⟨rfl, by omega⟩)
      · rename_i h1 h2
        rw [show a.getD k 0 = b.getD k 0 by omega]
        rcases ih with ⟨h, h'⟩ | ⟨h, h'⟩ | ⟨h, h'⟩
        · exact .inl ⟨h, by omega⟩
        · exact .inr (.inl ⟨h, by omega⟩)
        · exact .inr (.inr ⟨h, by omega⟩)
theorem cmpL_val {a b : List Int} (ha : u64s a) (hb : u64s b) : (cmpL (trm a) (trm b) = 0 ∧ vl a = vl b) ∨ (cmpL (trm a) (trm b) = -1 ∧ vl a < vl b) ∨ (cmpL (trm a) (trm b) = 1 ∧ vl b < vl a) := by
  have ua := u64s_trm ha
  have ub := u64s_trm hb
  rw [← vl_trm a, ← vl_trm b]
  have less : ∀ {x y : List Int}, u64s x → u64s y → tpd y → x.length < y.length → vl x < vl y := fun {x y} hx hy ht hlt => by
    have h1 := vl_lt hx
    have h2 := vl_ge hy ht (by intro e; rw [e] at hlt; simp at hlt)
    have h3 := pB_mono (show x.length ≤ y.length - 1 by omega)
    omega
  unfold cmpL
  split
  · rename_i h; exact .inr (.inl ⟨rfl, less ua ub (tpd_trm b) h⟩)
  · split
    · rename_i h; exact .inr (.inr ⟨rfl, less ub ua (tpd_trm a) h⟩)
    · rename_i h1 h2
      have := cmpN_val ua ub (trm a).length
      rw [vk_all (Nat.le_refl _), vk_all (by omega : (trm b).length ≤ (trm a).length)] at this
      exact this
theorem vl_difL {a b : List Int} (ha : u64s a) (hb : u64s b) (h : vl b ≤ vl a) : vl (difL a b) = vl a - vl b := by
  have ua := u64s_trm ha
  have ub := u64s_trm hb
  have hv := sbN_val (trm a) (trm b) (trm a).length
  rw [vk_all (Nat.le_refl _), vl_trm] at hv
  have hlen : (trm b).length ≤ (trm a).length := by
    rcases Nat.lt_or_ge (trm a).length (trm b).length with hlt | hge
    · have h1 := vl_lt ua
      have h2 := vl_ge ub (tpd_trm b) (by intro e; rw [e] at hlt; simp at hlt)
      have h3 := pB_mono (show (trm a).length ≤ (trm b).length - 1 by omega)
      rw [vl_trm] at h1 h2
      omega
    · exact hge
  rw [vk_all hlen, vl_trm] at hv
  have hc := sbN_c (trm a) (trm b) (trm a).length
  have hs := vl_lt (sbN_u ua ub (trm a).length)
  rw [sbN_len] at hs
  unfold difL
  rcases (show (sbN (trm a) (trm b) (trm a).length).2 = 0 ∨ (sbN (trm a) (trm b) (trm a).length).2 = 1 by omega) with h0 | h0
  · rw [h0, Int.mul_zero] at hv; omega
  · rw [h0, Int.mul_one] at hv; omega
end Go.Proofs.Ytcdipmjgpimmdaa.Vc

/- Products of limbs, in plain Lean. -/
set_option linter.unusedVariables false
set_option linter.unusedSimpArgs false
namespace Go.Proofs.Ytcdipmjgpimmdaa.Vc
open Go Go.RowKit

theorem shr32 {x : Int} (h : 0 ≤ x) : x.fdiv (2 ^ min (32 : Int).toNat 64) = x / 4294967296 := by
  obtain ⟨n, rfl⟩ := Int.eq_ofNat_of_zero_le h
  exact shr_nat (k := 4294967296) (by decide)
theorem and32 {x : Int} (h0 : 0 ≤ x) (h1 : x < 18446744073709551616) : bitop .and .u64 x 4294967295 = x % 4294967296 := by
  obtain ⟨n, rfl⟩ := Int.eq_ofNat_of_zero_le h0
  unfold bitop
  simp only [IntKind.bits]
  have e1 : (BitVec.ofInt 64 (n : Int)).toNat = n := by
    rw [BitVec.toNat_ofInt]; simp; omega
  have e2 : (BitVec.ofInt 64 4294967295).toNat = 4294967295 := by decide
  have e3 : (BitVec.ofInt 64 (n : Int) &&& BitVec.ofInt 64 4294967295).toNat = n % 4294967296 := by
    rw [BitVec.toNat_and, e1, e2]
    have := Nat.and_two_pow_sub_one_eq_mod n 32
    simpa using this
  show IntKind.u64.wrap (((BitVec.ofInt 64 (n : Int) &&& BitVec.ofInt 64 4294967295).toNat : Nat) : Int) = _
  rw [e3, wrap_u64 (by omega) (by omega)]
  omega
theorem mul_bd {a b m : Int} (ha : 0 ≤ a) (hb : 0 ≤ b) (ham : a ≤ m) (hbm : b ≤ m) : 0 ≤ a * b ∧ a * b ≤ m * m := by
  refine ⟨Int.mul_nonneg ha hb, ?_⟩
  exact Int.mul_le_mul ham hbm hb (by omega)
theorem mul_parts (x y : Int) : x * y = (x / 4294967296) * (y / 4294967296) * 18446744073709551616 + ((x / 4294967296) * (y % 4294967296) + (x % 4294967296) * (y / 4294967296)) * 4294967296 + (x % 4294967296) * (y % 4294967296) := by
  have hx := Int.emod_add_mul_ediv x 4294967296
  have hy := Int.emod_add_mul_ediv y 4294967296
  generalize x / 4294967296 = x1 at *
  generalize x % 4294967296 = x0 at *
  generalize y / 4294967296 = y1 at *
  generalize y % 4294967296 = y0 at *
  rw [← hx, ← hy, Int.add_mul, Int.mul_add, Int.mul_add]
  have e1 : x0 * (4294967296 * y1) = 4294967296 * (x0 * y1) := by rw [Int.mul_left_comm]
  have e2 : 4294967296 * x1 * y0 = 4294967296 * (x1 * y0) := Int.mul_assoc _ _ _
  have e3 : 4294967296 * x1 * (4294967296 * y1) = 18446744073709551616 * (x1 * y1) := by
    rw [Int.mul_assoc, Int.mul_left_comm x1, ← Int.mul_assoc 4294967296 4294967296]; rfl
  rw [e1, e2, e3]
  omega
/-- Both halves of a product of two limbs, from four products of halves. -/
theorem mul64_val {x y : Int} (hx0 : 0 ≤ x) (hx : x < 18446744073709551616) (hy0 : 0 ≤ y) (hy : y < 18446744073709551616) :
    let p00 := x % 4294967296 * (y % 4294967296)
    let p10 := x / 4294967296 * (y % 4294967296)
    let p01 := x % 4294967296 * (y / 4294967296)
    let p11 := x / 4294967296 * (y / 4294967296)
    let t := p10 + p00 / 4294967296
    let u := t % 4294967296 + p01
    (0 ≤ p00 ∧ p00 ≤ 18446744065119617025) ∧ (0 ≤ p10 ∧ p10 ≤ 18446744065119617025) ∧ (0 ≤ p01 ∧ p01 ≤ 18446744065119617025) ∧ (0 ≤ p11 ∧ p11 ≤ 18446744065119617025) ∧ p11 + t / 4294967296 + u / 4294967296 = x * y / 18446744073709551616 := by
  intro p00 p10 p01 p11 t u
  have b00 := mul_bd (a := x % 4294967296) (b := y % 4294967296) (m := 4294967295) (by omega) (by omega) (by omega) (by omega)
  have b10 := mul_bd (a := x / 4294967296) (b := y % 4294967296) (m := 4294967295) (by omega) (by omega) (by omega) (by omega)
  have b01 := mul_bd (a := x % 4294967296) (b := y / 4294967296) (m := 4294967295) (by omega) (by omega) (by omega) (by omega)
  have b11 := mul_bd (a := x / 4294967296) (b := y / 4294967296) (m := 4294967295) (by omega) (by omega) (by omega) (by omega)
  have hp := mul_parts x y
  have em : (4294967295 : Int) * 4294967295 = 18446744065119617025 := by decide
  rw [em] at b00 b10 b01 b11
  refine ⟨b00, b10, b01, b11, ?_⟩
  show x / 4294967296 * (y / 4294967296) + (x / 4294967296 * (y % 4294967296) + x % 4294967296 * (y % 4294967296) / 4294967296) / 4294967296 + ((x / 4294967296 * (y % 4294967296) + x % 4294967296 * (y % 4294967296) / 4294967296) % 4294967296 + x % 4294967296 * (y / 4294967296)) / 4294967296 = x * y / 18446744073709551616
  generalize x / 4294967296 * (y / 4294967296) = q11 at *
  generalize x / 4294967296 * (y % 4294967296) = q10 at *
  generalize x % 4294967296 * (y / 4294967296) = q01 at *
  generalize x % 4294967296 * (y % 4294967296) = q00 at *
  rw [hp]
  omega
theorem u64_wrap_mod {m : Int} : IntKind.u64.wrap m = m % 18446744073709551616 := by
  simp only [IntKind.wrap, IntKind.bits, IntKind.signed] <;> simp
theorem vl_set : ∀ (l : List Int) (j : Nat) (v : Int), j < l.length → vl (l.set j v) = vl l + pB j * (v - l.getD j 0)
  | [], j, v, h => by simp at h
  | x :: l, 0, v, _ => by
    have e : (x :: l).getD 0 0 = x := rfl
    simp only [List.set_cons_zero, vl, pB, e]; omega
  | x :: l, j + 1, v, h => by
    have ih := vl_set l j v (by simpa using h)
    have e : (x :: l).getD (j + 1) 0 = l.getD j 0 := rfl
    simp only [List.set_cons_succ, vl, pB, e]
    rw [ih, Int.mul_add, Int.mul_assoc]; omega
theorem getD_set {l : List Int} {j k : Nat} {v : Int} (hne : k ≠ j) : (l.set j v).getD k 0 = l.getD k 0 := by
  rw [List.getD_eq_getElem?_getD, List.getD_eq_getElem?_getD, List.getElem?_set_ne (Ne.symm hne)]
theorem u64s_set {l : List Int} {j : Nat} {v : Int} (h : u64s l) (h0 : 0 ≤ v) (h1 : v < 18446744073709551616) : u64s (l.set j v) := fun x hx => by
  rcases List.mem_or_eq_of_mem_set hx with hx | hx
  · exact h x hx
  · subst hx; exact ⟨h0, h1⟩
/-- One step of a row of the school's product. -/
theorem school_step {P c t : Int} (hP0 : 0 ≤ P) (hP : P ≤ 340282366920938463426481119284349108225) (hc0 : 0 ≤ c) (hc : c < 18446744073709551616) (ht0 : 0 ≤ t) (ht : t < 18446744073709551616) :
    0 ≤ P / 18446744073709551616 + (P % 18446744073709551616 + c + 0) / 18446744073709551616 ∧ P / 18446744073709551616 + (P % 18446744073709551616 + c + 0) / 18446744073709551616 < 18446744073709551616 ∧
    0 ≤ P / 18446744073709551616 + (P % 18446744073709551616 + c + 0) / 18446744073709551616 + (t + (P % 18446744073709551616 + c + 0) % 18446744073709551616 + 0) / 18446744073709551616 ∧
    P / 18446744073709551616 + (P % 18446744073709551616 + c + 0) / 18446744073709551616 + (t + (P % 18446744073709551616 + c + 0) % 18446744073709551616 + 0) / 18446744073709551616 < 18446744073709551616 ∧
    (t + (P % 18446744073709551616 + c + 0) % 18446744073709551616 + 0) % 18446744073709551616 + 18446744073709551616 * (P / 18446744073709551616 + (P % 18446744073709551616 + c + 0) / 18446744073709551616 + (t + (P % 18446744073709551616 + c + 0) % 18446744073709551616 + 0) / 18446744073709551616) = t + P + c := by
  omega
/-- What is left of a number behind its first k limbs. -/
theorem vl_rest {b : List Int} (hb : u64s b) (k : Nat) : ∃ r, 0 ≤ r ∧ vl b = vk b k + pB k * r := by
  refine ⟨vl (b.drop k), vl_nonneg fun x hx => hb x (List.mem_of_mem_drop hx), ?_⟩
  by_cases h : k ≤ b.length
  · have := vl_app (b.take k) (b.drop k)
    rw [List.take_append_drop, List.length_take, Nat.min_eq_left h] at this
    exact this
  · rw [List.drop_eq_nil_of_le (by omega), vk_all (by omega)]; simp [vl]
theorem vk_le {b : List Int} (hb : u64s b) (k : Nat) : vk b k ≤ vl b := by
  obtain ⟨r, h0, h1⟩ := vl_rest hb k
  have := Int.mul_nonneg (Int.le_of_lt (pB_pos k)) h0
  omega
theorem vk_nonneg {b : List Int} (hb : u64s b) (k : Nat) : 0 ≤ vk b k := vl_nonneg fun x hx => hb x (List.mem_of_mem_take hx)
/-- A number below n limbs, moved up by 'at', has no limb above. -/
theorem no_rest {b : List Int} (hb : u64s b) {at_ k n : Nat} (hn : n ≤ at_ + k) (h : pB at_ * vl b < pB n) : vk b k = vl b := by
  obtain ⟨r, h0, h1⟩ := vl_rest hb k
  rcases Int.lt_or_le 0 r with hr | hr
  · exfalso
    have h2 := Int.mul_le_mul_of_nonneg_left (show 1 ≤ r by omega) (Int.le_of_lt (pB_pos k))
    have h3 := vk_nonneg hb k
    have h4 := Int.mul_le_mul_of_nonneg_left (show pB k ≤ vl b by omega) (Int.le_of_lt (pB_pos at_))
    rw [← pB_add] at h4
    have h5 := pB_mono hn
    omega
  · have : r = 0 := by omega
    rw [this, Int.mul_zero, Int.add_zero] at h1
    exact h1.symm
theorem school_in {o o2 b : List Int} {i k : Nat} {c c2 x t s : Int} (hj : i + k < o.length) (ho2 : o2 = o.set (i + k) s) (ht : o.getD (i + k) 0 = t) {V : Int}
    (hv : vl o + c * pB (i + k) = V + x * pB i * vk b k) (hs : s + 18446744073709551616 * c2 = t + x * b.getD k 0 + c) : vl o2 + c2 * pB (i + (k + 1)) = V + x * pB i * vk b (k + 1) := by
  subst ho2
  rw [vl_set _ _ _ hj, ht, vk_succ, show i + (k + 1) = (i + k) + 1 by omega]
  simp only [pB]
  have hB : Bs = 18446744073709551616 := rfl
  have e1 : c2 * (Bs * pB (i + k)) = pB (i + k) * (18446744073709551616 * c2) := by rw [hB, ← Int.mul_assoc, Int.mul_comm (c2 * 18446744073709551616), Int.mul_comm c2]
  have e2 : x * pB i * (vk b k + pB k * b.getD k 0) = x * pB i * vk b k + pB (i + k) * (x * b.getD k 0) := by
    rw [Int.mul_add, pB_add]
    congr 1
    rw [Int.mul_assoc, Int.mul_left_comm (pB i * pB k), Int.mul_assoc (pB i)]
  have e3 : pB (i + k) * (s - t) + pB (i + k) * (18446744073709551616 * c2) = pB (i + k) * (x * b.getD k 0) + pB (i + k) * c := by
    rw [← Int.mul_add, ← Int.mul_add]; congr 1; omega
  rw [e1, e2]
  have e4 : c * pB (i + k) = pB (i + k) * c := Int.mul_comm _ _
  omega
theorem school_row {o o2 a b : List Int} {i : Nat} {c : Int} (hj : i + b.length < o.length) (h0 : o.getD (i + b.length) 0 = 0) (ho2 : o2 = o.set (i + b.length) c)
    (hv : vl o + c * pB (i + b.length) = vk a i * vl b + a.getD i 0 * pB i * vk b b.length) : vl o2 = vk a (i + 1) * vl b := by
  subst ho2
  rw [vl_set _ _ _ hj, h0, vk_succ, Int.add_mul]
  rw [vk_all (Nat.le_refl _)] at hv
  have e : pB i * a.getD i 0 * vl b = a.getD i 0 * pB i * vl b := by rw [Int.mul_comm (pB i)]
  have e4 : c * pB (i + b.length) = pB (i + b.length) * c := Int.mul_comm _ _
  rw [e, Int.sub_zero]
  omega
end Go.Proofs.Ytcdipmjgpimmdaa.Vc

/- Sums at a place, differences in place, parts of a number, Karatsuba's way: plain Lean. -/
set_option linter.unusedVariables false
set_option linter.unusedSimpArgs false
namespace Go.Proofs.Ytcdipmjgpimmdaa.Vc
open Go Go.RowKit

theorem u64s_zeros (n : Nat) : u64s (List.replicate n 0) := fun x hx => by rw [List.eq_of_mem_replicate hx]; exact ⟨by decide, by decide⟩
theorem getD_zeros (n j : Nat) : (List.replicate n (0 : Int)).getD j 0 = 0 := by
  rw [List.getD_eq_getElem?_getD, List.getElem?_replicate]; split <;> rfl
theorem u64s_app {a b : List Int} (ha : u64s a) (hb : u64s b) : u64s (a ++ b) := fun x hx => by
  rcases List.mem_append.1 hx with hx | hx
  · exact ha x hx
  · exact hb x hx
theorem u64s_drop {a : List Int} (ha : u64s a) (k : Nat) : u64s (a.drop k) := fun x hx => ha x (List.mem_of_mem_drop hx)
theorem u64s_take {a : List Int} (ha : u64s a) (k : Nat) : u64s (a.take k) := fun x hx => ha x (List.mem_of_mem_take hx)
/-- One step of a sum at a place. -/
theorem add_in {q q2 b : List Int} {i at_ : Nat} {c c2 s V : Int} (hj : i < q.length) (hi : at_ ≤ i) (hq2 : q2 = q.set i s)
    (hv : vl q + c * pB i = V + pB at_ * vk b (i - at_)) (hs : s + 18446744073709551616 * c2 = q.getD i 0 + b.getD (i - at_) 0 + c) : vl q2 + c2 * pB (i + 1) = V + pB at_ * vk b (i + 1 - at_) := by
  subst hq2
  rw [vl_set _ _ _ hj, show i + 1 - at_ = (i - at_) + 1 by omega, vk_succ]
  simp only [pB]
  have hB : Bs = 18446744073709551616 := rfl
  have e1 : c2 * (Bs * pB i) = pB i * (18446744073709551616 * c2) := by rw [hB, ← Int.mul_assoc, Int.mul_comm (c2 * 18446744073709551616), Int.mul_comm c2]
  have e2 : pB at_ * (vk b (i - at_) + pB (i - at_) * b.getD (i - at_) 0) = pB at_ * vk b (i - at_) + pB i * b.getD (i - at_) 0 := by
    rw [Int.mul_add, ← Int.mul_assoc, ← pB_add, show at_ + (i - at_) = i by omega]
  have e3 : pB i * (s - q.getD i 0) + pB i * (18446744073709551616 * c2) = pB i * b.getD (i - at_) 0 + pB i * c := by
    rw [← Int.mul_add, ← Int.mul_add]; congr 1; omega
  have e4 : c * pB i = pB i * c := Int.mul_comm _ _
  rw [e1, e2]
  omega
theorem add_end {q r b : List Int} {i at_ n : Nat} {c : Int} (hq : u64s q) (hr : u64s r) (hb : u64s b) (hc0 : 0 ≤ c) (hi : at_ ≤ i) (hfit : vl r + pB at_ * vl b < pB n) (h : n ≤ i ∨ (b.length ≤ i - at_ ∧ c ≤ 0))
    (hv : vl q + c * pB i = vl r + pB at_ * vk b (i - at_)) : vl q = vl r + pB at_ * vl b := by
  have hr0 := vl_nonneg hr
  have hq0 := vl_nonneg hq
  rcases h with h | ⟨h1, h2⟩
  · have e := no_rest hb (at_ := at_) (k := i - at_) (n := n) (by omega) (by omega)
    rw [e] at hv
    have hp := pB_mono h
    rcases Int.lt_or_le 0 c with hc | hc
    · have := Int.mul_le_mul_of_nonneg_right (show 1 ≤ c by omega) (Int.le_of_lt (pB_pos i))
      omega
    · have : c = 0 := by omega
      rw [this, Int.zero_mul, Int.add_zero] at hv; exact hv
  · have : c = 0 := by omega
    rw [this, Int.zero_mul, Int.add_zero, vk_all h1] at hv; exact hv
/-- A difference in place. -/
theorem sub_at {a b : List Int} {i : Nat} (h : i < a.length) : ((sbN a b i).1 ++ a.drop i).getD i 0 = a.getD i 0 := by
  rw [List.getD_eq_getElem?_getD, List.getElem?_append_right (by rw [sbN_len]; exact Nat.le_refl _), sbN_len, Nat.sub_self, List.getElem?_drop, Nat.add_zero, ← List.getD_eq_getElem?_getD]
theorem sub_len {a b : List Int} {i : Nat} (h : i ≤ a.length) : ((sbN a b i).1 ++ a.drop i).length = a.length := by rw [List.length_append, sbN_len, List.length_drop]; omega
theorem sub_fill {a b : List Int} {i : Nat} (h : i < a.length) : ((sbN a b i).1 ++ a.drop i).set ((0 + i) * 1) (if a.getD i 0 < b.getD i 0 + (sbN a b i).2 then a.getD i 0 - b.getD i 0 - (sbN a b i).2 + 18446744073709551616 else a.getD i 0 - b.getD i 0 - (sbN a b i).2) = (sbN a b (i + 1)).1 ++ a.drop (i + 1) := by
  rw [Nat.zero_add, Nat.mul_one, List.set_append_right _ _ (by rw [sbN_len]; exact Nat.le_refl _), sbN_len, Nat.sub_self, drop_cons' h, List.set_cons_zero]
  simp only [sbN]
  rw [List.append_assoc]; rfl
theorem vl_sub {a b : List Int} (ha : u64s a) (hb : u64s b) (h : vl b ≤ vl a) : vl (sbN a b a.length).1 = vl a - vl b := by
  have hv := sbN_val a b a.length
  have hlt := vl_lt ha
  have e := no_rest hb (at_ := 0) (k := a.length) (n := a.length) (by omega) (by simp only [pB, Int.one_mul]; omega)
  rw [vk_all (Nat.le_refl _), e] at hv
  have hc := sbN_c a b a.length
  have hs := vl_lt (sbN_u ha hb a.length)
  rw [sbN_len] at hs
  rcases (show (sbN a b a.length).2 = 0 ∨ (sbN a b a.length).2 = 1 by omega) with h0 | h0
  · rw [h0, Int.mul_zero] at hv; omega
  · rw [h0, Int.mul_one] at hv; omega
/-- A nought at a part's top. -/
theorem part_step {l : List Int} {F k : Nat} (hF : F < k) (hk : k ≤ l.length) (h : l.getD (k - 1) 0 = 0) : vl ((l.take (k - 1)).drop F) = vl ((l.take k).drop F) := by
  obtain ⟨j, rfl⟩ : ∃ j, k = j + 1 := ⟨k - 1, by omega⟩
  rw [Nat.add_sub_cancel] at h ⊢
  have e : l.take (j + 1) = l.take j ++ [l.getD j 0] := by
    rw [List.take_succ_eq_append_getElem (by omega), List.getD_eq_getElem?_getD, List.getElem?_eq_getElem (by omega)]; rfl
  rw [e, h, List.drop_append, vl_app]
  have : F - (l.take j).length = 0 := by rw [List.length_take]; omega
  rw [this]
  simp [vl]
theorem min_take {l : List Int} {t : Nat} : l.take (min t l.length) = l.take t := by
  rcases Nat.le_total t l.length with h | h
  · rw [Nat.min_eq_left h]
  · rw [Nat.min_eq_right h, List.take_length, List.take_of_length_le h]
theorem part_all {l : List Int} {f t : Nat} (h : f ≤ t) : (l.take (min t l.length)).drop (min f l.length) = (l.take t).drop f := by
  rw [min_take]
  rcases Nat.le_total f l.length with h1 | h1
  · rw [Nat.min_eq_left h1]
  · rw [Nat.min_eq_right h1, List.drop_eq_nil_of_le (by rw [List.length_take]; omega), List.drop_eq_nil_of_le (by rw [List.length_take]; omega)]
theorem split_val {l : List Int} (k : Nat) : vl ((l.take k).drop 0) + pB k * vl ((l.take l.length).drop k) = vl l := by
  rw [List.drop_zero, List.take_length]
  by_cases h : k ≤ l.length
  · have := vl_app (l.take k) (l.drop k)
    rw [List.take_append_drop, List.length_take, Nat.min_eq_left h] at this
    exact this.symm
  · rw [List.take_of_length_le (by omega), List.drop_eq_nil_of_le (by omega)]; simp [vl]
/-- Karatsuba's identity. -/
theorem kara {al ah bl bh K A B lo hi mid : Int} (hA : al + K * ah = A) (hB : bl + K * bh = B) (hlo : lo = al * bl) (hhi : hi = ah * bh) (hmid : mid = (al + ah) * (bl + bh) - lo - hi) : lo + K * mid + (K * K) * hi = A * B := by
  subst hA; subst hB; subst hlo; subst hhi; subst hmid
  have e1 : (al + ah) * (bl + bh) = al * bl + al * bh + (ah * bl + ah * bh) := by rw [Int.add_mul, Int.mul_add, Int.mul_add]
  have e2 : (al + K * ah) * (bl + K * bh) = al * bl + K * (al * bh) + (K * (ah * bl) + K * K * (ah * bh)) := by
    rw [Int.add_mul, Int.mul_add, Int.mul_add]
    congr 1
    · congr 1; rw [Int.mul_left_comm]
    · congr 1
      · rw [Int.mul_assoc]
      · rw [Int.mul_assoc, Int.mul_left_comm ah, ← Int.mul_assoc]
  rw [e1, e2]
  have e3 : K * (al * bl + al * bh + (ah * bl + ah * bh) - al * bl - ah * bh) = K * (al * bh) + K * (ah * bl) := by
    rw [← Int.mul_add K]; congr 1; omega
  rw [e3]
  omega
theorem kara_le {al ah bl bh : Int} (h1 : 0 ≤ al) (h2 : 0 ≤ ah) (h3 : 0 ≤ bl) (h4 : 0 ≤ bh) : al * bl ≤ (al + ah) * (bl + bh) ∧ ah * bh ≤ (al + ah) * (bl + bh) - al * bl := by
  have e1 : (al + ah) * (bl + bh) = al * bl + al * bh + (ah * bl + ah * bh) := by rw [Int.add_mul, Int.mul_add, Int.mul_add]
  have a1 := Int.mul_nonneg h1 h4
  have a2 := Int.mul_nonneg h2 h3
  have a3 := Int.mul_nonneg h2 h4
  omega
theorem vl_mul_lt {a b : List Int} (ha : u64s a) (hb : u64s b) : vl a * vl b < pB (a.length + b.length) := by
  have h1 := vl_lt ha
  have h2 := vl_lt hb
  have h3 := vl_nonneg ha
  have h4 := vl_nonneg hb
  rw [pB_add]
  rcases Int.lt_or_le 0 (vl b) with h | h
  · have := Int.mul_lt_mul_of_pos_right h1 h
    have := Int.mul_le_mul_of_nonneg_left (Int.le_of_lt h2) (Int.le_of_lt (pB_pos a.length))
    omega
  · have : vl b = 0 := by omega
    rw [this, Int.mul_zero]; exact Int.mul_pos (pB_pos _) (pB_pos _)
theorem half_k {n : Nat} (h : n < 4611686018427387904) : IntKind.i64.wrap (Int.tdiv (n : Int) 2) = ((n / 2 : Nat) : Int) := by
  rw [Int.tdiv_eq_ediv_of_nonneg (by omega), wrap_i64 (by omega) (by omega)]; omega
end Go.Proofs.Ytcdipmjgpimmdaa.Vc

/- Numbers with a sign, in plain Lean. -/
set_option linter.unusedVariables false
set_option linter.unusedSimpArgs false
namespace Go.Proofs.Ytcdipmjgpimmdaa.Vc
open Go Go.RowKit

def sv (s : Bool) (l : List Int) : Int := if s = true then -(vl l) else vl l
def good (l : List Int) : Prop := u64s l ∧ l.length ≤ 1048576
theorem bl_pos {f n : Nat} (hf : 0 < f) (h : 0 < n) : 0 < bl f n := by
  obtain ⟨g, rfl⟩ : ∃ g, f = g + 1 := ⟨f - 1, by omega⟩
  simp only [bl]
  rw [if_neg (by omega)]; omega
theorem len_bd {l : List Int} (hu : u64s l) (h : lenN l ≤ 67108864) : (trm l).length ≤ 1048576 := by
  unfold lenN at h
  split at h
  · omega
  · rename_i h0
    have ht := tpd_trm l (by intro e; rw [e] at h0; exact h0 rfl)
    have hb := u64s_getD (u64s_trm hu) ((trm l).length - 1)
    have := bl_pos (f := 64) (n := ((trm l).getD ((trm l).length - 1) 0).toNat) (by decide) (by omega)
    omega
theorem good_trm {l : List Int} (hu : u64s l) (h : lenN l ≤ 67108864) : good (trm l) := ⟨u64s_trm hu, len_bd hu h⟩
theorem trm_trm (l : List Int) : trm (trm l) = trm l := trm_id (tpd_trm l)
theorem lenN_trm (l : List Int) : lenN (trm l) = lenN l := by unfold lenN; rw [trm_trm]
theorem vl_pos {l : List Int} (hu : u64s l) (ht : tpd l) (h : l ≠ []) : 0 < vl l := by
  have h1 := vl_ge hu ht h
  have h2 := pB_pos (l.length - 1)
  omega
theorem trm_zero {l : List Int} (hu : u64s l) : (trm l).length = 0 ↔ vl l = 0 := by
  constructor
  · intro h
    rw [← vl_trm, List.eq_nil_of_length_eq_zero h]; rfl
  · intro h
    rcases Nat.eq_zero_or_pos (trm l).length with h0 | h0
    · exact h0
    · have := vl_pos (u64s_trm hu) (tpd_trm l) (by intro e; rw [e] at h0; simp at h0)
      rw [vl_trm] at this; omega
theorem lenN_zero {l : List Int} (hu : u64s l) : lenN l = 0 ↔ vl l = 0 := by
  rw [← trm_zero hu]
  unfold lenN
  constructor
  · intro h
    split at h
    · assumption
    · rename_i h0
      have ht := tpd_trm l (by intro e; rw [e] at h0; exact absurd rfl h0)
      have hb := u64s_getD (u64s_trm hu) ((trm l).length - 1)
      have := bl_pos (f := 64) (n := ((trm l).getD ((trm l).length - 1) 0).toNat) (by decide) (by omega)
      omega
  · intro h; rw [if_pos h]
/-- The sign of a normal number. -/
theorem sv_norm {s : Bool} {l : List Int} (hu : u64s l) : sv (s && decide (0 < ((trm l).length : Int))) (trm l) = sv s l := by
  unfold sv
  rw [vl_trm]
  by_cases h : (trm l).length = 0
  · have h0 := (trm_zero hu).1 h
    rw [h0]; simp
  · have : decide (0 < ((trm l).length : Int)) = true := decide_eq_true (by omega)
    rw [this, Bool.and_true]
theorem sv_mul {s t : Bool} {a b r : List Int} (h : vl r = vl a * vl b) : sv (!(s == t)) r = sv s a * sv t b := by
  unfold sv
  cases s <;> cases t <;> simp [h, Int.neg_mul, Int.mul_neg]
theorem sv_neg (s : Bool) (l : List Int) : sv (!s) l = -(sv s l) := by unfold sv; cases s <;> simp
def sgnI (x : Int) : Int := if x = 0 then 0 else if x < 0 then -1 else 1
def cmpI (x y : Int) : Int := if x < y then -1 else if y < x then 1 else 0
theorem sgn_sv {s : Bool} {l : List Int} (hu : u64s l) : sgnI (sv s l) = if lenN l = 0 then 0 else if s = true then -1 else 1 := by
  have h := lenN_zero hu
  have h0 := vl_nonneg hu
  unfold sgnI sv
  by_cases hz : vl l = 0
  · rw [if_pos (h.2 hz)]; cases s <;> simp [hz]
  · rw [if_neg (fun e => hz (h.1 e))]
    cases s
    · simp only [Bool.false_eq_true, if_false]; rw [if_neg hz, if_neg (by omega)]
    · simp only [if_true]; rw [if_neg (by omega), if_pos (by omega)]
theorem sgn_range (x : Int) : sgnI x = -1 ∨ sgnI x = 0 ∨ sgnI x = 1 := by unfold sgnI; split <;> (try split) <;> simp
theorem cmp_signs {s t : Bool} {a b : List Int} (ua : u64s a) (ub : u64s b) : (sgnI (sv s a) < sgnI (sv t b) → cmpI (sv s a) (sv t b) = -1) ∧ (sgnI (sv t b) < sgnI (sv s a) → cmpI (sv s a) (sv t b) = 1) ∧
    (sgnI (sv s a) = sgnI (sv t b) → sgnI (sv s a) * cmpL (trm a) (trm b) = cmpI (sv s a) (sv t b)) := by
  have ha := vl_nonneg ua
  have hb := vl_nonneg ub
  have hc := cmpL_val ua ub
  have key : ∀ x y : Int, (sgnI x < sgnI y → x < y) := fun x y h => by unfold sgnI at h; (repeat' split at h) <;> omega
  refine ⟨fun h => ?_, fun h => ?_, fun h => ?_⟩
  · have := key _ _ h; unfold cmpI; rw [if_pos this]
  · have := key _ _ h; unfold cmpI; rw [if_neg (by omega), if_pos this]
  · unfold cmpI
    have hs : ∀ (u : Bool) (l : List Int), sv u l = vl l ∨ sv u l = -(vl l) := fun u l => by unfold sv; cases u <;> simp
    have hs' : ∀ (u : Bool) (l : List Int), 0 ≤ vl l → (0 < sv u l → sv u l = vl l) ∧ (sv u l < 0 → sv u l = -(vl l)) := fun u l hl => by rcases hs u l with e | e <;> constructor <;> intro <;> omega
    have h1 := hs' s a ha
    have h2 := hs' t b hb
    have z1 := hs s a
    have z2 := hs t b
    rcases Int.lt_trichotomy (sv s a) 0 with hx | hx | hx
    · have e1 : sgnI (sv s a) = -1 := by unfold sgnI; rw [if_neg (by omega), if_pos hx]
      have hy : sv t b < 0 := by rw [e1] at h; unfold sgnI at h; (repeat' split at h) <;> omega
      rw [e1, h1.2 hx, h2.2 hy]
      rcases hc with ⟨c, v⟩ | ⟨c, v⟩ | ⟨c, v⟩
      · rw [c, if_neg (by omega), if_neg (by omega)]; rfl
      · rw [c, if_neg (by omega), if_pos (by omega)]; rfl
      · rw [c, if_pos (by omega)]; rfl
    · have e1 : sgnI (sv s a) = 0 := by unfold sgnI; rw [if_pos hx]
      have hy : sv t b = 0 := by rw [e1] at h; unfold sgnI at h; (repeat' split at h) <;> omega
      rw [e1, hx, hy, Int.zero_mul]; rfl
    · have e1 : sgnI (sv s a) = 1 := by unfold sgnI; rw [if_neg (by omega), if_neg (by omega)]
      have hy : 0 < sv t b := by rw [e1] at h; unfold sgnI at h; (repeat' split at h) <;> omega
      rw [e1, h1.1 hx, h2.1 hy, Int.one_mul]
      rcases hc with ⟨c, v⟩ | ⟨c, v⟩ | ⟨c, v⟩
      · rw [c, if_neg (by omega), if_neg (by omega)]
      · rw [c, if_pos (by omega)]
      · rw [c, if_neg (by omega), if_pos (by omega)]
theorem cmpL_range {a b : List Int} (ua : u64s a) (ub : u64s b) : -1 ≤ cmpL (trm a) (trm b) ∧ cmpL (trm a) (trm b) ≤ 1 := by
  rcases cmpL_val ua ub with ⟨c, _⟩ | ⟨c, _⟩ | ⟨c, _⟩ <;> rw [c] <;> decide
theorem cmpI_0 {x y : Int} : cmpI x y = 0 ↔ x = y := by unfold cmpI; (repeat' split) <;> constructor <;> intro h <;> omega
theorem sgnI_0 {x : Int} : sgnI x = 0 ↔ x = 0 := by unfold sgnI; (repeat' split) <;> constructor <;> intro h <;> omega
theorem cmp_sub {x y : Int} : cmpI x y = sgnI (x - y) ∧ cmpI y x = -(sgnI (x - y)) := by
  unfold cmpI sgnI
  constructor <;> (repeat' split) <;> omega
/-- Sums of numbers with a sign. -/
theorem sv_add_same {s t : Bool} {a b r : List Int} (hst : sv s a = sv t a ∨ True) (h : vl r = vl a + vl b) : sv s r = sv s a + sv s b := by
  unfold sv; cases s <;> simp [h] <;> omega
theorem sv_sub {s : Bool} {a b r : List Int} (h : vl r = vl a - vl b) : sv s r = sv s a + sv (!s) b := by
  unfold sv; cases s <;> simp [h] <;> omega
theorem add_val {S T : Bool} {A B r : List Int} {x y : Int} (h : (S == T) = true) (hv : vl r = vl A + vl B) (e1 : sv S A = x) (e2 : sv T B = y) : sv S r = x + y := by
  have : S = T := by simpa using h
  subst this
  rw [← e1, ← e2]; exact sv_add_same (t := S) (.inr trivial) hv
theorem sub_val {S T : Bool} {A B r : List Int} {x y : Int} (h : (S == T) = false) (hv : vl r = vl A - vl B) (e1 : sv S A = x) (e2 : sv T B = y) : sv S r = x + y := by
  have : T = !S := by cases S <;> cases T <;> simp_all
  subst this
  rw [← e1, ← e2]; exact sv_sub hv
theorem cmpI_rng {x y : Int} : -1 ≤ cmpI x y ∧ cmpI x y ≤ 1 := by unfold cmpI; (repeat' split) <;> decide
end Go.Proofs.Ytcdipmjgpimmdaa.Vc

/- Numbers as canonical lists of digits; how many bits they have. Plain Lean. -/
set_option linter.unusedVariables false
set_option linter.unusedSimpArgs false
namespace Go.Proofs.Ytcdipmjgpimmdaa.Vc
open Go Go.RowKit

def digs (b n : Nat) : List Int := if h : n = 0 ∨ b < 2 then [] else ((n % b : Nat) : Int) :: digs b (n / b)
termination_by n
decreasing_by exact Nat.div_lt_self (by omega) (by omega)
theorem digs_0 {b : Nat} : digs b 0 = [] := by rw [digs, dif_pos (.inl rfl)]
theorem digs_pos {b n : Nat} (hb : 2 ≤ b) (hn : n ≠ 0) : digs b n = ((n % b : Nat) : Int) :: digs b (n / b) := by rw [digs, dif_neg (by omega)]
def vb (b : Nat) : List Int → Int
  | [] => 0
  | x :: l => x + (b : Int) * vb b l
def rng (b : Nat) (l : List Int) : Prop := ∀ x ∈ l, 0 ≤ x ∧ x < (b : Int)
theorem rng_tail {b : Nat} {x : Int} {l : List Int} (h : rng b (x :: l)) : rng b l := fun y hy => h y (List.mem_cons_of_mem _ hy)
theorem vb_vl : ∀ l, vb 18446744073709551616 l = vl l
  | [] => rfl
  | x :: l => by simp only [vb, vl, vb_vl l]; rfl
theorem vb_nonneg {b : Nat} : ∀ {l : List Int}, rng b l → 0 ≤ vb b l
  | [], _ => Int.le_refl _
  | x :: l, h => by
    have h1 := (h x (List.mem_cons_self ..)).1
    have h2 := Int.mul_nonneg (Int.natCast_nonneg b) (vb_nonneg (rng_tail h))
    simp only [vb]; omega
theorem tpd_tail {x : Int} {l : List Int} (h : tpd (x :: l)) : tpd l := fun hne => by
  have := h (by simp)
  have hp : 0 < l.length := List.length_pos_iff.2 hne
  rw [List.length_cons, Nat.add_sub_cancel] at this
  obtain ⟨k, hk⟩ : ∃ k, l.length = k + 1 := ⟨l.length - 1, by omega⟩
  rw [hk] at this ⊢
  simpa using this
theorem tpd_one {x : Int} (h : tpd [x]) : x ≠ 0 := by simpa using h (by simp)
theorem digs_of {b : Nat} (hb : 2 ≤ b) : ∀ {l : List Int}, rng b l → tpd l → digs b (vb b l).toNat = l
  | [], _, _ => digs_0
  | x :: t, h, ht => by
    have ih := digs_of hb (rng_tail h) (tpd_tail ht)
    have h1 := h x (List.mem_cons_self ..)
    have h2 := vb_nonneg (rng_tail h)
    obtain ⟨m, hm⟩ : ∃ m : Nat, vb b t = m := ⟨(vb b t).toNat, by omega⟩
    obtain ⟨y, hy⟩ : ∃ y : Nat, x = y := ⟨x.toNat, by omega⟩
    subst hy
    have e : (vb b ((y : Int) :: t)).toNat = y + b * m := by
      simp only [vb]; rw [hm, ← Int.natCast_mul]; omega
    have hyb : y < b := by omega
    rw [e]
    rw [hm] at ih
    rw [show ((m : Int)).toNat = m from rfl] at ih
    have hne : y + b * m ≠ 0 := by
      intro h0
      have hy0 : y = 0 := by omega
      have hm0 : b * m = 0 := by omega
      have hm1 : m = 0 := by
        rcases Nat.mul_eq_zero.1 hm0 with h | h
        · omega
        · exact h
      subst hm1
      rw [digs_0] at ih
      subst ih
      exact tpd_one ht (by rw [hy0]; rfl)
    rw [digs_pos hb hne, Nat.add_mul_mod_self_left, Nat.mod_eq_of_lt hyb, Nat.add_mul_div_left _ _ (by omega), Nat.div_eq_of_lt hyb, Nat.zero_add, ih]
theorem vb_digs {b : Nat} (hb : 2 ≤ b) (n : Nat) : vb b (digs b n) = n := by
  induction n using Nat.strongRecOn with
  | _ n ih =>
    by_cases h : n = 0
    · subst h; rw [digs_0]; rfl
    · rw [digs_pos hb h]
      simp only [vb]
      rw [ih (n / b) (Nat.div_lt_self (by omega) (by omega)), ← Int.natCast_mul, ← Int.natCast_add, Nat.mod_add_div]
theorem rng_digs {b : Nat} (hb : 2 ≤ b) (n : Nat) : rng b (digs b n) := by
  induction n using Nat.strongRecOn with
  | _ n ih =>
    by_cases h : n = 0
    · subst h; rw [digs_0]; intro x hx; simp at hx
    · rw [digs_pos hb h]
      intro x hx
      rcases List.mem_cons.1 hx with rfl | hx
      · have := Nat.mod_lt n (show 0 < b by omega); omega
      · exact ih (n / b) (Nat.div_lt_self (by omega) (by omega)) x hx
theorem tpd_digs {b : Nat} (hb : 2 ≤ b) (n : Nat) : tpd (digs b n) := by
  induction n using Nat.strongRecOn with
  | _ n ih =>
    by_cases h : n = 0
    · subst h; rw [digs_0]; intro hx; simp at hx
    · rw [digs_pos hb h]
      intro _
      rw [List.length_cons, Nat.add_sub_cancel]
      by_cases h1 : n / b = 0
      · rw [h1, digs_0]
        have : n < b := by
          rcases Nat.lt_or_ge n b with h2 | h2
          · exact h2
          · have := Nat.div_pos h2 (by omega); omega
        simp [Nat.mod_eq_of_lt this, h]
      · have h2 := ih (n / b) (Nat.div_lt_self (by omega) (by omega))
        have hne : digs b (n / b) ≠ [] := by rw [digs_pos hb h1]; simp
        have h3 := h2 hne
        have hp : 0 < (digs b (n / b)).length := List.length_pos_iff.2 hne
        obtain ⟨k, hk⟩ : ∃ k, (digs b (n / b)).length = k + 1 := ⟨(digs b (n / b)).length - 1, by omega⟩
        rw [hk] at h3 ⊢
        simpa using h3
/-- Two canonical lists of one number. -/
theorem cano {b : Nat} (hb : 2 ≤ b) {l : List Int} {n : Nat} (hr : rng b l) (ht : tpd l) (hv : vb b l = n) : l = digs b n := by
  have := digs_of hb hr ht
  rw [hv] at this
  exact this.symm
def nbits (n : Nat) : Nat := if n = 0 then 0 else n.log2 + 1
theorem nbits_le {n k : Nat} : nbits n ≤ k ↔ n < 2 ^ k := by
  unfold nbits
  split
  · rename_i h; subst h; exact ⟨fun _ => Nat.two_pow_pos k, fun _ => Nat.zero_le _⟩
  · rename_i h
    rw [← Nat.log2_lt h]
    omega
theorem nbits_0 : nbits 0 = 0 := rfl
theorem nbits_pos {n : Nat} (h : n ≠ 0) : 0 < nbits n := by unfold nbits; rw [if_neg h]; omega
theorem nbits_mono {m n : Nat} (h : m ≤ n) : nbits m ≤ nbits n := nbits_le.2 (Nat.lt_of_le_of_lt h (nbits_le.1 (Nat.le_refl _)))
theorem nbits_add {w x m : Nat} (hx : x < 2 ^ w) (hm : m ≠ 0) : nbits (x + 2 ^ w * m) = w + nbits m := by
  refine Nat.le_antisymm (nbits_le.2 ?_) ?_
  · have h1 : m < 2 ^ nbits m := nbits_le.1 (Nat.le_refl _)
    rw [Nat.pow_add]
    have h2 : 2 ^ w * (m + 1) ≤ 2 ^ w * 2 ^ nbits m := Nat.mul_le_mul_left _ h1
    rw [Nat.mul_add, Nat.mul_one] at h2
    omega
  · rcases Nat.lt_or_ge (nbits (x + 2 ^ w * m)) (w + nbits m) with h | h
    · exfalso
      have hp := nbits_pos hm
      have h1 : x + 2 ^ w * m < 2 ^ (w + (nbits m - 1)) := nbits_le.1 (by omega)
      rw [Nat.pow_add] at h1
      have h2 : 2 ^ w * m < 2 ^ w * 2 ^ (nbits m - 1) := by omega
      have h3 := nbits_le.2 (Nat.lt_of_mul_lt_mul_left h2)
      omega
    · exact h
theorem bl_nbits : ∀ f n, n < 2 ^ f → bl f n = nbits n
  | 0, n, h => by
    have : n = 0 := by simpa using h
    subst this; rfl
  | f + 1, n, h => by
    simp only [bl]
    split
    · rename_i h0; rw [h0]; rfl
    · rename_i h0
      rw [bl_nbits f (n / 2) (by rw [Nat.pow_succ] at h; omega)]
      by_cases h1 : n / 2 = 0
      · have : n = 1 := by omega
        subst this; rfl
      · have := nbits_add (w := 1) (x := n % 2) (m := n / 2) (by have := Nat.mod_lt n (show 0 < 2 by decide); simpa using this) h1
        rw [Nat.pow_one, Nat.mod_add_div] at this
        rw [this]
theorem nbits_mul {x y : Nat} (hx : x ≠ 0) (hy : y ≠ 0) : nbits x + nbits y ≤ nbits (x * y) + 1 := by
  have h1 := nbits_pos hx
  have h2 := nbits_pos hy
  have h3 : 2 ^ (nbits x - 1) ≤ x := by
    rcases Nat.lt_or_ge x (2 ^ (nbits x - 1)) with h | h
    · have := nbits_le.2 h; omega
    · exact h
  have h4 : 2 ^ (nbits y - 1) ≤ y := by
    rcases Nat.lt_or_ge y (2 ^ (nbits y - 1)) with h | h
    · have := nbits_le.2 h; omega
    · exact h
  rcases Nat.lt_or_ge (nbits (x * y) + 1) (nbits x + nbits y) with h | h
  · exfalso
    have h5 : x * y < 2 ^ ((nbits x - 1) + (nbits y - 1)) := nbits_le.1 (by omega)
    rw [Nat.pow_add] at h5
    have := Nat.mul_le_mul h3 h4
    omega
  · exact h
theorem len_digs {w : Nat} (hw : 1 ≤ w) : ∀ {l : List Int}, rng (2 ^ w) l → tpd l → l ≠ [] → w * (l.length - 1) + nbits (l.getD (l.length - 1) 0).toNat = nbits (vb (2 ^ w) l).toNat
  | [], _, _, h => absurd rfl h
  | [x], _, _, _ => by simp [vb]
  | x :: y :: t, h, ht, _ => by
    have ih := len_digs hw (rng_tail h) (tpd_tail ht) (by simp)
    have h1 := h x (List.mem_cons_self ..)
    have h2 := vb_nonneg (rng_tail h)
    have hb2 : 2 ≤ 2 ^ w := by
      have := Nat.pow_le_pow_right (show 0 < 2 by decide) hw
      simpa using this
    have hc := digs_of hb2 (rng_tail h) (tpd_tail ht)
    obtain ⟨m, hm⟩ : ∃ m : Nat, vb (2 ^ w) (y :: t) = m := ⟨(vb (2 ^ w) (y :: t)).toNat, by omega⟩
    obtain ⟨q, hq⟩ : ∃ q : Nat, x = q := ⟨x.toNat, by omega⟩
    rw [hm] at ih hc
    rw [show ((m : Int)).toNat = m from rfl] at ih hc
    have hm0 : m ≠ 0 := by intro e; rw [e, digs_0] at hc; simp at hc
    have e : (vb (2 ^ w) (x :: y :: t)).toNat = q + 2 ^ w * m := by
      show (x + ((2 ^ w : Nat) : Int) * vb (2 ^ w) (y :: t)).toNat = _
      rw [hm, hq, ← Int.natCast_mul]; omega
    rw [e, nbits_add (by omega) hm0, ← ih]
    simp only [List.length_cons, Nat.add_sub_cancel, List.getD_cons_succ]
    rw [Nat.mul_add, Nat.mul_one]
    omega
theorem u64_rng {l : List Int} (h : u64s l) : rng 18446744073709551616 l := h
theorem trm_app (l : List Int) : ∃ k, l = trm l ++ List.replicate k 0 := by
  have : ∀ k, k ≤ l.length → l.take k = l.take (tN l k) ++ List.replicate (k - tN l k) 0 := by
    intro k
    induction k with
    | zero => intro _; simp [tN]
    | succ k ih =>
      intro hk
      have h1 := ih (by omega)
      have hle := tN_le l k
      simp only [tN]
      split
      · rename_i h0
        rw [List.take_succ_eq_append_getElem (by omega), h1, List.append_assoc, show k + 1 - tN l k = (k - tN l k) + 1 by omega, List.replicate_succ']
        congr 2
        rw [List.getD_eq_getElem?_getD, List.getElem?_eq_getElem (by omega)] at h0
        rw [← h0]; rfl
      · simp
  have h := this l.length (Nat.le_refl _)
  rw [List.take_length] at h
  exact ⟨_, h⟩
theorem vb_app (b : Nat) : ∀ (l : List Int) (k : Nat), vb b (l ++ List.replicate k 0) = vb b l
  | [], 0 => rfl
  | [], k + 1 => by
    rw [List.nil_append, List.replicate_succ]
    simp only [vb]
    have := vb_app b [] k
    rw [List.nil_append] at this
    rw [this]; simp [vb]
  | x :: l, k => by simp only [List.cons_append, vb, vb_app b l k]
theorem vb_trm (b : Nat) (l : List Int) : vb b (trm l) = vb b l := by
  obtain ⟨k, hk⟩ := trm_app l
  have := vb_app b (trm l) k
  rw [← hk] at this
  exact this.symm
theorem rng_trm {b : Nat} {l : List Int} (h : rng b l) : rng b (trm l) := fun x hx => h x (List.mem_of_mem_take hx)
theorem trm_digs {b : Nat} (hb : 2 ≤ b) {l : List Int} {n : Nat} (h : rng b l) (hv : vb b l = n) : trm l = digs b n := cano hb (rng_trm h) (tpd_trm l) (by rw [vb_trm, hv])
/-- A number's size in limbs, in the document's digits; its bits. -/
def lm (v : Int) : List Int := digs 18446744073709551616 v.natAbs
def dg (v : Int) : List Int := digs 4294967296 v.natAbs
def lenV (v : Int) : Nat := nbits v.natAbs
theorem lm_u (v : Int) : u64s (lm v) := rng_digs (by decide) _
theorem lm_t (v : Int) : tpd (lm v) := tpd_digs (by decide) _
theorem lm_v (v : Int) : vl (lm v) = v.natAbs := by rw [← vb_vl]; exact vb_digs (by decide) _
theorem dg_r (v : Int) : rng 4294967296 (dg v) := rng_digs (by decide) _
theorem dg_t (v : Int) : tpd (dg v) := tpd_digs (by decide) _
theorem dg_v (v : Int) : vb 4294967296 (dg v) = v.natAbs := vb_digs (by decide) _
theorem dg_u (v : Int) : u64s (dg v) := fun x hx => by have h : 0 ≤ x ∧ x < 4294967296 := dg_r v x hx; omega
theorem lenN_nbits {l : List Int} (h : u64s l) : lenN l = nbits (vl l).toNat := by
  rw [← vl_trm]
  unfold lenN
  split
  · rename_i h0; rw [List.eq_nil_of_length_eq_zero h0]; rfl
  · rename_i h0
    have h1 := len_digs (w := 64) (by decide) (rng_trm (u64_rng h)) (tpd_trm l) (fun e => h0 (by rw [e]; rfl))
    rw [show (2 ^ 64 : Nat) = 18446744073709551616 by decide, vb_vl] at h1
    rw [← h1, bl_nbits 64]
    have := u64s_getD (u64s_trm h) ((trm l).length - 1)
    omega
theorem dig_rng : ∀ {l : List Int}, u64s l → rng 4294967296 (dig l)
  | [], _ => fun x hx => by simp [dig] at hx
  | y :: l, h => fun x hx => by
    have h1 := h y (List.mem_cons_self ..)
    have h2 := dig_rng (l := l) fun z hz => h z (List.mem_cons_of_mem _ hz)
    have e : dig (y :: l) = y % 4294967296 :: y / 4294967296 :: dig l := rfl
    rw [e] at hx
    rcases List.mem_cons.1 hx with rfl | hx
    · show 0 ≤ y % 4294967296 ∧ y % 4294967296 < ((4294967296 : Nat) : Int); omega
    · rcases List.mem_cons.1 hx with rfl | hx
      · show 0 ≤ y / 4294967296 ∧ y / 4294967296 < ((4294967296 : Nat) : Int); omega
      · exact h2 x hx
theorem vb_dig : ∀ l : List Int, vb 4294967296 (dig l) = vl l
  | [] => rfl
  | y :: l => by
    have e : dig (y :: l) = y % 4294967296 :: y / 4294967296 :: dig l := rfl
    rw [e]
    simp only [vb, vl]
    rw [vb_dig l]
    have : Bs = 18446744073709551616 := rfl
    rw [this]
    omega
theorem sv_abs {s : Bool} {l : List Int} (h : u64s l) : ((sv s l).natAbs : Int) = vl l := by
  have := vl_nonneg h
  unfold sv; split <;> omega
theorem raw_res {s : Bool} {l : List Int} {v : Int} (h : u64s l) (hv : sv s l = v) : (s && decide (0 < ((trm l).length : Int))) = decide (v < 0) ∧ trm l = lm v ∧ lenN l = lenV v := by
  have ha := sv_abs (s := s) h
  rw [hv] at ha
  refine ⟨?_, ?_, ?_⟩
  · have h0 := vl_nonneg h
    have hz := trm_zero h
    unfold sv at hv
    cases s
    · simp at hv ⊢; omega
    · simp only [Bool.true_and, if_true] at hv ⊢
      rw [decide_eq_decide]
      constructor
      · intro h1
        have : vl l ≠ 0 := fun e => by have := hz.2 e; omega
        omega
      · intro h1
        have : (trm l).length ≠ 0 := fun e => by have := hz.1 e; omega
        omega
  · exact trm_digs (by decide) (u64_rng h) (by rw [vb_vl, ← ha])
  · rw [lenN_nbits h]; unfold lenV; congr 1; omega
theorem trm_dig {s : Bool} {l : List Int} {v : Int} (h : u64s l) (hv : sv s l = v) : trm (dig l) = dg v :=
  trm_digs (by decide) (dig_rng h) (by have ha := sv_abs (s := s) h; rw [vb_dig, ← ha, hv])
theorem lims_digs (n : Nat) : lims (digs 4294967296 n) = digs 18446744073709551616 n := by
  induction n using Nat.strongRecOn with
  | _ n ih =>
    by_cases h : n = 0
    · subst h; rw [digs_0, digs_0]; rfl
    · rw [digs_pos (by decide) h, digs_pos (b := 18446744073709551616) (by decide) h]
      by_cases h1 : n / 4294967296 = 0
      · rw [h1, digs_0, show n / 18446744073709551616 = 0 by omega, digs_0]
        show [((n % 4294967296 : Nat) : Int)] = _
        rw [show n % 4294967296 = n % 18446744073709551616 by omega]
      · rw [digs_pos (by decide) h1]
        show IntKind.u64.wrap (((n % 4294967296 : Nat) : Int) + IntKind.u64.wrap (((n / 4294967296 % 4294967296 : Nat) : Int) * 4294967296)) :: lims (digs 4294967296 (n / 4294967296 / 4294967296)) = _
        rw [Nat.div_div_eq_div_mul, show 4294967296 * 4294967296 = 18446744073709551616 by decide, ih _ (Nat.div_lt_self (by omega) (by decide)), wrap_u64 (m := ((n / 4294967296 % 4294967296 : Nat) : Int) * 4294967296) (by omega) (by omega), wrap_u64 (by omega) (by omega)]
        congr 1
        omega
theorem lims_dg (v : Int) : lims (dg v) = lm v := lims_digs _
theorem lenD_eq (v : Int) (h : dg v ≠ []) : 32 * ((dg v).length - 1) + nbits ((dg v).getD ((dg v).length - 1) 0).toNat = lenV v := by
  have := len_digs (w := 32) (by decide) (dg_r v) (dg_t v) h
  rw [show (2 ^ 32 : Nat) = 4294967296 by decide, dg_v] at this
  exact this
theorem dg_nil {v : Int} : dg v = [] ↔ v = 0 := by
  constructor
  · intro h; have := dg_v v; rw [h] at this; simp only [vb] at this; omega
  · rintro rfl; exact digs_0
theorem digs_len {b : Nat} (hb : 2 ≤ b) : ∀ (k n : Nat), n < b ^ k → (digs b n).length ≤ k
  | 0, n, h => by
    have : n = 0 := by simpa using h
    subst this; rw [digs_0]; exact Nat.le_refl _
  | k + 1, n, h => by
    by_cases h0 : n = 0
    · subst h0; rw [digs_0]; exact Nat.zero_le _
    · rw [digs_pos hb h0, List.length_cons]
      have := digs_len hb k (n / b) (Nat.div_lt_of_lt_mul (by rw [Nat.mul_comm, ← Nat.pow_succ]; exact h))
      omega
end Go.Proofs.Ytcdipmjgpimmdaa.Vc

/- Memory that is lent: what lies around a list. Bits counted one by one. Plain Lean. -/
set_option linter.unusedVariables false
set_option linter.unusedSimpArgs false
namespace Go.Proofs.Ytcdipmjgpimmdaa.Vc
open Go Go.RowKit

def wrapP (l : List Int) : List Int := 10855845 :: 10855845 :: (l ++ [10855845, 10855845])
def lendA (n i : Nat) : List Int := fillI (List.replicate i 10855845) n
theorem lendA_0 {n : Nat} : List.replicate n (0 : Int) = lendA n 0 := by simp [lendA, fillI]
theorem lendA_len {n i : Nat} (h : i ≤ n) : (lendA n i).length = n := fillI_len (by simpa using h)
theorem lendA_set {n i : Nat} (h : i < n) : (lendA n i).set ((0 + i) * 1) 10855845 = lendA n (i + 1) := by
  unfold lendA
  have := fillI_set (l := List.replicate i 10855845) (n := n) (v := 10855845) (by simpa using h)
  rw [List.length_replicate] at this
  rw [Nat.zero_add, Nat.mul_one, this, ← List.replicate_succ']
def lendB (l : List Int) (i : Nat) : List Int := 10855845 :: 10855845 :: (l.take i ++ List.replicate (l.length + 2 - i) 10855845)
theorem lendB_0 {l : List Int} : lendA (l.length + 4) (l.length + 4) = lendB l 0 := by
  unfold lendA lendB
  rw [fillI_full (by simp), List.take_zero, List.nil_append, Nat.sub_zero]
  rfl
theorem lendB_len {l : List Int} {i : Nat} (h : i ≤ l.length) : (lendB l i).length = l.length + 4 := by
  unfold lendB
  simp
  omega
theorem lendB_set {l : List Int} {i : Nat} (h : i < l.length) : (lendB l i).set ((0 + (i + 2)) * 1) (l.getD i 0) = lendB l (i + 1) := by
  unfold lendB
  rw [Nat.zero_add, Nat.mul_one, List.set_cons_succ, List.set_cons_succ, List.set_append_right _ _ (by simp; omega)]
  congr 2
  rw [List.length_take, Nat.min_eq_left (by omega), Nat.sub_self]
  obtain ⟨k, hk⟩ : ∃ k, l.length + 2 - i = k + 1 := ⟨l.length + 1 - i, by omega⟩
  rw [hk, List.replicate_succ, List.set_cons_zero, show l.length + 2 - (i + 1) = k by omega, List.take_succ_eq_append_getElem h, List.append_assoc, List.getD_eq_getElem?_getD, List.getElem?_eq_getElem h]
  rfl
theorem lendB_end {l : List Int} : lendB l l.length = wrapP l := by
  unfold lendB wrapP
  rw [List.take_length, show l.length + 2 - l.length = 2 by omega]
  rfl
theorem wrap_len {l : List Int} : (wrapP l).length = l.length + 4 := by simp [wrapP]
theorem wrap_mid {l : List Int} : ((wrapP l).drop 2).take l.length = l := by
  unfold wrapP
  rw [List.drop_succ_cons, List.drop_succ_cons, List.drop_zero, List.take_append_of_le_length (Nat.le_refl _), List.take_length]
theorem wrap_out {l : List Int} {k : Nat} (hk : k < l.length + 4) (h : k < 2 ∨ l.length + 2 ≤ k) : (wrapP l).getD k 0 = 10855845 := by
  unfold wrapP
  match k, h with
  | 0, _ => rfl
  | 1, _ => rfl
  | k + 2, h =>
    rw [List.getD_cons_succ, List.getD_cons_succ, List.getD_eq_getElem?_getD, List.getElem?_append_right (by omega)]
    obtain ⟨q, hq⟩ : ∃ q, k - l.length = q := ⟨_, rfl⟩
    rw [hq]
    match q, (show q < 2 by omega) with
    | 0, _ => rfl
    | 1, _ => rfl
theorem wrap_in {l : List Int} {k : Nat} (h1 : ¬ k < 2) (h2 : ¬ l.length + 2 ≤ k) : (wrapP l).getD k 0 = l.getD (k - 2) 0 := by
  unfold wrapP
  obtain ⟨q, rfl⟩ : ∃ q, k = q + 2 := ⟨k - 2, by omega⟩
  rw [List.getD_cons_succ, List.getD_cons_succ, Nat.add_sub_cancel, List.getD_eq_getElem?_getD, List.getElem?_append_left (by omega), List.getD_eq_getElem?_getD]
theorem wrap_u {l : List Int} (h : u64s l) : u64s (wrapP l) := fun x hx => by
  unfold wrapP at hx
  rcases List.mem_cons.1 hx with rfl | hx
  · exact ⟨by decide, by decide⟩
  rcases List.mem_cons.1 hx with rfl | hx
  · exact ⟨by decide, by decide⟩
  rcases List.mem_append.1 hx with hx | hx
  · exact h x hx
  · rcases List.mem_cons.1 hx with rfl | hx
    · exact ⟨by decide, by decide⟩
    · rw [List.mem_singleton] at hx; subst hx; exact ⟨by decide, by decide⟩
theorem nbits_half {m : Nat} (h : m ≠ 0) : nbits m = 1 + nbits (m / 2) := by
  by_cases h1 : m / 2 = 0
  · have : m = 1 := by omega
    subst this; rfl
  · have := nbits_add (w := 1) (x := m % 2) (m := m / 2) (by have := Nat.mod_lt m (show 0 < 2 by decide); simpa using this) h1
    rw [Nat.pow_one, Nat.mod_add_div] at this
    exact this
theorem dg_top (v : Int) (i : Nat) : 0 ≤ (dg v).getD i 0 ∧ (dg v).getD i 0 < 4294967296 := by
  by_cases hi : i < (dg v).length
  · rw [List.getD_eq_getElem?_getD, List.getElem?_eq_getElem hi]; exact dg_r v _ (List.getElem_mem hi)
  · rw [List.getD_eq_getElem?_getD, List.getElem?_eq_none (by omega)]; exact ⟨by decide, by decide⟩
theorem lenV_le (v : Int) : lenV v ≤ 32 * (dg v).length := by
  by_cases h : dg v = []
  · rw [dg_nil.1 h]; exact Nat.zero_le _
  · have h1 := lenD_eq v h
    have h2 := dg_top v ((dg v).length - 1)
    have h3 : nbits ((dg v).getD ((dg v).length - 1) 0).toNat ≤ 32 := nbits_le.2 (by rw [show (2 ^ 32 : Nat) = 4294967296 by decide]; omega)
    have : 0 < (dg v).length := List.length_pos_iff.2 h
    omega
/-- What an answer has to be: the number, or the error 'too great'. -/
def Res (v : Int) (s : Bool) (r : List Int) (e : Int) : Prop := (lenV v ≤ 67108864 ∧ s = decide (v < 0) ∧ r = lm v ∧ e = 0) ∨ (67108864 < lenV v ∧ s = false ∧ r = [] ∧ e = 3)
theorem lenV_dg {v : Int} (h : lenV v ≤ 67108864) : (dg v).length ≤ 2097152 := by
  by_cases h0 : dg v = []
  · rw [h0]; exact Nat.zero_le _
  · have h1 := lenD_eq v h0
    have := dg_t v h0
    have h2 := dg_top v ((dg v).length - 1)
    have := nbits_pos (n := ((dg v).getD ((dg v).length - 1) 0).toNat) (by omega)
    omega
theorem lenV_lm {v : Int} (h : lenV v ≤ 67108864) : (lm v).length ≤ 1048576 := by
  have h1 := (raw_res (s := decide (v < 0)) (v := v) (lm_u v) (by unfold sv; rw [lm_v]; by_cases h : v < 0 <;> simp [h] <;> omega)).2
  have := len_bd (lm_u v) (by rw [h1.2]; exact h)
  rwa [h1.1] at this
theorem Res.len {v : Int} {s : Bool} {r : List Int} {e : Int} (h : Res v s r e) : r.length ≤ 1048576 := by
  rcases h with ⟨h1, _, rfl, _⟩ | ⟨_, _, rfl, _⟩
  · exact lenV_lm h1
  · exact Nat.zero_le _
end Go.Proofs.Ytcdipmjgpimmdaa.Vc

/- Answers with their error, on the way. Plain Lean. -/
set_option linter.unusedVariables false
set_option linter.unusedSimpArgs false
namespace Go.Proofs.Ytcdipmjgpimmdaa.Vc
open Go Go.RowKit

def ErrN (x : Int) (r : List Int) (e : Int) : Prop := (e = 0 ∧ good r ∧ vl r = x) ∨ (e = 3 ∧ 67108864 < lenV x)
def ResN (v : Int) (s : Bool) (l : List Int) (e : Int) : Prop := (e = 0 ∧ u64s l ∧ l.length < 1099511627776 ∧ sv s l = v) ∨ (e = 3 ∧ 67108864 < lenV v)
theorem lenN_lenV {l : List Int} {x : Int} (u : u64s l) (hv : vl l = x) : lenN l = lenV x := by
  have := vl_nonneg u
  rw [lenN_nbits u, hv]; unfold lenV; congr 1; omega
theorem errN_ok {l : List Int} {x : Int} (u : u64s l) (hv : vl l = x) (h : lenN l ≤ 67108864) : ErrN x (trm l) 0 := .inl ⟨rfl, good_trm u h, by rw [vl_trm, hv]⟩
theorem errN_big {l r : List Int} {x : Int} (u : u64s l) (hv : vl l = x) (h : 67108864 < lenN l) : ErrN x r 3 := .inr ⟨rfl, by rwa [← lenN_lenV u hv]⟩
theorem errN_great {a b r : List Int} (ua : u64s a) (ub : u64s b) (h1 : 0 < lenN a) (h2 : 0 < lenN b) (h3 : 67108864 < lenN a + lenN b - 1) : ErrN (vl a * vl b) r 3 := by
  refine .inr ⟨rfl, ?_⟩
  have ha := vl_nonneg ua
  have hb := vl_nonneg ub
  have ea := lenN_nbits ua
  have eb := lenN_nbits ub
  obtain ⟨x, hx⟩ : ∃ x : Nat, vl a = x := ⟨(vl a).toNat, by omega⟩
  obtain ⟨y, hy⟩ : ∃ y : Nat, vl b = y := ⟨(vl b).toNat, by omega⟩
  rw [hx] at ea
  rw [hy] at eb
  rw [show ((x : Int)).toNat = x from rfl] at ea
  rw [show ((y : Int)).toNat = y from rfl] at eb
  have hx0 : x ≠ 0 := fun e => by rw [e, nbits_0] at ea; omega
  have hy0 : y ≠ 0 := fun e => by rw [e, nbits_0] at eb; omega
  have := nbits_mul hx0 hy0
  rw [hx, hy, ← Int.natCast_mul]
  unfold lenV
  rw [Int.natAbs_natCast]
  omega
theorem resN_of {x v : Int} {s : Bool} {r : List Int} {e : Int} (h : ErrN x r e) (h0 : 0 ≤ x) (hs : ∀ q, u64s q → vl q = x → sv s q = v) : ResN v s r e := by
  rcases h with ⟨h1, h2, h3⟩ | ⟨h1, h2⟩
  · exact .inl ⟨h1, h2.1, by have := h2.2; omega, hs r h2.1 h3⟩
  · refine .inr ⟨h1, ?_⟩
    have e1 := lm_v x
    have e2 := hs (lm x) (lm_u x) (by rw [e1]; omega)
    have e3 := sv_abs (s := s) (lm_u x)
    rw [e2, e1] at e3
    have e4 : v.natAbs = x.natAbs := by omega
    unfold lenV at h2 ⊢
    rwa [e4]
theorem res_ok {s : Bool} {l : List Int} {v : Int} (u : u64s l) (hv : sv s l = v) (h : lenN l ≤ 67108864) : Res v (s && decide (0 < ((trm l).length : Int))) (trm l) 0 := by
  obtain ⟨h1, h2, h3⟩ := raw_res u hv
  exact .inl ⟨by rwa [← h3], h1, h2, rfl⟩
theorem res_big {s : Bool} {l : List Int} {v : Int} (u : u64s l) (hv : sv s l = v) (h : 67108864 < lenN l) : Res v false [] 3 := by
  obtain ⟨h1, h2, h3⟩ := raw_res u hv
  exact .inr ⟨by rwa [← h3], rfl, rfl, rfl⟩
theorem dg_lenN {l : List Int} {v : Int} {s : Bool} (u : u64s l) (hv : sv s l = v) : (dg v).length ≤ 2 * l.length := by
  rw [← trm_dig u hv]
  have := trm_len (dig l)
  rw [dig_len] at this
  exact this
theorem zv_of {s : Bool} {l : List Int} (u : u64s l) : (s && decide (trm (dig l) ≠ [])) = decide (sv s l < 0) := by
  rw [trm_dig (s := s) u rfl]
  have h0 := vl_nonneg u
  by_cases h : dg (sv s l) = []
  · rw [dg_nil.1 h]
    simp [dg, digs_0]
  · have h1 : sv s l ≠ 0 := fun e => h (dg_nil.2 e)
    rw [decide_eq_true h, Bool.and_true]
    unfold sv at h1 ⊢
    cases s <;> simp at h1 ⊢ <;> omega
end Go.Proofs.Ytcdipmjgpimmdaa.Vc
