/- The calculus: a text over the bytes of an own row. -/
import Derived.Test.YtcdipmjgpimmdaaVcO
import Derived.Lib.UnsafeStr
set_option linter.unusedVariables false
set_option linter.unusedSimpArgs false
namespace Go.Proofs.Ytcdipmjgpimmdaa.Vc
open Go Go.RowKit
section
variable {P : Program} {Γ : Ctx} {F : Fr} {H : List Ob} {Q : Exit → Fr → List Ob → Prop}

/-- The address of the first element of an own row that is not empty. -/
theorem hy_usd {x : Operand} {ts : Array TypeId} {id ver len t sz : Nat} {cs : List V} (hx : ovO F x = some (.o id ver 0 len)) (hH : H[id]? = some ⟨t, sz, ver, true, cs⟩) (h0 : 0 < len) :
    HY P Γ (.call { callee := .builtin .unsafeSliceData, args := #[x], argTypes := ts }) F H (.p id ver 0) H := fun ρ a w s => by
  obtain ⟨re, o⟩ := s.own hH rfl
  obtain ⟨re', e1, hle, hq⟩ := s.ov hx
  obtain rfl : re' = re := by have := e1.symm.trans o.at_; injection this
  obtain ⟨hcap, ⟨g, ad, hg, hv, had⟩ | ⟨_, _, _, hl0⟩⟩ := hq (o.ok.ver.symm)
  · have had' := had (.inr rfl)
    rw [Nat.zero_mul] at had'
    refine ⟨.pointer (some ⟨g, 0, none⟩), w, ρ, ⟨re', e1, hle, fun _ => ⟨g, hg, rfl⟩⟩, s, Ext.refl w, fun dst U pos after gd => ?_⟩
    exact run_builtin (b := .unsafeSliceData) (vs := [a.eval x]) (by simp) (fun ts t as => Builtin.unsafeSliceData_ ts t as) (fun _ _ => rfl) (by rw [hv, had']; exact Lib.run_unsafeSliceData_row w _ _ _ _ _ (by omega)) _ _ _ _
  · omega
/-- The address of the first element of an own row that is empty: any pointer. -/
theorem js_usd0 {ops : Array Oper} {R : Fr → List Ob → Prop} {d T E : Nat} {ps : String} {af : Array Edge} {x : Operand} {ts : Array TypeId} {id ver t sz : Nat} {cs : List V} (hT : P.underlying T = some (.pointer E)) (hx : ovO F x = some (.o id ver 0 0)) (hH : H[id]? = some ⟨t, sz, ver, true, cs⟩) (hd : d < Γ.N)
    (k : ∀ p, R ((d, .c (.pointer p)) :: F) H) : JS P ops Γ ⟨some d, .call { callee := .builtin .unsafeSliceData, args := #[x], argTypes := ts }, T, ps, af, none⟩ F H Q R := fun a w ⟨ρ, s⟩ => by
  have fin : ∀ p w', Below w.heap.size w w' → (Builtin.unsafeSliceData_ ts T #[a.eval x]).run P w = .ok (.pointer p) w' → Region.wanted (⟨some d, .call { callee := .builtin .unsafeSliceData, args := #[x], argTypes := ts }, T, ps, af, none⟩ : Oper) (yielded ops a.tmps) = true ∧
      (⟨some d, .call { callee := .builtin .unsafeSliceData, args := #[x], argTypes := ts }, T, ps, af, none⟩ : Oper).wp P a w (fun a' w' => (mildB ⟨some d, .call { callee := .builtin .unsafeSliceData, args := #[x], argTypes := ts }, T, ps, af, none⟩ = true → Ext w w') ∧ ∃ F' H', R F' H' ∧ St Γ F' H' a' w') (toQ Γ Q) := fun p w' hb hr => by
    refine ⟨rfl, ?_⟩
    unfold Oper.wp
    rw [run_builtin (b := .unsafeSliceData) (vs := [a.eval x]) (by simp) (fun ts t as => Builtin.unsafeSliceData_ ts t as) (fun _ _ => rfl) hr]
    exact ⟨fun _ => ext_below hb, _, _, k p, ρ, (s.below hb).put hd rfl⟩
  obtain ⟨re, o⟩ := s.own hH rfl
  obtain ⟨re', e1, hle, hq⟩ := s.ov hx
  obtain rfl : re' = re := by have := e1.symm.trans o.at_; injection this
  obtain ⟨hcap, ⟨g, ad, hg, hv, had⟩ | ⟨_, hv, _, hl0⟩⟩ := hq (o.ok.ver.symm)
  · have had' := had (.inr rfl)
    rw [Nat.zero_mul] at had'
    rw [had'] at hv
    obtain ⟨cur, c1, c2, c3, c4, c5⟩ := o.ok.blk g hg
    by_cases hz : re'.cap - 0 = 0
    · rw [hz] at hv
      refine fin _ _ ?_ (by rw [hv]; exact Lib.run_unsafeSliceData_zero w ts T E hT ⟨g, 0, none⟩ 0 (t, cur.size) (by simp [World.shape?, c1]))
      exact ⟨rfl, rfl, rfl, by show w.heap.size ≤ (w.heap.push _).size; rw [Array.size_push]; omega, fun k hk => by show (w.heap.push _)[k]? = _; rw [Array.getElem?_push, if_neg (by omega)]⟩
    · exact fin _ _ (Below.refl _ w) (by rw [hv]; exact Lib.run_unsafeSliceData_row w _ _ _ _ _ hz)
  · exact fin none w (Below.refl _ w) (by rw [hv]; rfl)
/-- The text of no byte. -/
theorem hy_ustr0 {x y : Operand} {pt it : Nat} {p : Option Addr} (hx : ovO F x = some (.c (.pointer p))) (hy : ovO F y = some (.i .i64 0)) :
    HY P Γ (.call { callee := .builtin .unsafeString, args := #[x, y], argTypes := #[pt, it] }) F H (.s .empty) H := fun ρ a w s => by
  refine ⟨.string .empty, w, ρ, rfl, s, Ext.refl w, fun dst U pos after gd => ?_⟩
  exact run_builtin (b := .unsafeString) (vs := [a.eval x, a.eval y]) (by simp) (fun ts t as => Builtin.unsafeString_ ts t as) (fun _ _ => rfl) (by rw [eval_c s hx, eval_i s hy]; exact Lib.run_unsafeString_none w _ _ _ _) _ _ _ _
/-- The text over all bytes of an own row: the row is written no more. -/
theorem hy_ustr {x y : Operand} {pt it E id ver m : Nat} {b : ByteArray} (hT : P.underlying pt = some (.pointer E)) (hc : P.cellsOf E = 1) (hx : ovO F x = some (.p id ver 0)) (hy : ovO F y = some (.i .i64 m)) (hH : H[id]? = some ⟨E, 1, ver, true, ints .u8 (bytesI b)⟩)
    (hm : b.size = m) (h0 : 0 < m) (h63 : m ≤ 9223372036854775807) : HY P Γ (.call { callee := .builtin .unsafeString, args := #[x, y], argTypes := #[pt, it] }) F H (.s b) (deadAt H id) := fun ρ a w s => by
  subst hm
  obtain ⟨re, o⟩ := s.own hH rfl
  obtain ⟨re', e1, hle, hq⟩ := s.ov hx
  obtain rfl : re' = re := by have := e1.symm.trans o.at_; injection this
  obtain ⟨g, hg, hv⟩ := hq (o.ok.ver.symm)
  obtain ⟨cur, c1, c2, c3, c4, c5⟩ := o.ok.blk g hg
  have c3' : b.size ≤ cur.size := by
    have h3 : (ints .u8 (bytesI b)).length ≤ cur.size := c3
    rw [ints_length, bytesI_len] at h3
    exact h3
  obtain ⟨ev, s'⟩ := s.deadw (w' := w.freeze ⟨g, 0, none⟩ b.data.toList.length) hH rfl o.at_ hg (by unfold World.freeze; split <;> rfl) (by unfold World.freeze; split <;> rfl) (by unfold World.freeze; split <;> rfl) (by unfold World.freeze; split <;> simp) (fun b hne => by
    unfold World.freeze
    split
    · rfl
    · show (w.heap.modify g _)[b]? = _
      rw [Array.getElem?_modify, if_neg (Ne.symm hne)])
  have hcell : ∀ ad, (w.freeze ⟨g, 0, none⟩ b.data.toList.length).cell? ad = w.cell? ad := fun ad => by
    unfold World.freeze
    split
    · rfl
    · simp only [World.cell?]
      show (match (w.heap.modify g _)[ad.block]? with | some (.cells c _ _) => if ad.spot.isSome then none else c[ad.off]? | _ => none) = _
      rw [Array.getElem?_modify]
      by_cases e : g = ad.block
      · rw [if_pos e, ← e, c1]; rfl
      · rw [if_neg e]; rfl
  refine ⟨.string b, _, ρ, rfl, s', fun ad v h => by rw [hcell]; exact h, fun dst U pos after gd => ?_⟩
  have hl : b.data.toList.length = b.size := by rw [Array.length_toList]; rfl
  refine run_builtin (b := .unsafeString) (vs := [a.eval x, a.eval y]) (by simp) (fun ts t as => Builtin.unsafeString_ ts t as) (fun _ _ => rfl) ?_ _ _ _ _
  have hr := Lib.run_unsafeString_row (P := P) w pt it U E hT hc g cur.size (by simp [World.shape?, c1]) b.data.toList (by intro h; rw [h] at hl; simp at hl; omega) (by omega) (by omega) (fun j x hj => by
    obtain ⟨u, d1, d2, d3⟩ := c5 j (.i .u8 x.toNat) (by show (ints .u8 (bytesI b))[j]? = _; rw [ints_at]; simp only [bytesI, List.getElem?_map, hj]; rfl)
    have : (⟨g, 0, none⟩ : Addr).add j = ⟨g, j, none⟩ := by
      unfold Addr.add
      by_cases h : j = 0
      · subst h; simp
      · simp [h]
    rw [this]
    have d3' : u = .int .u8 x.toNat := d3
    subst d3'
    simp [World.cell?, c1, d1])
  rw [hv, eval_i s hy]
  have e2 : (⟨b.data.toList.toArray⟩ : ByteArray) = b := by cases b; simp
  rw [e2, hl] at hr
  rw [hl]
  exact hr
end
end Go.Proofs.Ytcdipmjgpimmdaa.Vc
