/- The calculus: copy; places held for objects that are made in any order. -/
import Derived.Test.YtcdipmjgpimmdaaVcU
import Derived.Test.YtcdipmjgpimmdaaVcY
import Derived.Laws.CopyRow
import Derived.Laws.IdiomCopy
set_option linter.unusedVariables false
set_option linter.unusedSimpArgs false
namespace Go.Proofs.Ytcdipmjgpimmdaa.Vc
open Go Go.RowKit
section
variable {P : Program} {Γ : Ctx} {F : Fr} {H : List Ob} {Q : Exit → Fr → List Ob → Prop}
theorem setV_head : ∀ (a b : List V), b.length ≤ a.length → setV a 0 b = b ++ a.drop b.length
  | [], [], _ => rfl
  | [], _ :: _, h => by simp at h
  | _ :: _, [], _ => rfl
  | x :: a, y :: b, h => by
    show y :: setV a 0 b = y :: (b ++ (x :: a).drop (b.length + 1))
    rw [setV_head a b (by simpa using h)]; rfl
/-- copy of whole numbers into an own row, from its head on. -/
theorem sy_copy {T U E t id ver n : Nat} {x y : Operand} {fr : Bool} {k : IntKind} {l l0 : List Int} (hT : P.underlying T = some (.slice E)) (hE : (P.info? E).map (·.size) = some 1) (hx : ovO F x = some (.o id ver 0 n)) (hH : H[id]? = some ⟨t, 1, ver, true, ints k l0⟩) (hn : l0.length = n) (hy : ovO F y = some (.n fr k l)) (hle : l.length ≤ n) :
    ∀ ρ a w, StA Γ ρ F H a w → ∃ w' ρ', StA Γ ρ' F (H.set id ⟨t, 1, ver, true, ints k (l ++ l0.drop l.length)⟩) a w' ∧
      ∀ (dst : Option Tmp) (type : TypeId) (pos : String) (after : Array Edge) (g : Option (Nat × Bool)), (execOp a.eval ⟨dst, .call { callee := .builtin .copy, args := #[x, y], argTypes := #[T, U] }, type, pos, after, g⟩).run P w = .ok (.value (.int .i64 l.length)) w' := fun ρ a w s => by
  obtain ⟨re, o⟩ := s.own hH rfl
  obtain ⟨re0, e1, hle0, hp⟩ := s.ov hx
  obtain rfl : re0 = re := by have := e1.symm.trans o.at_; injection this
  obtain ⟨hcap, hq⟩ := hp (o.ok.ver.symm)
  obtain ⟨A, c, hv, hlc, hcm, h3⟩ := s.ov hy
  have fin : ∀ w', (Builtin.copy_ #[T, U] T #[a.eval x, a.eval y]).run P w = .ok (goInt l.length) w' → ∀ (dst : Option Tmp) (type : TypeId) (pos : String) (after : Array Edge) (g : Option (Nat × Bool)), (Builtin.copy_ #[T, U] type #[a.eval x, a.eval y]).run P w = .ok (goInt l.length) w' → (execOp a.eval ⟨dst, .call { callee := .builtin .copy, args := #[x, y], argTypes := #[T, U] }, type, pos, after, g⟩).run P w = .ok (.value (.int .i64 l.length)) w' := fun w' _ dst type pos after g h =>
    run_builtin (b := .copy) (ts := #[T, U]) (T := type) (a := a) (args := #[x, y]) (vs := [a.eval x, a.eval y]) (by simp) (fun ts t as => Builtin.copy_ ts t as) (fun _ _ => rfl) h dst pos after g
  by_cases h0 : l = []
  · subst h0
    have hset : H.set id ⟨t, 1, ver, true, ints k ([] ++ l0.drop ([] : List Int).length)⟩ = H := by
      apply List.ext_getElem?
      intro i
      rw [List.getElem?_set]
      by_cases e : id = i
      · subst e; rw [if_pos rfl, if_pos (List.getElem?_eq_some_iff.1 hH).1, hH]; rfl
      · rw [if_neg e]
    refine ⟨w, ρ, by rw [hset]; exact s, fun dst type pos after g => ?_⟩
    have hrun : ∀ ty, (Builtin.copy_ #[T, U] ty #[a.eval x, a.eval y]).run P w = .ok (goInt ([] : List Int).length) w := fun ty => by
      rw [hv]
      rcases hq with ⟨g', ad, hg, hv0, had⟩ | ⟨hg, hv0, _, hl0⟩
      · rw [hv0]; exact run_copy_none (P := P) w T U ty E _ _ _ _ _ _ hT hE (by simp [Nat.min_def])
      · rw [hv0]; exact run_copy_none (P := P) w T U ty E _ _ _ _ _ _ hT hE (by simp [Nat.min_def])
    exact fin w (hrun T) dst type pos after g (hrun type)
  · obtain ⟨ad2, hA, hb2, hc2⟩ := h3 h0
    subst hA
    have hlp : 0 < l.length := List.length_pos_iff.2 h0
    rcases hq with ⟨g, ad, hg, hv0, had⟩ | ⟨hg, hv0, _, hl0⟩
    · obtain ⟨cur, c1, c2, c3, c4, c5⟩ := o.ok.blk g hg
      have had' := had (.inr rfl)
      rw [Nat.zero_mul] at had'
      have hc3 : (ints k l0).length ≤ cur.size := c3
      rw [ints_length] at hc3
      have hus : (l.map (Value.int k)).length = l.length := List.length_map ..
      have hlen : (cur.toList.take 0 ++ l.map (Value.int k) ++ cur.toList.drop (0 + (l.map (Value.int k)).length)).length = cur.size := by simp; omega
      have hset : ints k (l ++ l0.drop l.length) = setV (ints k l0) 0 (ints k l) := by
        rw [setV_head _ _ (by rw [ints_length, ints_length]; omega), ints_length, ← ints_append]
        congr 1
        simp [ints, List.map_drop]
      rw [hset]
      refine ⟨_, ρ.set id re0, s.update (ob' := ⟨t, 1, ver, true, setV (ints k l0) 0 (ints k l)⟩) (re' := re0) hH rfl o.at_ (by rw [hg]; exact grownBy_setRow w g (cur.toList.take 0 ++ l.map (Value.int k) ++ cur.toList.drop (0 + (l.map (Value.int k)).length)).toArray) rfl o.ok.ver o.ok.sz (Nat.le_refl _) (fun _ => rfl) (.inl rfl)
        (fun h => by rw [hg] at h; cases h) (fun g' hg' => ?_), fun dst type pos after gd => ?_⟩
      · obtain rfl : g = g' := by rw [hg] at hg'; injection hg'
        refine ⟨_, setRow_heap w g cur _ t (0, 0) c1, by rw [List.size_toArray, hlen]; exact c2, by rw [List.size_toArray, hlen]; show (setV (ints k l0) 0 (ints k l)).length ≤ _; rw [setV_length]; exact c3, c4, fun j y' hy' => ?_⟩
        rw [List.getElem?_toArray]
        rcases setV_at (ints k l0) 0 (ints k l) j y' hy' with ⟨k1', k2', k3'⟩ | ⟨k1', k2'⟩
        · rw [Nat.sub_zero, ints_at] at k3'
          cases hj : l[j]? with
          | none => rw [hj] at k3'; cases k3'
          | some z =>
            rw [hj] at k3'
            simp only [Option.map_some, Option.some.injEq] at k3'
            subst k3'
            refine ⟨.int k z, ?_, rfl, rfl⟩
            have hjl := (List.getElem?_eq_some_iff.1 hj).1
            rw [List.getElem?_append_left (by simp; omega)]
            simp [hj]
        · obtain ⟨u, d1, d2, d3⟩ := c5 j y' k2'
          refine ⟨u, ?_, d2, d3⟩
          rw [← Array.getElem?_toList] at d1
          rw [ints_length] at k1'
          rw [List.getElem?_append_right (by simp; omega), List.getElem?_drop, ← d1]; congr 1; simp; omega
      · have hr := fun ty => run_copy_row (P := P) w T U ty E g 0 n (re0.cap - 0) ad2 l.length c cur t (l.map (Value.int k)) hT hE c1 (by rw [hus]; exact (Nat.min_eq_left hle).symm) (fun j v hj => by
          rw [List.getElem?_map] at hj
          cases hj2 : l[j]? with
          | none => rw [hj2] at hj; cases hj
          | some z => rw [hj2] at hj; simp at hj; subst hj; exact hc2 j z hj2) (by rw [hus]; omega) (by simp [Value.oneCell'])
        have hrun : ∀ ty, (Builtin.copy_ #[T, U] ty #[a.eval x, a.eval y]).run P w = .ok (goInt l.length) (w.setRow g (cur.toList.take 0 ++ l.map (Value.int k) ++ cur.toList.drop (0 + (l.map (Value.int k)).length)).toArray) := fun ty => by
          rw [hv, hv0, had']
          have := hr ty
          rwa [hus] at this ⊢
        exact fin _ (hrun T) dst type pos after gd (hrun type)
    · omega
theorem jo_copy {ops : Array Oper} {rest : List Oper} {d T U E t id ver n : Nat} {ty : TypeId} {ps : String} {af : Array Edge} {x y : Operand} {fr : Bool} {k : IntKind} {l l0 : List Int} (hT : P.underlying T = some (.slice E)) (hE : (P.info? E).map (·.size) = some 1) (hx : ovO F x = some (.o id ver 0 n)) (hH : H[id]? = some ⟨t, 1, ver, true, ints k l0⟩) (hn : l0.length = n) (hy : ovO F y = some (.n fr k l)) (hle : l.length ≤ n)
    (hd : d < Γ.N) (j : JO P ops rest Γ ((d, .i .i64 l.length) :: F) (H.set id ⟨t, 1, ver, true, ints k (l ++ l0.drop l.length)⟩) Q) :
    JO P ops (⟨some d, .call { callee := .builtin .copy, args := #[x, y], argTypes := #[T, U] }, ty, ps, af, none⟩ :: rest) Γ F H Q := fun a w ⟨ρ, s⟩ => by
  obtain ⟨w', ρ', s', hr⟩ := sy_copy (U := U) hT hE hx hH hn hy hle ρ a w s
  refine wpList_plain rfl fun K hK => ?_
  unfold Oper.wp
  rw [hr _ _ _ _ _]
  exact hK _ _ (j _ _ ⟨ρ', s'.put hd rfl⟩)
/-- Places held. -/
theorem jc_hold {c : Code} : ∀ (k : Nat) (H : List Ob), JC P c Γ F (H ++ List.replicate k (⟨0, 1, 0, true, []⟩ : Ob)) Q → JC P c Γ F H Q
  | 0, H, j => by simpa using j
  | k + 1, H, j => fun a w ⟨ρ, s⟩ => by
    have s' := s.born (re := ⟨none, 0, 0, 1⟩) (ob := ⟨0, 1, 0, true, []⟩) (w' := w) ⟨rfl, rfl, rfl, Nat.le_refl _, fun _ _ _ => rfl⟩ rfl rfl rfl (fun g h => by cases h) (fun _ => ⟨rfl, rfl⟩) (fun g h => by cases h)
    exact jc_hold k (H ++ [⟨0, 1, 0, true, []⟩]) (by rw [List.append_assoc]; exact j) a w ⟨_, s'⟩
/-- A variable made at a place that is held. -/
theorem hy_allocAt {T n : Nat} {zs : List Value} {id ver T' sz' : Nat} {cs : List V} (hz : ((P.info? T).bind (·.zero)).map (·.cells.toList) = some zs) (hone : zs.all (·.oneCell') = true) (hn : zs.length = n) (h0 : n ≤ maxLen) (hH : H[id]? = some ⟨T', sz', ver, true, cs⟩) :
    HY P Γ (.alloc T) F H (.p id (ver + 1) 0) (H.set id ⟨T, n, ver + 1, true, zs.map cV⟩) := fun ρ a w s => by
  cases hi : P.info? T with
  | none => rw [hi] at hz; cases hz
  | some i =>
    rw [hi] at hz
    cases hz0 : i.zero with
    | none => simp [hz0] at hz
    | some z =>
      simp [hz0] at hz
      obtain ⟨re, o⟩ := s.own hH rfl
      have hver : re.ver = ver := o.ok.ver
      refine ⟨.pointer (some ⟨w.heap.size, 0, none⟩), w.alloc (.cells z.cells T), ρ.set id ⟨some w.heap.size, 1, ver + 1, n⟩, ⟨⟨some w.heap.size, 1, ver + 1, n⟩, by rw [List.getElem?_set]; simp [(List.getElem?_eq_some_iff.1 o.at_).1], Nat.le_refl _, fun _ => ⟨_, rfl, rfl⟩⟩,
        s.update (ob' := ⟨T, n, ver + 1, true, zs.map cV⟩) (re' := ⟨some w.heap.size, 1, ver + 1, n⟩) hH rfl o.at_ (World.grownBy_alloc w _ _) rfl rfl rfl (by show re.ver ≤ ver + 1; omega) (fun h => by have : re.ver = ver + 1 := h; omega) (.inr ⟨_, rfl, Nat.le_refl _⟩) (fun h => by cases h) (fun g' hg' => ?_), ext_alloc w _, fun _ _ _ _ _ => ?_⟩
      · injection hg' with hg'
        subst hg'
        refine ⟨z.cells, by show (w.heap.push _)[w.heap.size]? = _; rw [Array.getElem?_push, if_pos rfl], by show _ = 1 * n; rw [Nat.one_mul, ← hn, ← hz]; simp, by show (zs.map cV).length ≤ _; rw [List.length_map, ← hz]; simp, by show 1 ≤ maxLen; decide, fun j y hy => ?_⟩
        rw [List.getElem?_map] at hy
        cases hj : zs[j]? with
        | none => rw [hj] at hy; cases hy
        | some u =>
          rw [hj] at hy
          simp at hy
          subst hy
          exact ⟨u, by rw [← hz] at hj; simpa using hj, List.all_eq_true.1 hone u (List.mem_of_getElem? hj), rel_cV _ _ _ _ _⟩
      · have e : (Instr.alloc T true (.tuple #[])).run P w = .ok (.pointer (some ⟨w.heap.size, 0, none⟩)) (w.alloc (.cells z.cells T)) := by
          simp [Instr.alloc, zeroValue, typeInfo, hi, hz0, newVar, newRow, newObj, Sem.run]
        exact run_v e
/-! ### Regions in which several operations that make memory come up in any order: by what has come up -/
theorem ja_gen {ops : Array Oper} {fuel : Nat} {listed : Array Bool} (hp : ∀ c F H d, Q (.panic c) F H → Q (.panic c) ((d, .u) :: F) H) (k : ∀ (ops' : Array Oper) (Q' : Exit → Fr → List Ob → Prop) (F' : Fr), (∀ c F H d, Q' (.panic c) F H → Q' (.panic c) ((d, .u) :: F) H) → ops' = ops → Q' = Q → F' = F → JA P ops' fuel listed Γ F' H Q') : JA P ops fuel listed Γ F H Q := k _ _ _ hp rfl rfl rfl
theorem ja_to {ops : Array Oper} {fuel : Nat} {listed listed' : Array Bool} {F' m F0 : Fr} {H' : List Ob} (hl : listed = listed') (hH : H' = H) (hc : Cov F' m F0) (S : JA P ops fuel listed' Γ (m ++ F0) H Q) : JA P ops fuel listed Γ F' H' Q := fun a w ⟨ρ, s⟩ => by
  subst hl; subst hH
  exact S a w ⟨ρ, s.cov hc⟩
theorem ja_4 {ops : Array Oper} {fuel : Nat} {listed : Array Bool} (i j l m : Nat) {o o' o'' o3 : Oper} (h : JS P ops Γ o F H Q fun F' H' => JA P ops fuel (listed.setIfInBounds i true) Γ F' H' Q) (h' : JS P ops Γ o' F H Q fun F' H' => JA P ops fuel (listed.setIfInBounds j true) Γ F' H' Q) (h'' : JS P ops Γ o'' F H Q fun F' H' => JA P ops fuel (listed.setIfInBounds l true) Γ F' H' Q) (h3 : JS P ops Γ o3 F H Q fun F' H' => JA P ops fuel (listed.setIfInBounds m true) Γ F' H' Q)
    (hi : ops[i]? = some o) (hj : ops[j]? = some o') (hl : ops[l]? = some o'') (hm : ops[m]? = some o3) (hr : Region.ready .any ops listed = [i, j, l, m]) : JA P ops (fuel + 1) listed Γ F H Q :=
  ja_all [i, j, l, m] hr rfl fun k hk => by
    simp only [List.mem_cons, List.not_mem_nil, or_false] at hk
    rcases hk with rfl | rfl | rfl | rfl
    · exact ⟨o, hi, h⟩
    · exact ⟨o', hj, h'⟩
    · exact ⟨o'', hl, h''⟩
    · exact ⟨o3, hm, h3⟩
end
end Go.Proofs.Ytcdipmjgpimmdaa.Vc
