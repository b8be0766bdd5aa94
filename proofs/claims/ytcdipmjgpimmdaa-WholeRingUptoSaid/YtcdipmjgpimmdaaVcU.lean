/- The calculus: make of structs with spare room; append in place; rows of which more than one slice is read. -/
import Derived.Test.YtcdipmjgpimmdaaVcT
set_option linter.unusedVariables false
set_option linter.unusedSimpArgs false
namespace Go.Proofs.Ytcdipmjgpimmdaa.Vc
open Go Go.RowKit
section
variable {P : Program} {Γ : Ctx} {F : Fr} {H : List Ob} {Q : Exit → Fr → List Ob → Prop}

theorem rep_at {α : Type} {zs : List α} {y : α} : ∀ (m j : Nat), (List.replicate m zs).flatten[j]? = some y → zs[j % zs.length]? = some y ∧ j < m * zs.length
  | 0, j, h => by simp at h
  | m + 1, j, h => by
    rw [List.replicate_succ, List.flatten_cons] at h
    rcases Nat.lt_or_ge j zs.length with hlt | hge
    · rw [List.getElem?_append_left hlt] at h
      rw [Nat.mod_eq_of_lt hlt]
      exact ⟨h, by rw [Nat.add_mul]; omega⟩
    · rw [List.getElem?_append_right hge] at h
      obtain ⟨h1, h2⟩ := rep_at m _ h
      rw [Nat.mod_eq_sub_mod hge]
      exact ⟨h1, by rw [Nat.add_mul]; omega⟩
theorem rep_len {α : Type} (zs : List α) (m : Nat) : (List.replicate m zs).flatten.length = m * zs.length := by
  induction m with
  | zero => simp
  | succ m ih => rw [List.replicate_succ, List.flatten_cons, List.length_append, ih, Nat.add_mul]; omega
/-- make([]T, l, m) of anything. -/
theorem hy_mkS {T E sz bytes l m id : Nat} {z : Value} {zs : List V} {x y : Operand} {n n' : Int} {kx ky : IntKind} (hT : elP P T E sz bytes z) (hx : ovO F x = some (.i kx n')) (hy : ovO F y = some (.i ky n)) (hn' : n' = (l : Int)) (hn : n = (m : Int)) (hle : l ≤ m)
    (hz : z.cells.toList.map cV = zs) (hone : z.cells.toList.all (·.oneCell') = true) (hb : bytes * m ≤ 281474976710656) (h63 : m ≤ maxLen) (hid : H.length = id) :
    HY P Γ (.makeSlice T x y) F H (.o id 0 0 l) (H ++ [⟨E, sz, 0, true, (List.replicate m zs).flatten⟩]) := fun ρ a w s => by
  obtain ⟨i, hu, hi, hz0, hs, hby, hzs, hpos⟩ := hT
  have hb' : (i.bytes : Int) * n ≤ 281474976710656 := by rw [hn, hby, ← Int.natCast_mul]; omega
  have e1 := run_make (P := P) w T E i z hu hi hz0 kx ky n' n (by omega) (by omega) hb' (by simp only [maxLen] at h63; omega)
  have em : n.toNat = m := by omega
  have el : n'.toNat = l := by omega
  have hzl : zs.length = sz := by rw [← hz, List.length_map, Array.length_toList, hzs]
  rw [em, el, hs] at e1
  refine ⟨_, _, _, o_new (re := ⟨some w.heap.size, m, 0, sz⟩) rfl rfl (by rw [s.hr.len, hid]) hle, s.alloc (madeCells z.cells (m * sz)) E (List.replicate m zs).flatten sz m (by simp [size_madeCells]) h63 (by rw [rep_len, hzl]; simp [size_madeCells]) ?_, ext_alloc w _, fun _ _ _ _ _ => ?_⟩
  · intro j y hy
    obtain ⟨h1, h2⟩ := rep_at m j hy
    rw [hzl] at h1 h2
    rw [← hz, List.getElem?_map] at h1
    cases hu : z.cells.toList[j % sz]? with
    | none => rw [hu] at h1; cases h1
    | some u =>
      rw [hu] at h1
      simp only [Option.map_some, Option.some.injEq] at h1
      subst h1
      refine ⟨u, ?_, List.all_eq_true.1 hone u (List.mem_of_getElem? hu), rel_cV _ _ _ _ u⟩
      rw [madeCells_at _ _ _ h2, hzs]
      rw [Array.getElem?_toList] at hu
      rw [getElem!_def, hu]
  · have e : (Instr.makeSlice T (a.eval x) (a.eval y)).run P w = .ok (.slice (some ⟨w.heap.size, 0, none⟩) l m) (w.alloc (.cells (madeCells z.cells (m * sz)) E)) := by rw [eval_i s hx, eval_i s hy]; exact e1
    exact run_v e
/-- append to a slice of an own row that has room: in place. -/
theorem sy_appin {T E sz bytes m id ver len : Nat} {z : Value} {x y : Operand} {yy : V} {zs cs : List V} (hT : elP P T E sz bytes z) (hx : ovO F x = some (.o id ver 0 len)) (hH : H[id]? = some ⟨E, sz, ver, true, cs⟩) (hy : ovO F y = some yy) (hsrc : Src Γ H yy sz m zs) (hm : 0 < m) (hroom : (len + m) * sz ≤ cs.length) :
    ∀ ρ a w, StA Γ ρ F H a w → ∃ v w' ρ', Rel w' (Lset Γ.M ρ' (H.set id ⟨E, sz, ver, true, setV cs (len * sz) zs⟩)) Γ.w0.heap.size ρ' (.o id ver 0 (len + m)) v ∧ StA Γ ρ' F (H.set id ⟨E, sz, ver, true, setV cs (len * sz) zs⟩) a w' ∧
      ∀ (dst : Option Tmp) (type : TypeId) (pos : String) (after : Array Edge) (g : Option (Nat × Bool)), (execOp a.eval ⟨dst, .call { callee := .builtin .append, args := #[x, y], argTypes := #[T, T] }, type, pos, after, g⟩).run P w = .ok (.value v) w' := fun ρ a w s => by
  obtain ⟨i, hu, hi, hz0, hs, hby, hzs, hpos⟩ := hT
  obtain ⟨A, c, us, hv, k1, k2, k3, k4⟩ := hsrc.2 ρ F a w s _ (s.ov hy)
  obtain ⟨ad2, hA, k5⟩ := k3 hm
  subst hA
  obtain ⟨re, o⟩ := s.own hH rfl
  obtain ⟨re0, e1, hle, hp⟩ := s.ov hx
  obtain rfl : re0 = re := by have := e1.symm.trans o.at_; injection this
  obtain ⟨hcap, hq⟩ := hp (o.ok.ver.symm)
  have hszr : re0.sz = sz := o.ok.sz
  have hmul : (len + m) * sz = len * sz + m * sz := Nat.add_mul ..
  have hms : 0 < m * sz := Nat.mul_pos hm hpos
  rcases hq with ⟨g, ad, hg, hv0, had⟩ | ⟨hg, hv0, _, hl0⟩
  · obtain ⟨cur, c1, c2, c3, c4, c5⟩ := o.ok.blk g hg
    have hc3 : cs.length ≤ cur.size := c3
    have hc2 : cur.size = re0.cap * sz := c2
    have hcap2 : len + m ≤ re0.cap := by
      have : (len + m) * sz ≤ re0.cap * sz := by omega
      exact Nat.le_of_mul_le_mul_right this hpos
    have had' := had (.inr rfl)
    rw [Nat.zero_mul] at had'
    have hlen : (cur.toList.take (len * sz) ++ us ++ cur.toList.drop (len * sz + us.length)).length = cur.size := by simp; omega
    refine ⟨.slice (some ⟨g, 0, none⟩) (len + m) re0.cap, _, ρ.set id re0, ?_, s.update (ob' := ⟨E, sz, ver, true, setV cs (len * sz) zs⟩) (re' := re0) hH rfl o.at_ (by rw [hg]; exact grownBy_setRow w g (cur.toList.take (len * sz) ++ us ++ cur.toList.drop (len * sz + us.length)).toArray) rfl o.ok.ver o.ok.sz (Nat.le_refl _) (fun _ => rfl) (.inl rfl)
      (fun h => by rw [hg] at h; cases h) (fun g' hg' => ?_), fun dst type pos after gd => ?_⟩
    · exact ⟨re0, by rw [List.getElem?_set]; simp [(List.getElem?_eq_some_iff.1 o.at_).1], hle, fun _ => ⟨by omega, .inl ⟨g, ⟨g, 0, none⟩, hg, rfl, fun _ => by simp⟩⟩⟩
    · obtain rfl : g = g' := by rw [hg] at hg'; injection hg'
      refine ⟨_, setRow_heap w g cur _ E (0, 0) c1, by rw [List.size_toArray, hlen]; exact c2, by rw [List.size_toArray, hlen]; show (setV cs (len * sz) zs).length ≤ _; rw [setV_length]; exact hc3, c4, fun j y' hy' => ?_⟩
      rw [List.getElem?_toArray]
      have hzl := hsrc.1
      rcases setV_at cs (len * sz) zs j y' hy' with ⟨k1', k2', k3'⟩ | ⟨k1', k2'⟩
      · obtain ⟨u, d1, d2⟩ := k4 _ _ k3'
        refine ⟨u, ?_, k2 u (List.mem_of_getElem? d1), d2⟩
        rw [List.append_assoc, List.getElem?_append_right (by simp; omega), List.getElem?_append_left (by simp; omega)]
        rw [← d1]; congr 1; simp; omega
      · obtain ⟨u, d1, d2, d3⟩ := c5 j y' k2'
        refine ⟨u, ?_, d2, d3⟩
        rw [← Array.getElem?_toList] at d1
        rcases k1' with k1' | k1'
        · rw [List.append_assoc, List.getElem?_append_left (by simp; omega), List.getElem?_take, if_pos (by omega)]; exact d1
        · rw [List.getElem?_append_right (by simp; omega), List.getElem?_drop, ← d1]; congr 1; simp; omega
    · have hr := run_append_room (P := P) w T type E i hu hi g len re0.cap cur c1 ad2 m c us (by rw [hs]; exact k1) k5 k2 hcap2 (by rw [hs]; omega)
      rw [hs] at hr
      refine run_builtin (b := .append) (ts := #[T, T]) (T := type) (a := a) (args := #[x, y]) (vs := [a.eval x, a.eval y]) (by simp) (fun ts t as => Builtin.append_ ts t as) (fun _ _ => rfl) ?_ dst pos after gd
      rw [hv0, had', hv, Nat.sub_zero]
      exact hr
  · obtain ⟨h1, _⟩ := o.ok.nob hg
    have h1' : cs = [] := h1
    rw [h1'] at hroom
    simp at hroom
    omega
theorem jo_appin {ops : Array Oper} {rest : List Oper} {d T E sz bytes m id ver len : Nat} {ty : TypeId} {ps : String} {af : Array Edge} {z : Value} {x y : Operand} {yy : V} {zs cs : List V} (hT : elP P T E sz bytes z) (hx : ovO F x = some (.o id ver 0 len)) (hH : H[id]? = some ⟨E, sz, ver, true, cs⟩) (hy : ovO F y = some yy) (hsrc : Src Γ H yy sz m zs) (hm : 0 < m) (hroom : (len + m) * sz ≤ cs.length)
    (hd : d < Γ.N) (j : JO P ops rest Γ ((d, .o id ver 0 (len + m)) :: F) (H.set id ⟨E, sz, ver, true, setV cs (len * sz) zs⟩) Q) :
    JO P ops (⟨some d, .call { callee := .builtin .append, args := #[x, y], argTypes := #[T, T] }, ty, ps, af, none⟩ :: rest) Γ F H Q := fun a w ⟨ρ, s⟩ => by
  obtain ⟨v, w', ρ', r, s', hr⟩ := sy_appin hT hx hH hy hsrc hm hroom ρ a w s
  refine wpList_plain rfl fun K hK => ?_
  unfold Oper.wp
  rw [hr _ _ _ _ _]
  exact hK _ _ (j _ _ ⟨ρ', s'.put hd r⟩)
/-- Rows at the head of an own object, read for good. -/
theorem StA.frozenR' {ρ : List Re} {a : Act} {w : World} (s : StA Γ ρ F H a w) {id ver len t sz : Nat} {cs tl : List V} {rows : List (List V)} (hH : H[id]? = some ⟨t, sz, ver, true, cs⟩) {v : Value} (r : Rel w (Lset Γ.M ρ H) Γ.w0.heap.size ρ (.o id ver 0 len) v)
    (hcs : cs = rows.flatten ++ tl) (hlen : rows.length = len) (hsz : ∀ r ∈ rows, r.length = sz) (hpu : ∀ r ∈ rows, r.all pureV = true) (h0 : 0 < sz)
    (hp : ∀ b, ¬ Γ.L0 b) : Rel w (Lset Γ.M ρ (deadAt H id)) Γ.w0.heap.size ρ (.l true sz rows) v := by
  obtain ⟨re, o⟩ := s.own hH rfl
  obtain ⟨re', e1, _, hq⟩ := r
  obtain rfl : re' = re := by have := e1.symm.trans o.at_; injection this
  obtain ⟨hcap, hq⟩ := hq (o.ok.ver.symm)
  rcases hq with ⟨g, ad, hg, hv, had⟩ | ⟨hg, hv, ho, hl0⟩
  · obtain ⟨cur, c1, c2, c3, c4, c5⟩ := o.ok.blk g hg
    have had' := had (.inr rfl)
    rw [Nat.zero_mul] at had'
    refine ⟨some ad, re'.cap - 0, by rw [hlen]; exact hv, by rw [hlen]; omega, by omega, fun hne => ⟨ad, rfl, ?_, relR_of rows 0 hsz fun i row hi => relC_of _ _ fun j y hy => ?_⟩⟩
    · rw [had']; exact s.mine_dead hH rfl o.at_ hg hp true
    · have hy' := flat_at rows i j row y hsz hi hy
      have hy2 : cs[i * sz + j]? = some y := by rw [hcs, List.getElem?_append_left (List.getElem?_eq_some_iff.1 hy').1]; exact hy'
      obtain ⟨u, d1, _, d3⟩ := o.cell hg hy2
      refine ⟨u, by rw [had', addr_add_plain, Nat.zero_add, Nat.zero_add]; exact d1, rel_pure _ _ (List.all_eq_true.1 (hpu row (List.mem_of_getElem? hi)) _ (List.mem_of_getElem? hy)) (d3.ev (s.dead_ev id))⟩
  · subst hl0
    have : rows = [] := List.eq_nil_of_length_eq_zero hlen
    subst this
    exact ⟨none, 0, by simpa using hv, by simp, by simp [maxLen], fun h => absurd rfl h⟩
/-- Two slices of one row, from its head on, read for good. -/
theorem jc_frzr2 {c : Code} (t t' : Nat) {id ver len len' T sz : Nat} {cs tl tl' : List V} (rows rows' : List (List V)) (hx : getO F t = some (.o id ver 0 len)) (hx' : getO F t' = some (.o id ver 0 len')) (hH : H[id]? = some ⟨T, sz, ver, true, cs⟩) (hcs : cs = rows.flatten ++ tl) (hcs' : cs = rows'.flatten ++ tl') (hlen : rows.length = len) (hlen' : rows'.length = len')
    (hsz : ∀ r ∈ rows, r.length = sz) (hsz' : ∀ r ∈ rows', r.length = sz) (hpu : ∀ r ∈ rows, r.all pureV = true) (hpu' : ∀ r ∈ rows', r.all pureV = true) (h0 : 0 < sz) (hp : ∀ b, ¬ Γ.L0 b)
    (j : JC P c Γ ((t, .l true sz rows) :: (t', .l true sz rows') :: F) (deadAt H id) Q) : JC P c Γ F H Q := fun a w ⟨ρ, s⟩ => by
  refine j a w ⟨ρ, (s.dead id).hr, s.n, s.ds, fun t2 => ?_, (s.dead id).fro⟩
  rw [get_cons]
  by_cases e : t2 = t
  · subst e
    rw [if_pos rfl]
    have := s.fr t2
    unfold get at this
    rw [hx] at this
    exact s.frozenR' hH this hcs hlen hsz hpu h0 hp
  · rw [if_neg e, get_cons]
    by_cases e' : t2 = t'
    · subst e'
      rw [if_pos rfl]
      have := s.fr t2
      unfold get at this
      rw [hx'] at this
      exact s.frozenR' hH this hcs' hlen' hsz' hpu' h0 hp
    · rw [if_neg e']; exact (s.dead id).fr t2
end
end Go.Proofs.Ytcdipmjgpimmdaa.Vc
