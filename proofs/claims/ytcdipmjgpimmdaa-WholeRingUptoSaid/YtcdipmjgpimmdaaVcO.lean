/- The calculus, fifteenth part: pointers compared, pointers made unsafe and back, what strings.Builder needs. -/
import Derived.Test.YtcdipmjgpimmdaaVcN
import Derived.Lib.Builder
import Derived.Laws.Externs
import Derived.LaidEqlPtr
import Derived.Lib.AppendStr
set_option linter.unusedVariables false
set_option linter.unusedSimpArgs false
namespace Go.Proofs.Ytcdipmjgpimmdaa.Vc
open Go Go.RowKit
section
variable {P : Program} {Γ : Ctx} {F : Fr} {H : List Ob} {Q : Exit → Fr → List Ob → Prop}

theorem run_eqptr {T E : Nat} (hT : P.underlying T = some (.pointer E)) (v : Option Addr) (w : World) : (binOp .eql T (.pointer v) (.pointer none)).run P w = .ok (.bool v.isNone) w := by
  have h : ∀ d : Nat, (Op.equalIn (d + 1) T (.pointer v) (.pointer none)).run P w = .ok v.isNone w := fun d => by
    cases v <;> simp [Op.equalIn, run_underlying hT]
  simp only [binOp]
  simp [Op.equal, Op.maxDepth, h 9999]
theorem run_eqgp {op : BinOp} {T : Nat} {x y : Operand} {u v : Option Addr} (w : World) : (eqGuard op T x y (.pointer u) (.pointer v)).run P w = .ok () w := by
  unfold eqGuard
  cases op <;> simp
theorem ly_eqp0 {x : Operand} {T T' E id ver off t sz : Nat} {cs : List V} (hT : P.underlying T = some (.pointer E)) (hx : ovO F x = some (.p id ver off)) (hH : H[id]? = some ⟨t, sz, ver, true, cs⟩) : LY P Γ (.binOp .eql T x (.const (.pointer none)) T') F H (.b false) := fun ρ a w s => by
  obtain ⟨re, g, ow, hg, hv⟩ := s.ptr hx hH
  refine ⟨.bool false, rfl, fun _ _ _ _ _ w' _ => ?_⟩
  have e1 : (do eqGuard .eql T x (.const (.pointer none)) (a.eval x) (a.eval (.const (.pointer none))); binOp .eql T (a.eval x) (a.eval (.const (.pointer none))) : Sem Value).run P w' = .ok (.bool false) w' := by
    have e0 : a.eval (.const (.pointer none)) = .pointer none := rfl
    rw [hv, e0, Sem.run_bind, run_eqgp]
    exact run_eqptr hT _ _
  exact run_v e1
theorem ly_eqn0 {x : Operand} {T T' E : Nat} (hT : P.underlying T = some (.pointer E)) (hx : ovO F x = some (.c (.pointer none))) : LY P Γ (.binOp .eql T x (.const (.pointer none)) T') F H (.b true) := fun ρ a w s => by
  refine ⟨.bool true, rfl, fun _ _ _ _ _ w' _ => ?_⟩
  have e1 : (do eqGuard .eql T x (.const (.pointer none)) (a.eval x) (a.eval (.const (.pointer none))); binOp .eql T (a.eval x) (a.eval (.const (.pointer none))) : Sem Value).run P w' = .ok (.bool true) w' := by
    have e0 : a.eval (.const (.pointer none)) = .pointer none := rfl
    rw [eval_c s hx, e0, Sem.run_bind, run_eqgp]
    exact run_eqptr hT _ _
  exact run_v e1
theorem hy_tou {T T' t e id ver off sz : Nat} {x : Operand} {cs : List V} (hs : P.underlying T = some (.pointer t)) (hd : P.underlying T' = some .unsafePointer) (htj : (P.info? t).any (fun j => !Nat.beq j.size 0) = true)
    (hx : ovO F x = some (.p id ver off)) (hH : H[id]? = some ⟨e, sz, ver, true, cs⟩) (hoff : off < cs.length) : HY P Γ (.convert T T' x) F H (.p id ver off) H := fun ρ a w s => by
  obtain ⟨re, g, ow, hg, hv⟩ := s.ptr hx hH
  obtain ⟨cur, c1, c2, c3, c4, c5⟩ := ow.ok.blk g hg
  have hc3 : cs.length ≤ cur.size := c3
  obtain ⟨j, ht, hj⟩ : ∃ j, P.info? t = some j ∧ j.size ≠ 0 := by
    cases h : P.info? t with
    | none => rw [h] at htj; simp at htj
    | some j => rw [h] at htj; exact ⟨j, rfl, fun e => by rw [Option.any_some, e] at htj; simp at htj⟩
  refine ⟨a.eval x, w, ρ, s.ov hx, s, Ext.refl w, fun _ _ _ _ _ => ?_⟩
  have e1 : (convert T T' (a.eval x)).run P w = .ok (a.eval x) w := by
    rw [hv]
    exact Lib.run_to_unsafe w ⟨g, off, none⟩ hs hd ht hj (e := e) (cells := cur.size) (by simp [World.shape?, c1]) (by show off < cur.size; omega)
  exact run_v e1
theorem hy_ofu {T T' u e id ver off sz ce : Nat} {x : Operand} {cs : List V} (hs : P.underlying T = some .unsafePointer) (hd : P.underlying T' = some (.pointer u)) (huj : (P.info? u).isSome = true)
    (hx : ovO F x = some (.p id ver off)) (hH : H[id]? = some ⟨e, sz, ver, true, cs⟩) (hce : P.cellsOf e = ce) (hlies : ∀ c, liesAt P P.depth e (c + 1) off u 1 = true) (h0 : 0 < ce) (hle : ce ≤ cs.length) : HY P Γ (.convert T T' x) F H (.p id ver off) H := fun ρ a w s => by
  obtain ⟨re, g, ow, hg, hv⟩ := s.ptr hx hH
  obtain ⟨cur, c1, c2, c3, c4, c5⟩ := ow.ok.blk g hg
  have hc3 : cs.length ≤ cur.size := c3
  obtain ⟨j, hu⟩ := Option.isSome_iff_exists.1 huj
  refine ⟨a.eval x, w, ρ, s.ov hx, s, Ext.refl w, fun _ _ _ _ _ => ?_⟩
  have e1 : (convert T T' (a.eval x)).run P w = .ok (a.eval x) w := by
    rw [hv]
    have hq : 1 ≤ cur.size / ce := (Nat.le_div_iff_mul_le h0).2 (by omega)
    exact Lib.run_from_unsafe w ⟨g, off, none⟩ hs hd hu (e := e) (cells := cur.size) (by simp [World.shape?, c1]) (by rw [hce]; have := hlies (cur.size / ce - 1); rwa [Nat.sub_add_cancel hq] at this)
  exact run_v e1
theorem run_neqptr {T E : Nat} {j : TypeInfo} (hT : P.underlying T = some (.pointer E)) (hj : P.info? E = some j) (v : Addr) (w : World) : (binOp .neq T (.pointer (some v)) (.pointer (some v))).run P w = .ok (.bool false) w := by
  have h : ∀ d : Nat, (Op.equalIn (d + 1) T (.pointer (some v)) (.pointer (some v))).run P w = .ok true w := fun d => by
    simp [Op.equalIn, run_underlying hT, sizeOf, typeInfo, hj, run_sameAddr_same]
  simp only [binOp]
  simp [Op.equal, Op.maxDepth, h 9999]
theorem ly_nepp {x y : Operand} {T T' E id ver off t sz : Nat} {cs : List V} (hT : P.underlying T = some (.pointer E)) (hjs : (P.info? E).isSome = true) (hx : ovO F x = some (.p id ver off)) (hy : ovO F y = some (.p id ver off)) (hH : H[id]? = some ⟨t, sz, ver, true, cs⟩) : LY P Γ (.binOp .neq T x y T') F H (.b false) := fun ρ a w s => by
  obtain ⟨re, g, ow, hg, hv⟩ := s.ptr hx hH
  obtain ⟨re', g', ow', hg', hv'⟩ := s.ptr hy hH
  obtain ⟨j, hj⟩ := Option.isSome_iff_exists.1 hjs
  have e : re' = re := by have := ow'.at_.symm.trans ow.at_; injection this
  subst e
  have e2 : g' = g := by rw [hg] at hg'; injection hg' with h; exact h.symm
  subst e2
  refine ⟨.bool false, rfl, fun _ _ _ _ _ w' _ => ?_⟩
  have e1 : (do eqGuard .neq T x y (a.eval x) (a.eval y); binOp .neq T (a.eval x) (a.eval y) : Sem Value).run P w' = .ok (.bool false) w' := by
    rw [hv, hv', Sem.run_bind, run_eqgp]
    exact run_neqptr hT hj _ _
  exact run_v e1
/-- A function of the run-time that hands its argument back. -/
theorem hy_ext1 {f : FuncId} {fn : Func} {e : Array Value → Sem Value} {x : Operand} {ts : Array TypeId} {y : V} (hf : P.funcs[f]? = some fn) (hname : (fn.name == "runtime.NumGoroutine") = false)
    (hb : fn.body.isNone = true) (hn : Extern.findNext fn = none) (he : Extern.find fn = some e) (hrun : ∀ v w, (e #[v]).run P w = .ok v w) (hx : ovO F x = some y) :
    HY P Γ (.call { callee := .value (.func f), args := #[x], argTypes := ts }) F H y H := fun ρ a w s => by
  refine ⟨a.eval x, w, ρ, s.ov hx, s, Ext.refl w, fun _ _ _ _ _ => ?_⟩
  have e0 : a.eval (.func f) = .func (.func f) #[] #[] := rfl
  simp [execOp, resolve, e0, Deferred.ofValue, invoke]
  rw [run_callFunc_extern hf hname hb hn he]
  simp [hrun]
theorem sy_appG {T E sz m id ver len : Nat} {x y : Operand} {ts : Array TypeId} {zs cs : List V} (hx : ovO F x = some (.o id ver 0 len)) (hH : H[id]? = some ⟨E, sz, ver, true, cs⟩) (hcs : cs.length = len * sz) (hzl : zs.length = m * sz)
    (happ : ∀ ρ a w, StA Γ ρ F H a w → ∀ v xs, w.ownsRow 0 E sz v len xs → ∃ us v' w', (Builtin.append_ ts 0 #[v, a.eval y]).run P w = .ok v' w' ∧ w'.ownsRow 0 E sz v' (len + m) (xs ++ us) ∧ w.grownBy w' v.ownBlock ∧ (v'.ownBlock = v.ownBlock ∨ ∃ g, v'.ownBlock = some g ∧ w.heap.size ≤ g) ∧ (∀ u ∈ us, u.oneCell' = true) ∧ (∀ (j : Nat) (y : V), zs[j]? = some y → ∃ u, us[j]? = some u ∧ Rel w (Lset Γ.M ρ H) Γ.w0.heap.size ρ y u)) :
    ∀ ρ a w, StA Γ ρ F H a w → ∃ v w' ρ', Rel w' (Lset Γ.M ρ' (H.set id ⟨E, sz, ver + 1, true, cs ++ zs⟩)) Γ.w0.heap.size ρ' (.o id (ver + 1) 0 (len + m)) v ∧ StA Γ ρ' F (H.set id ⟨E, sz, ver + 1, true, cs ++ zs⟩) a w' ∧
      ∀ (dst : Option Tmp) (type : TypeId) (pos : String) (after : Array Edge) (g : Option (Nat × Bool)), (execOp a.eval ⟨dst, .call { callee := .builtin .append, args := #[x, y], argTypes := ts }, type, pos, after, g⟩).run P w = .ok (.value v) w' := fun ρ a w s => by
  obtain ⟨re, o⟩ := s.own hH rfl
  obtain ⟨re0, e1, hle, hp⟩ := s.ov hx
  obtain rfl : re0 = re := by have := e1.symm.trans o.at_; injection this
  obtain ⟨hcap, hq⟩ := hp (o.ok.ver.symm)
  have hszr : re0.sz = sz := o.ok.sz
  have hverr : re0.ver = ver := o.ok.ver
  -- the row as it stands
  have hrow : ∃ xs : List Value, w.ownsRow 0 E sz (a.eval x) len xs ∧ (∀ (j : Nat) (y : V), cs[j]? = some y → ∃ u, xs[j]? = some u ∧ u.oneCell' = true ∧ Rel w (Lset Γ.M ρ H) Γ.w0.heap.size ρ y u) ∧ (a.eval x).ownBlock = re0.g := by
    rcases hq with ⟨g, ad, hg, hv0, had⟩ | ⟨hg, hv0, _, hl0⟩
    · obtain ⟨cur, c1, c2, c3, c4, c5⟩ := o.ok.blk g hg
      have hc3 : cs.length ≤ cur.size := c3
      have hc2 : cur.size = re0.cap * sz := c2
      refine ⟨cur.toList.take (len * sz), ?_, ?_, ?_⟩
      · refine ⟨by simp; omega, ?_⟩
        exact .inr ⟨g, re0.cap, cur, by rw [hv0, had (by omega)]; simp, Nat.zero_le _, c1, by omega, c4, hc2, rfl⟩
      · intro j y hy
        obtain ⟨u, d1, d2, d3⟩ := c5 j y hy
        refine ⟨u, ?_, d2, d3⟩
        have hj : j < cs.length := (List.getElem?_eq_some_iff.1 hy).1
        rw [List.getElem?_take, if_pos (by omega)]; simpa using d1
      · rw [hv0, had (by omega), hg]; rfl
    · subst hl0
      have h0 : cs = [] := List.eq_nil_of_length_eq_zero (by simpa using hcs)
      subst h0
      exact ⟨[], by rw [hv0]; exact World.ownsRow_nil w 0 E sz, by simp, by rw [hv0, hg]; rfl⟩
  obtain ⟨xs, hown0, hxs, hblk⟩ := hrow
  obtain ⟨us, v', w', hrun, hown, hgr, hat, k2, k4⟩ := happ ρ a w s _ _ hown0
  obtain ⟨re', e1', e2, e3, e4, e5, e6, e7⟩ := row_entry hown (ver + 1)
  have hxl : xs.length = cs.length := by rw [hown0.1, hcs]
  rw [hblk] at hgr hat
  refine ⟨v', w', ρ.set id re', ⟨re', by rw [List.getElem?_set]; simp [(List.getElem?_eq_some_iff.1 o.at_).1], by omega, fun _ => ⟨by omega, e5⟩⟩,
    s.update (ob' := ⟨E, sz, ver + 1, true, cs ++ zs⟩) hH rfl o.at_ hgr rfl e1' e2 (by omega) (fun h => by omega) ?_ (fun h => ?_) (fun g hg => ?_), fun dst type pos after g => ?_⟩
  · rcases hat with h | h
    · exact .inl (by rw [e3, h])
    · obtain ⟨g, h, hg⟩ := h
      exact .inr ⟨g, by rw [e3, h], hg⟩
  · obtain ⟨f1, f2, _⟩ := e6 h
    refine ⟨List.eq_nil_of_length_eq_zero ?_, f2⟩
    show (cs ++ zs).length = 0
    rw [List.length_append, hcs, hzl, ← Nat.add_mul, f1, Nat.zero_mul]
  · obtain ⟨cur, f1, f2, f3, f4, f5⟩ := e7 g hg
    refine ⟨cur, f1, f2, by show (cs ++ zs).length ≤ _; rw [List.length_append, hcs, hzl, ← Nat.add_mul]; exact f4, f3, fun j y hy => ?_⟩
    have hy' : (cs ++ zs)[j]? = some y := hy
    rcases Nat.lt_or_ge j cs.length with hlt | hge
    · rw [List.getElem?_append_left hlt] at hy'
      obtain ⟨u, g1, g2, g3⟩ := hxs j y hy'
      exact ⟨u, f5 j u (by rw [List.getElem?_append_left (by omega)]; exact g1), g2, g3⟩
    · rw [List.getElem?_append_right hge] at hy'
      obtain ⟨u, g1, g2⟩ := k4 _ y hy'
      exact ⟨u, f5 j u (by rw [List.getElem?_append_right (by omega), hxl]; exact g1), k2 u (List.mem_of_getElem? g1), g2⟩
  · exact run_builtin (b := .append) (ts := ts) (T := type) (a := a) (args := #[x, y]) (vs := [a.eval x, a.eval y]) (by simp) (fun ts t as => Builtin.append_ ts t as) (fun _ _ => rfl) ((append_ty _ _ _ _).symm ▸ hrun) dst pos after g
/-- The bytes of a text. -/
def bytesI (s : ByteArray) : List Int := s.data.toList.map fun b => (b.toNat : Int)
theorem bytesI_len (s : ByteArray) : (bytesI s).length = s.size := by simp [bytesI]
theorem bytesI_app (s t : ByteArray) : bytesI (s ++ t) = bytesI s ++ bytesI t := by simp [bytesI, ByteArray.data_append]
/-- append of a text's bytes to an own row. -/
theorem sy_apps {T U E id ver len : Nat} {x y : Operand} {b : ByteArray} {l : List Int} (hT : elP P T E 1 1 (.int .u8 0)) (hU : P.underlying U = some .string) (hx : ovO F x = some (.o id ver 0 len)) (hH : H[id]? = some ⟨E, 1, ver, true, ints .u8 l⟩) (hcs : l.length = len) (hy : ovO F y = some (.s b))
    (hb : len + b.size ≤ 140737488355328) :
    ∀ ρ a w, StA Γ ρ F H a w → ∃ v w' ρ', Rel w' (Lset Γ.M ρ' (H.set id ⟨E, 1, ver + 1, true, ints .u8 l ++ ints .u8 (bytesI b)⟩)) Γ.w0.heap.size ρ' (.o id (ver + 1) 0 (len + b.size)) v ∧ StA Γ ρ' F (H.set id ⟨E, 1, ver + 1, true, ints .u8 l ++ ints .u8 (bytesI b)⟩) a w' ∧
      ∀ (dst : Option Tmp) (type : TypeId) (pos : String) (after : Array Edge) (g : Option (Nat × Bool)), (execOp a.eval ⟨dst, .call { callee := .builtin .append, args := #[x, y], argTypes := #[T, U] }, type, pos, after, g⟩).run P w = .ok (.value v) w' :=
  sy_appG (T := T) hx hH (by rw [ints_length, hcs, Nat.mul_one]) (by rw [ints_length, bytesI_len, Nat.mul_one]) fun ρ a w s v xs hown => by
    obtain ⟨i, hu, hi, hz, hs, hby, hzs, hpos⟩ := hT
    rw [eval_s s hy]
    have h63 : len + b.size ≤ maxLen := by unfold maxLen; omega
    obtain ⟨v', w', hrun, hown', hgr, hnil⟩ := Lib.run_append_own_string (P := P) w 0 T U 0 E i hu hU hi hz hs hby v len xs hown b h63 hb (Nat.zero_le _)
    refine ⟨Lib.strCells b, v', w', hrun, hown', hgr, ?_, Lib.strCells_oneCell b, fun j y hj => ?_⟩
    · rcases hown.2 with ⟨rfl, rfl⟩ | ⟨g, cap, cur, rfl, hbg, hg, hnc, hcm, hcs2, htake⟩
      · obtain ⟨v2, w2, hrun2, hown2, _, _⟩ := Lib.run_append_own_string (P := P) w w.heap.size T U 0 E i hu hU hi hz hs hby (.slice none 0 0) 0 xs ⟨hown.1, .inl ⟨rfl, rfl⟩⟩ b h63 hb (Nat.le_refl _)
        rw [hrun] at hrun2
        injection hrun2 with e1 e2
        subst e1
        rcases hown2.2 with ⟨h, _⟩ | ⟨g, cap, cur, h, hbg, _⟩
        · left; rw [h]
        · right; exact ⟨g, by rw [h]; rfl, hbg⟩
      · by_cases hroom : len + b.size ≤ cap
        · have hcs' : cur.size = cap := by simpa using hcs2
          have hr := Lib.run_append_room_string (P := P) w T U 0 E i hu hU hi hs g len cap cur hg b hroom (by omega)
          rw [hrun] at hr
          injection hr with e1 e2
          left; rw [e1]; rfl
        · have holds : ∀ j u, xs[j]? = some u → w.cell? ((⟨g, 0, none⟩ : Addr).add j) = some u := hown.cells (g := g) rfl
          have hr := Lib.run_append_grow_string (P := P) w T U 0 E i (.int .u8 0) hu hU hi hz ⟨g, 0, none⟩ len cap xs (by rw [hs]; simpa using hown.1) holds b (by omega) (by unfold maxLen at h63; omega) (by rw [hby]; exact growslice_fits (by omega) (by omega))
          rw [hrun] at hr
          injection hr with e1 e2
          right; exact ⟨w.heap.size, by rw [e1]; rfl, Nat.le_refl _⟩
    · rw [ints_at] at hj
      simp only [bytesI, List.getElem?_map] at hj
      cases hd : b.data.toList[j]? with
      | none => rw [hd] at hj; simp at hj
      | some c =>
        rw [hd] at hj
        simp at hj
        subst hj
        refine ⟨.int .u8 c.toNat, ?_, rfl⟩
        simp only [Lib.strCells, List.getElem?_map, hd, Option.map_some]
theorem jo_apps {ops : Array Oper} {rest : List Oper} {d T U E id ver len : Nat} {ty : TypeId} {ps : String} {af : Array Edge} {x y : Operand} {b : ByteArray} {l : List Int} (hT : elP P T E 1 1 (.int .u8 0)) (hU : P.underlying U = some .string) (hx : ovO F x = some (.o id ver 0 len)) (hH : H[id]? = some ⟨E, 1, ver, true, ints .u8 l⟩) (hcs : l.length = len) (hy : ovO F y = some (.s b))
    (hb : len + b.size ≤ 140737488355328) (hd : d < Γ.N) (j : JO P ops rest Γ ((d, .o id (ver + 1) 0 (len + b.size)) :: F) (H.set id ⟨E, 1, ver + 1, true, ints .u8 l ++ ints .u8 (bytesI b)⟩) Q) :
    JO P ops (⟨some d, .call { callee := .builtin .append, args := #[x, y], argTypes := #[T, U] }, ty, ps, af, none⟩ :: rest) Γ F H Q := fun a w ⟨ρ, s⟩ => by
  obtain ⟨v, w', ρ', r, s', hr⟩ := sy_apps hT hU hx hH hcs hy hb ρ a w s
  refine wpList_plain rfl fun K hK => ?_
  unfold Oper.wp
  rw [hr _ _ _ _ _]
  exact hK _ _ (j _ _ ⟨ρ', s'.put hd r⟩)
/-- What is said of an own object's cells, said otherwise. -/
theorem StA.recell {ρ : List Re} {a : Act} {w : World} (s : StA Γ ρ F H a w) {id t sz ver : Nat} {cs cs' : List V} (hH : H[id]? = some ⟨t, sz, ver, true, cs⟩) (hlen : cs'.length = cs.length)
    (h : ∀ (j : Nat) (y' : V), cs'[j]? = some y' → ∃ y, cs[j]? = some y ∧ ∀ u : Value, u.oneCell' = true → Rel w (Lset Γ.M ρ H) Γ.w0.heap.size ρ y u → Rel w (Lset Γ.M ρ H) Γ.w0.heap.size ρ y' u) : StA Γ ρ F (H.set id ⟨t, sz, ver, true, cs'⟩) a w := by
  have hlt : id < H.length := (List.getElem?_eq_some_iff.1 hH).1
  have look : ∀ (i : Nat) (o : Ob), (H.set id ⟨t, sz, ver, true, cs'⟩)[i]? = some o → ∃ o0, H[i]? = some o0 ∧ o0.live = o.live ∧ o0.ver = o.ver ∧ o0.sz = o.sz ∧ o0.t = o.t ∧ (i ≠ id → o0 = o) ∧ (i = id → o = ⟨t, sz, ver, true, cs'⟩ ∧ o0 = ⟨t, sz, ver, true, cs⟩) := by
    intro i o ho
    rcases set_some ho with ⟨rfl, rfl⟩ | ⟨hne, ho⟩
    · exact ⟨_, hH, rfl, rfl, rfl, rfl, fun h => absurd rfl h, fun _ => ⟨rfl, rfl⟩⟩
    · exact ⟨o, ho, rfl, rfl, rfl, rfl, fun _ => rfl, fun h => absurd h hne⟩
  have back : ∀ (i : Nat) (o : Ob), H[i]? = some o → ∃ o1, (H.set id ⟨t, sz, ver, true, cs'⟩)[i]? = some o1 ∧ o1.live = o.live := by
    intro i o ho
    by_cases e : id = i
    · subst e
      rw [hH] at ho; injection ho with ho; subst ho
      exact ⟨⟨t, sz, ver, true, cs'⟩, by rw [List.getElem?_set]; simp [hlt], rfl⟩
    · exact ⟨o, by rw [List.getElem?_set, if_neg e]; exact ho, rfl⟩
  have hL : Lset Γ.M ρ (H.set id ⟨t, sz, ver, true, cs'⟩) = Lset Γ.M ρ H := by
    funext b
    apply propext
    constructor
    · rintro (h | ⟨i, o, r, h1, h2, h3, h4⟩)
      · exact .inl h
      · obtain ⟨o0, k1, k2, _⟩ := look i o h1
        exact .inr ⟨i, o0, r, k1, by rw [k2]; exact h2, h3, h4⟩
    · rintro (h | ⟨i, o, r, h1, h2, h3, h4⟩)
      · exact .inl h
      · obtain ⟨o1, k1, k2⟩ := back i o h1
        exact .inr ⟨i, o1, r, k1, by rw [k2]; exact h2, h3, h4⟩
  refine ⟨⟨by simp [s.hr.len], fun i o h1 h2 => ?_, fun i j oi oj ri rj g hij h1 h2 h3 h4 => ?_, fun i o r g h1 h2 => ?_⟩, s.n, s.ds, fun t => by rw [hL]; exact s.fr t, ⟨s.fro.os, s.fro.tape, s.fro.output, s.fro.size, s.fro.blk, s.fro.old, fun i o r g h1 h2 => ?_, s.fro.rho⟩⟩
  · obtain ⟨o0, k1, k2, k3, k4, k5, k6, k7⟩ := look i o h1
    obtain ⟨r, h3, h4⟩ := s.hr.ob i o0 k1 (by rw [k2]; exact h2)
    by_cases e : i = id
    · obtain ⟨e1, e2⟩ := k7 e
      subst e1; subst e2
      refine ⟨r, h3, h4.ver, h4.sz, fun hg => ?_, fun g hg => ?_⟩
      · obtain ⟨f1, f2⟩ := h4.nob hg
        have f1' : cs = [] := f1
        exact ⟨List.eq_nil_of_length_eq_zero (by show cs'.length = 0; rw [hlen, f1']; rfl), f2⟩
      · obtain ⟨cur, c1, c2, c3, c4, c5⟩ := h4.blk g hg
        have c3' : cs.length ≤ cur.size := c3
        refine ⟨cur, c1, c2, by show cs'.length ≤ _; omega, c4, fun j y' hy' => ?_⟩
        obtain ⟨y, hy, hh⟩ := h j y' hy'
        obtain ⟨u, d1, d2, d3⟩ := c5 j y hy
        exact ⟨u, d1, d2, by rw [hL]; exact hh u d2 d3⟩
    · have e1 := k6 e
      subst e1
      rw [hL]
      exact ⟨r, h3, h4⟩
  · obtain ⟨o0, k1, k2, _⟩ := look i oi h1
    obtain ⟨o1, l1, l2, _⟩ := look j oj h3
    exact s.hr.apart i j o0 o1 ri rj g hij k1 (by rw [k2]; exact h2) l1 (by rw [l2]; exact h4)
  · obtain ⟨o0, k1, k2, _⟩ := look i o h1
    exact s.hr.foreign i o0 r g k1 (by rw [k2]; exact h2)
  · obtain ⟨o0, k1, k2, _⟩ := look i o h1
    exact s.fro.mine i o0 r g k1 (by rw [k2]; exact h2)
/-- A nil slice in a cell of an own object as an own row that is not born yet. -/
theorem jc_own0c {c : Code} {id t sz ver nid : Nat} {cs : List V} (j T sz2 : Nat) (hH : H[id]? = some ⟨t, sz, ver, true, cs⟩) (hj : cs[j]? = some (.c (.slice none 0 0))) (hid : H.length = nid)
    (k : JC P c Γ F ((H ++ [(⟨T, sz2, 0, true, []⟩ : Ob)]).set id (⟨t, sz, ver, true, cs.set j (.o nid 0 0 0)⟩ : Ob)) Q) : JC P c Γ F H Q := fun a w ⟨ρ, s⟩ => by
  have s' := s.born (re := ⟨none, 0, 0, sz2⟩) (ob := ⟨T, sz2, 0, true, []⟩) (w' := w) ⟨rfl, rfl, rfl, Nat.le_refl _, fun _ _ _ => rfl⟩ rfl rfl rfl (fun g h => by cases h) (fun _ => ⟨rfl, rfl⟩) (fun g h => by cases h)
  have hlt : id < H.length := (List.getElem?_eq_some_iff.1 hH).1
  have h2 := s'.recell (cs := cs) (cs' := cs.set j (.o nid 0 0 0)) (by rw [List.getElem?_append_left hlt]; exact hH) (by simp) ?_
  · exact k a w ⟨_, h2⟩
  intro i y' hy'
  rcases set_some hy' with ⟨rfl, rfl⟩ | ⟨hne, hy⟩
  · refine ⟨_, hj, fun u _ hu => ?_⟩
    have hu' : u = .slice none 0 0 := hu
    refine ⟨⟨none, 0, 0, sz2⟩, ?_, Nat.zero_le _, fun _ => ⟨Nat.le_refl _, .inr ⟨rfl, hu', rfl, rfl⟩⟩⟩
    rw [← hid, ← s.hr.len]
    simp
  · exact ⟨y', hy, fun u _ hu => hu⟩
end
theorem take2 (a b : Ob) (X : List Ob) : (a :: b :: X).take (X.length + 2) = a :: b :: X := by simp
theorem take2' (a b : Ob) (X L : List Ob) : (a :: b :: (X ++ L)).take (X.length + 2) = a :: b :: X := by simp
theorem look2 (a b c : Ob) (X : List Ob) : ((a :: b :: X) ++ [c])[X.length + 2]? = some c := by simp
end Go.Proofs.Ytcdipmjgpimmdaa.Vc
