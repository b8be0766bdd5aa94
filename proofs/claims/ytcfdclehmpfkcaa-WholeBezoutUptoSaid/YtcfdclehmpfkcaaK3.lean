/- The law WholeBezout of surdtop returns true for every two whole numbers of bulk at most 1048576 Texts joined: VcAE, VcAF, VcAG, VcAH, VcAI, VcAJ, Na, Nb, Nc, Nd, Ne, Nf, Ng, Nh, Ni, Nj, Ty, Tz, Tx, Tq, Tr, Oa, Nk, Nl, Nm, Nn, No. -/
import Derived.Test.YtcfdclehmpfkcaaK2
import Derived.Laws.IdiomStrings
import Derived.Laws.BytesArg
import Derived.Test.YtcfdclehmpfkcaaRows
set_option linter.unusedVariables false
set_option linter.unusedSimpArgs false
/- The calculus: append of one number to a slice of an own row, whether it has room or not; a row's bytes as a text. -/
namespace Go.Proofs.Ytcfdclehmpfkcaa.Vc
open Go Go.RowKit
section
variable {P : Program} {Γ : Ctx} {F : Fr} {H : List Ob} {Q : Exit → Fr → List Ob → Prop}
theorem jo_appI {ops : Array Oper} {rest : List Oper} {d T E bytes id ver len : Nat} {ty : TypeId} {ps : String} {af : Array Edge} {z : Value} {x y : Operand} {yy : V} {k : IntKind} {C : List Int} {v : Int} (hT : elP P T E 1 bytes z) (hx : ovO F x = some (.o id ver 0 len)) (hH : H[id]? = some ⟨E, 1, ver, true, ints k C⟩) (hle : len ≤ C.length) (hy : ovO F y = some yy) (hsrc : Src Γ H yy 1 1 (ints k [v]))
    (hb : (len + 1) * bytes ≤ 140737488355328) (h63 : len + 1 ≤ maxLen) (hd : d < Γ.N) (j : ∀ ver' C', len + 1 ≤ C'.length → C'.take (len + 1) = C.take len ++ [v] → JO P ops rest Γ ((d, .o id ver' 0 (len + 1)) :: F) (H.set id ⟨E, 1, ver', true, ints k C'⟩) Q) :
    JO P ops (⟨some d, .call { callee := .builtin .append, args := #[x, y], argTypes := #[T, T] }, ty, ps, af, none⟩ :: rest) Γ F H Q := by
  rcases Nat.lt_or_ge len C.length with hlt | hge
  · refine jo_appin hT hx hH hy hsrc (by decide) (by rw [ints_length]; omega) hd ?_
    rw [Nat.mul_one, show ints k [v] = [.i k v] from rfl, setV_ints]
    refine j ver (C.set len v) (by rw [List.length_set]; omega) ?_
    rw [List.take_add_one, List.take_set_of_le (Nat.le_refl _), List.getElem?_set_self hlt]
    rfl
  · refine jo_app hT hx hH (by rw [ints_length]; omega) hy hsrc hb h63 hd ?_
    rw [ints_append]
    refine j (ver + 1) (C ++ [v]) (by rw [List.length_append]; simp; omega) ?_
    rw [List.take_of_length_le (by rw [List.length_append]; simp; omega), List.take_of_length_le hge]
/-- A closure out of memory that nobody writes. -/
theorem ly_ldqf {T : TypeId} {x : Operand} {y : V} {ys : List V} (hT : oneB P T = true) (hx : ovO F x = some (.q (y :: ys))) (hz : noFr y = true) : LY P Γ (.load T x) F H y := fun ρ a w s => by
  obtain ⟨ad, hv, _, ⟨u, hc, hr⟩, _⟩ := s.ov hx
  refine ⟨u, rel_in (Nat.le_refl _) _ _ (rel_B _ _ hz hr), fun _ _ _ _ _ w' hw' => ?_⟩
  have e : (Instr.loadAt T (a.eval x)).run P w' = .ok u w' := by rw [hv]; exact run_loadAt_one hT (hw' _ _ (by simpa [Addr.add] using hc))
  exact run_v e
/-- The rows that a cell holds are written no more. -/
theorem jc_frzrc {c : Code} (i : Nat) {idB tB szB verB id ver len T sz : Nat} {csB cs : List V} (rows : List (List V)) (hB : (deadAt H id)[idB]? = some ⟨tB, szB, verB, true, csB⟩) (hi : csB[i]? = some (.o id ver 0 len)) (hH : H[id]? = some ⟨T, sz, ver, true, cs⟩) (hcs : cs = rows.flatten) (hlen : rows.length = len) (hsz : ∀ r ∈ rows, r.length = sz)
    (hpu : ∀ r ∈ rows, r.all pureV = true) (h0 : 0 < sz) (hp : ∀ b, ¬ Γ.L0 b) (j : JC P c Γ F ((deadAt H id).set idB ⟨tB, szB, verB, true, csB.set i (.l true sz rows)⟩) Q) : JC P c Γ F H Q := fun a w ⟨ρ, s⟩ => by
  have h2 := (s.dead id).recell (cs := csB) (cs' := csB.set i (.l true sz rows)) hB (by simp) ?_
  · exact j a w ⟨_, h2⟩
  intro k y' hy'
  rcases set_some hy' with ⟨rfl, rfl⟩ | ⟨hne, hy⟩
  · exact ⟨_, hi, fun u _ hu => s.frozenR hH hu hcs hlen hsz hpu h0 hp⟩
  · exact ⟨y', hy, fun u _ hu => hu⟩
/-- append to an own row, in a region that draws. -/
theorem js_app {ops : Array Oper} {d T E sz bytes m id ver len : Nat} {ty : TypeId} {ps : String} {af : Array Edge} {z : Value} {x y : Operand} {yy : V} {zs cs : List V} {R : Fr → List Ob → Prop} (hT : elP P T E sz bytes z) (hx : ovO F x = some (.o id ver 0 len)) (hH : H[id]? = some ⟨E, sz, ver, true, cs⟩) (hcs : cs.length = len * sz) (hy : ovO F y = some yy) (hsrc : Src Γ H yy sz m zs)
    (hb : (len + m) * bytes ≤ 140737488355328) (h63 : len + m ≤ maxLen) (hd : d < Γ.N) (hm : mildB ⟨some d, .call { callee := .builtin .append, args := #[x, y], argTypes := #[T, T] }, ty, ps, af, none⟩ = false) (k : R ((d, .o id (ver + 1) 0 (len + m)) :: F) (H.set id ⟨E, sz, ver + 1, true, cs ++ zs⟩)) :
    JS P ops Γ ⟨some d, .call { callee := .builtin .append, args := #[x, y], argTypes := #[T, T] }, ty, ps, af, none⟩ F H Q R := fun a w ⟨ρ, s⟩ => by
  obtain ⟨v, w', ρ', r, s', hr⟩ := sy_app hT hx hH hcs hy hsrc hb h63 ρ a w s
  refine ⟨rfl, ?_⟩
  unfold Oper.wp
  rw [hr _ _ _ _ _]
  exact ⟨fun e => by rw [hm] at e; simp at e, _, _, k, ρ', s'.put hd r⟩
/-- A part of an own row of whole numbers, as what is appended. -/
theorem src_oo {id ver off len t : Nat} {k : IntKind} {C : List Int} (hH : H[id]? = some ⟨t, 1, ver, true, ints k C⟩) (hle : off + len ≤ C.length) : Src Γ H (.o id ver off len) 1 len (ints k ((C.drop off).take len)) :=
  ⟨by rw [ints_length, List.length_take, List.length_drop]; omega, fun ρ F a w s v r => by
    obtain ⟨re, o⟩ := s.own hH rfl
    obtain ⟨re', e1, hle', hp⟩ := r
    obtain rfl : re' = re := by have := e1.symm.trans o.at_; injection this
    obtain ⟨hcap, ⟨g, ad, hg, hv, had⟩ | ⟨hg, hv, ho, hl⟩⟩ := hp (o.ok.ver.symm)
    · obtain ⟨cur, c1, c2, c3, c4, c5⟩ := o.ok.blk g hg
      have key : ∀ j, j < len → ∃ x, C[off + j]? = some x ∧ w.cell? (ad.add j) = some (.int k x) := fun j hj => by
        have hlt : off + j < C.length := by omega
        have h1 : (ints k C)[off + j]? = some (.i k C[off + j]) := by rw [ints_at, List.getElem?_eq_getElem hlt]; rfl
        obtain ⟨u, d1, d2, d3⟩ := o.cell hg h1
        have hz : re'.sz = 1 := o.ok.sz
        rw [had (.inl (by rw [ints_length] at c3; have : cur.size = re'.cap * 1 := c2; omega)), hz, addr_add_plain, Nat.mul_one, d1]
        exact ⟨C[off + j], List.getElem?_eq_getElem hlt, by rw [show u = .int k C[off + j] from d3]⟩
      refine ⟨some ad, re'.cap - off, ((C.drop off).take len).map (Value.int k), hv, by rw [List.length_map, List.length_take, List.length_drop]; omega, by intro u hu; obtain ⟨x, _, rfl⟩ := List.mem_map.1 hu; rfl, fun _ => ⟨ad, rfl, fun j u hu => ?_⟩, fun j z hz => ?_⟩
      · rw [List.getElem?_map, List.getElem?_take] at hu
        by_cases hj : j < len
        · rw [if_pos hj, List.getElem?_drop] at hu
          obtain ⟨x, hx1, hx2⟩ := key j hj
          rw [hx1] at hu
          injection hu with hu
          rw [← hu]; exact hx2
        · rw [if_neg hj] at hu; cases hu
      · rw [ints_at] at hz
        rw [List.getElem?_map]
        cases hx : ((C.drop off).take len)[j]? with
        | none => rw [hx] at hz; cases hz
        | some x => rw [hx] at hz; injection hz with hz; exact ⟨_, rfl, by rw [← hz]; rfl⟩
    · subst ho; subst hl
      exact ⟨none, 0, [], hv, by simp, by simp, by simp, fun j z hz => by simp [ints] at hz⟩⟩
/-- The version of what is handed over begins anew. -/
theorem SpecM.ver0 {f : FuncId} {args : List V} {T sz len : Nat} {cs : List V} (hcs : cs.all (idB 0) = true) (h : SpecM P f args [] (fun o G => ∃ ver, o = .ret (.o 0 ver 0 len) ∧ G = [⟨T, sz, ver, true, cs⟩])) : SpecM P f args [] (fun o G => o = .ret (.o 0 0 0 len) ∧ G = [⟨T, sz, 0, true, cs⟩]) :=
  fun M w ρ vals h1 h2 h3 => (h M w ρ vals h1 h2 h3).mono fun e w' ⟨o, H', ρ', ⟨ver, ho, hH⟩, r1, r2, r3, r4, r5, ev, r8, r9⟩ => by
    subst ho; subst hH
    obtain ⟨re, rfl⟩ : ∃ re, ρ' = [re] := by
      have hl := r2.len
      match ρ', hl with
      | [re], _ => exact ⟨re, rfl⟩
    obtain ⟨re', k1, k2⟩ := r2.ob 0 _ rfl rfl
    obtain rfl : re = re' := by simpa using k1
    have hρ : ρ = [] := by
      have := h2.len
      simpa using this
    have hL : ∀ b, Lset M [{ re with ver := 0 }] [(⟨T, sz, 0, true, cs⟩ : Ob)] b ↔ Lset M [re] [(⟨T, sz, ver, true, cs⟩ : Ob)] b := fun b => by
      constructor
      · rintro (h | ⟨i, ob, r, m1, m2, m3, m4⟩)
        · exact .inl h
        · cases i with
          | zero => simp at m3; subst m3; exact .inr ⟨0, _, re, rfl, rfl, rfl, m4⟩
          | succ i => simp at m1
      · rintro (h | ⟨i, ob, r, m1, m2, m3, m4⟩)
        · exact .inl h
        · cases i with
          | zero => simp at m3; subst m3; exact .inr ⟨0, _, { re with ver := 0 }, rfl, rfl, rfl, m4⟩
          | succ i => simp at m1
    have hLe : Lset M [{ re with ver := 0 }] [(⟨T, sz, 0, true, cs⟩ : Ob)] = Lset M [re] [(⟨T, sz, ver, true, cs⟩ : Ob)] := funext fun b => propext (hL b)
    obtain ⟨v, rfl, re2, e1, e2, e3⟩ := r1
    obtain rfl : re = re2 := by simpa using e1
    refine ⟨_, _, [{ re with ver := 0 }], ⟨rfl, rfl⟩, ⟨v, rfl, { re with ver := 0 }, rfl, Nat.le_refl _, fun _ => e3 k2.ver.symm⟩, ⟨rfl, fun i ob m1 m2 => ?_, fun i j oi oj ri rj g hij m1 m2 m3 => ?_, fun i ob r g m1 m2 m3 m4 => ?_⟩, r3, r4, r5, ⟨ev.size, ev.blk, fun b hb hn => by rw [hLe]; exact ev.lv b hb hn, ev.bb, fun i r hi => by rw [hρ] at hi; simp at hi⟩, fun i ob r g m1 m2 m3 m4 => ?_, r9⟩
    · cases i with
      | zero =>
        simp at m1; subst m1
        refine ⟨_, rfl, rfl, k2.sz, k2.nob, fun g hg => ?_⟩
        obtain ⟨cur, c1, c2, c3, c4, c5⟩ := k2.blk g hg
        refine ⟨cur, c1, c2, c3, c4, fun j y hy => ?_⟩
        obtain ⟨u, d1, d2, d3⟩ := c5 j y hy
        refine ⟨u, d1, d2, ?_⟩
        have hcut := d3.cut (n := 0) y u (List.all_eq_true.1 hcs y (List.mem_of_getElem? hy))
        rw [hLe]
        exact rel_in (Nat.le_refl _) y u hcut
      | succ i => simp at m1
    · cases i with
      | zero =>
        cases j with
        | zero => exact absurd rfl hij
        | succ j => simp at m3
      | succ i => simp at m1
    · cases i with
      | zero => simp at m1 m3; subst m1; subst m3; exact r2.foreign 0 _ re g rfl rfl rfl m4
      | succ i => simp at m1
    · cases i with
      | zero => simp at m1 m3; subst m1; subst m3; exact r8 0 _ re g rfl rfl rfl m4
      | succ i => simp at m1
end
end Go.Proofs.Ytcfdclehmpfkcaa.Vc

/- The calculus: a row's bytes as a text. -/
namespace Go.Proofs.Ytcfdclehmpfkcaa.Vc
open Go Go.RowKit
section
variable {P : Program} {Γ : Ctx} {F : Fr} {H : List Ob} {Q : Exit → Fr → List Ob → Prop}
theorem ly_b2s {T E T' : TypeId} {x : Operand} {fr : Bool} {s : ByteArray} (hT : P.underlying T = some (.slice E)) (hE : P.underlying E = some (.int .u8)) (hD : P.underlying T' = some .string) (hx : ovO F x = some (.n fr .u8 (bytesI s))) : LY P Γ (.convert T T' x) F H (.s s) := fun ρ a w st => by
  obtain ⟨A, c, hv, h1, h2, h3⟩ := st.ov hx
  refine ⟨.string s, rfl, fun _ _ _ _ _ w' hw' => ?_⟩
  have e : (convert T T' (a.eval x)).run P w' = .ok (.string s) w' := by
    rw [hv, bytesI_len]
    cases A with
    | none =>
      have hn : bytesI s = [] := by
        cases hb : bytesI s with
        | nil => rfl
        | cons y ys =>
          obtain ⟨ad, e1, _⟩ := h3 (by rw [hb]; simp)
          cases e1
      have hs : s = ByteArray.empty := by
        apply ByteArray.ext
        apply Array.toList_inj.1
        have : s.data.toList = [] := by
          unfold bytesI at hn
          exact List.map_eq_nil_iff.1 hn
        rw [this]; rfl
      rw [Go.run_convert_bytes_nil (P := P) w' T E hT hE _ _ T' hD, hs]
    | some ad =>
      have h4 := Go.run_convert_bytes_back (P := P) w' T T' E ad c s.data.toList hT hE hD (fun j hj => by
        have hj' : (bytesI s)[j]? = some (((s.data.toList[j]).toNat : Nat) : Int) := by
          unfold bytesI
          rw [List.getElem?_map, List.getElem?_eq_getElem hj]; rfl
        obtain ⟨ad2, e1, hb, hc⟩ := h3 (by intro e; rw [e] at hj'; simp at hj')
        injection e1 with e1; subst e1
        exact hw' _ _ (hc j _ hj'))
      have hsz : s.data.toList.length = s.size := by simp
      rw [hsz] at h4
      exact h4
  exact run_v e
end
end Go.Proofs.Ytcfdclehmpfkcaa.Vc

/- The calculus: functions that share a map: what all its entries are; calls that may add to it. -/
namespace Go.Proofs.Ytcfdclehmpfkcaa.Vc
open Go Go.RowKit
/-- A map of whole numbers: what stands at n is c n. -/
def GoodM (M : Nat → Prop) (c : Nat → V) (g : Nat) (w : World) : Prop :=
  ∃ es ck, w.heap[g]? = some (.map es ck) ∧ ∀ e ∈ es.toList, ∃ n : Nat, e.key = .int .i64 (n : Int) ∧ Rel w M 0 [] (c n) e.val
theorem GoodM.ev {M : Nat → Prop} {c : Nat → V} {g : Nat} {w w' : World} (h : GoodM M c g w) (hg : w'.heap[g]? = w.heap[g]?) (hs : w.heap.size ≤ w'.heap.size) (hb : ∀ b, b < w.heap.size → ¬ M b → w'.heap[b]? = w.heap[b]?) : GoodM M c g w' := by
  obtain ⟨es, ck, h1, h2⟩ := h
  refine ⟨es, ck, hg.trans h1, fun e he => ?_⟩
  obtain ⟨n, h3, h4⟩ := h2 e he
  exact ⟨n, h3, h4.ev ⟨hs, hb, fun _ _ h => h, Nat.le_refl _, fun i r h => by simp at h⟩⟩
structure CtxM (Γ : Ctx) (g : Nat) : Prop where
  m : Γ.M g
  l0 : ∀ b, Γ.L0 b ↔ b = g
  lt : g < Γ.w0.heap.size
  rho : Γ.ρ0 = []
/-- A contract of a function that knows the map. -/
def SpecX (P : Program) (f : FuncId) (args : List V) (c : Nat → V) (g : Nat) (post : Out → Prop) : Prop :=
  ∀ (M : Nat → Prop) (w : World) (vals : List Value), (∀ b, M b → b < w.heap.size) → M g → GoodM M c g w → RelL w M w.heap.size [] args vals →
    Calls P f vals.toArray w fun e w' => ∃ o, post o ∧ EndRel w' M w.heap.size o e ∧ GoodM M c g w' ∧ w'.os = w.os ∧ w'.tape = w.tape ∧ w'.output = w.output ∧ w.heap.size ≤ w'.heap.size ∧ ∀ b, b < w.heap.size → b ≠ g → w'.heap[b]? = w.heap[b]?
theorem SpecX.mono {P : Program} {f : FuncId} {args : List V} {c : Nat → V} {g : Nat} {post post' : Out → Prop} (h : SpecX P f args c g post) (hp : ∀ o, post o → post' o) : SpecX P f args c g post' :=
  fun M w vals h1 h2 h3 h4 => (h M w vals h1 h2 h3 h4).mono fun e w' ⟨o, k1, k2⟩ => ⟨o, hp o k1, k2⟩
section
variable {P : Program} {Γ : Ctx} {c : Nat → V} {g : Nat} {F : Fr} {𝒬 : Exit → Act → World → Prop}
def JCM (P : Program) (x : Code) (Γ : Ctx) (c : Nat → V) (g : Nat) (F : Fr) (𝒬 : Exit → Act → World → Prop) : Prop := ∀ a w, StA Γ [] F [] a w → GoodM Γ.M c g w → x.wp P 𝒬 a w
def JOM (P : Program) (ops : Array Oper) (l : List Oper) (Γ : Ctx) (c : Nat → V) (g : Nat) (F : Fr) (𝒬 : Exit → Act → World → Prop) : Prop := ∀ a w, StA Γ [] F [] a w → GoodM Γ.M c g w → wpList P ops 𝒬 l a w
def JAM (P : Program) (ops : Array Oper) (fuel : Nat) (listed : Array Bool) (Γ : Ctx) (c : Nat → V) (g : Nat) (F : Fr) (𝒬 : Exit → Act → World → Prop) : Prop := ∀ a w, StA Γ [] F [] a w → GoodM Γ.M c g w → wpAnyX P ops 𝒬 fuel listed a w
/-! ### Regions that draw -/
/-! ### The contract from its body; the map begun -/
def qRetX (P : Program) (fn : Func) (Γ : Ctx) (c : Nat → V) (g : Nat) (post : Out → Prop) : Exit → Act → World → Prop
  | .ret, a, w | .normal, a, w => ∃ F ys, StA Γ [] F [] a w ∧ GoodM Γ.M c g w ∧ ResL P F [] fn.results.toList ys ∧ post (.ret (packV ys))
  | _, _, _ => False
/-! ### Looking up, entering -/
end
end Go.Proofs.Ytcfdclehmpfkcaa.Vc

/- The calculus: from functions that share a map into code that does not know it, and back; contracts made weaker. -/
namespace Go.Proofs.Ytcfdclehmpfkcaa.Vc
open Go Go.RowKit
section
variable {P : Program} {Γ : Ctx} {c : Nat → V} {g : Nat} {F : Fr} {H : List Ob} {𝒬 : Exit → Act → World → Prop}
/-- As 'JC', whatever is asked behind the code. -/
def JCP (P : Program) (x : Code) (Γ : Ctx) (F : Fr) (H : List Ob) (𝒬 : Exit → Act → World → Prop) : Prop := ∀ a w, St Γ F H a w → x.wp P 𝒬 a w
def QS (Γ : Ctx) (𝒬 : Exit → Act → World → Prop) : Exit → Fr → List Ob → Prop := fun e F' H' => ∀ a w, St Γ F' H' a w → 𝒬 e a w
end
theorem Spec.weak {P : Program} {f : FuncId} {args : List V} {post post' : Out → Prop} (h : Spec P f args post) (hw : ∀ o, post o → ∃ o', post' o' ∧ ∀ (w : World) (M : Nat → Prop) (B : Nat) (e : Ending), EndRel w M B o e → EndRel w M B o' e) : Spec P f args post' := fun M w vals h1 h2 =>
  (h M w vals h1 h2).mono fun e w' ⟨o, k1, k2, k3⟩ => by
    obtain ⟨o', q1, q2⟩ := hw o k1
    exact ⟨o', q1, q2 _ _ _ _ k2, k3⟩
theorem end_nn {w : World} {M : Nat → Prop} {B : Nat} {e : Ending} {fr : Bool} {k : IntKind} {l : List Int} (h : EndRel w M B (.ret (.n fr k l)) e) : EndRel w M B (.ret (.n false k l)) e := by
  obtain ⟨v, h1, A, c, e, h3, h4, h5⟩ := h
  exact ⟨v, h1, A, c, e, h3, h4, fun hl => by obtain ⟨ad, e1, hb, hc⟩ := h5 hl; exact ⟨ad, e1, ⟨hb.1, hb.2.1, by simp⟩, hc⟩⟩
theorem end_nnT {w : World} {M : Nat → Prop} {B : Nat} {e : Ending} {fr : Bool} {k : IntKind} {l : List Int} {ys : List V} (h : EndRel w M B (.ret (.t (.n fr k l :: ys))) e) : EndRel w M B (.ret (.t (.n false k l :: ys))) e := by
  obtain ⟨v, h1, us, h2, u, us', h3, ⟨A, c, e, h6, h4, h5⟩, h7⟩ := h
  exact ⟨v, h1, us, h2, u, us', h3, ⟨A, c, e, h6, h4, fun hl => by obtain ⟨ad, e1, hb, hc⟩ := h5 hl; exact ⟨ad, e1, ⟨hb.1, hb.2.1, by simp⟩, hc⟩⟩, h7⟩
theorem Spec.nn {P : Program} {f : FuncId} {args : List V} {fr : Bool} {k : IntKind} {l : List Int} (h : Spec P f args (fun o => o = .ret (.n fr k l))) : Spec P f args (fun o => o = .ret (.n false k l)) :=
  h.weak fun o ho => by subst ho; exact ⟨_, rfl, fun _ _ _ _ h => end_nn h⟩
end Go.Proofs.Ytcfdclehmpfkcaa.Vc

/- The calculus: functions that share a map and hand own rows back. -/
namespace Go.Proofs.Ytcfdclehmpfkcaa.Vc
open Go Go.RowKit
section
variable {P : Program} {Γ : Ctx} {c : Nat → V} {g : Nat} {F : Fr} {H : List Ob} {𝒬 : Exit → Act → World → Prop}
/-- A contract of a function that knows the map and hands own rows back. -/
def SpecXN (P : Program) (f : FuncId) (args : List V) (c : Nat → V) (g : Nat) (post : Out → List Ob → Prop) : Prop :=
  ∀ (M : Nat → Prop) (w : World) (vals : List Value), (∀ b, M b → b < w.heap.size) → M g → GoodM M c g w → RelL w M w.heap.size [] args vals →
    Calls P f vals.toArray w fun e w' => ∃ o H' ρ', post o H' ∧ EndRelM w' (Lset M ρ' H') w.heap.size ρ' o e ∧ HR M w' w.heap.size ρ' H' ∧ w'.os = w.os ∧ w'.tape = w.tape ∧ w'.output = w.output ∧ w.heap.size ≤ w'.heap.size ∧
      (∀ (id : Nat) (ob : Ob) (re : Re) (gg : Nat), H'[id]? = some ob → ob.live = true → ρ'[id]? = some re → re.g = some gg → w.heap.size ≤ gg) ∧ (∀ b, b < w.heap.size → b ≠ g → w'.heap[b]? = w.heap[b]?)
def qRetXN (P : Program) (fn : Func) (Γ : Ctx) (post : Out → List Ob → Prop) : Exit → Act → World → Prop
  | .ret, a, w => ∃ F H ρ sel ys y, StA Γ ρ F H a w ∧ ResL P F H fn.results.toList ys ∧ ren sel y = packV ys ∧ idB sel.length y = true ∧ sel.Nodup ∧ idless (selL noOb sel H) ∧ post (.ret y) (selL noOb sel H)
  | _, _, _ => False
/-! ### An own row made shorter -/
end
end Go.Proofs.Ytcfdclehmpfkcaa.Vc

/- The calculus: rows of rows frozen within a region. -/
namespace Go.Proofs.Ytcfdclehmpfkcaa.Vc
open Go Go.RowKit
section
variable {P : Program} {Γ : Ctx} {F : Fr} {H : List Ob} {Q : Exit → Fr → List Ob → Prop}
theorem jo_frzr {ops : Array Oper} {rest : List Oper} (t : Nat) {id ver len T sz : Nat} {cs : List V} (rows : List (List V)) (hx : getO F t = some (.o id ver 0 len)) (hH : H[id]? = some ⟨T, sz, ver, true, cs⟩) (hcs : cs = rows.flatten) (hlen : rows.length = len) (hsz : ∀ r ∈ rows, r.length = sz) (hpu : ∀ r ∈ rows, r.all pureV = true) (h0 : 0 < sz) (hp : ∀ b, ¬ Γ.L0 b)
    (j : JO P ops rest Γ ((t, .l true sz rows) :: F) (deadAt H id) Q) : JO P ops rest Γ F H Q := fun a w ⟨ρ, s⟩ =>
  j a w ⟨ρ, s.frz id t hx fun v r => s.frozenR hH r hcs hlen hsz hpu h0 hp⟩
end
/-- Rows of limbs as cells. -/
def rowsV (rows : List (List Int)) : List (List V) := rows.map fun l => [V.n false .u64 l]
theorem rowsV_at {rows : List (List Int)} {i : Nat} (h : i < rows.length) : (rowsV rows)[i]? = some [V.n false .u64 (rows.getD i [])] := by
  unfold rowsV
  rw [List.getElem?_map, List.getElem?_eq_getElem h, List.getD_eq_getElem?_getD, List.getElem?_eq_getElem h]
  rfl
theorem rowsV_len {rows : List (List Int)} : (rowsV rows).length = rows.length := by unfold rowsV; simp
end Go.Proofs.Ytcfdclehmpfkcaa.Vc

/- What the functions over limbs compute, in plain Lean. -/
namespace Go.Proofs.Ytcfdclehmpfkcaa.Vc
open Go Go.RowKit

/-- How many of the first k limbs stay, without noughts at the top. -/
def tN (l : List Int) : Nat → Nat
  | 0 => 0
  | k + 1 => if l.getD k 0 = 0 then tN l k else k + 1
def trm (l : List Int) : List Int := l.take (tN l l.length)
theorem tN_le (l : List Int) : ∀ k, tN l k ≤ k
  | 0 => Nat.le_refl _
  | k + 1 => by simp only [tN]; split <;> have := tN_le l k <;> omega
theorem tN_down {l : List Int} {k : Nat} (h0 : 0 < k) (h : l.getD (k - 1) 0 = 0) : tN l (k - 1) = tN l k := by
  obtain ⟨j, rfl⟩ : ∃ j, k = j + 1 := ⟨k - 1, by omega⟩
  simp only [Nat.add_sub_cancel] at h ⊢
  simp only [tN]
  rw [if_pos h]
theorem tN_stop {l : List Int} {k : Nat} (h0 : 0 < k) (h : ¬ l.getD (k - 1) 0 = 0) : tN l k = k := by
  obtain ⟨j, rfl⟩ : ∃ j, k = j + 1 := ⟨k - 1, by omega⟩
  simp only [Nat.add_sub_cancel] at h
  simp only [tN]
  rw [if_neg h]
theorem tN_0 {l : List Int} {k : Nat} (h : ¬ 0 < k) : tN l k = k := by
  have : k = 0 := by omega
  subst this; rfl
theorem trm_len (l : List Int) : (trm l).length ≤ l.length := by unfold trm; rw [List.length_take]; omega
theorem getD_take {l : List Int} {k i : Nat} (h : i < k) : (l.take k).getD i 0 = l.getD i 0 := by
  rw [List.getD_eq_getElem?_getD, List.getD_eq_getElem?_getD, List.getElem?_take, if_pos h]
def u64s (l : List Int) : Prop := ∀ x ∈ l, 0 ≤ x ∧ x < 18446744073709551616
theorem u64s_trm {l : List Int} (h : u64s l) : u64s (trm l) := fun x hx => h x (List.mem_of_mem_take hx)
theorem u64s_at {l : List Int} (h : u64s l) {i : Nat} (hi : i < l.length) : 0 ≤ l.getD i 0 ∧ l.getD i 0 < 18446744073709551616 := by
  rw [List.getD_eq_getElem?_getD, List.getElem?_eq_getElem hi]; exact h _ (List.getElem_mem hi)
theorem u64s_getD {l : List Int} (h : u64s l) (i : Nat) : 0 ≤ l.getD i 0 ∧ l.getD i 0 < 18446744073709551616 := by
  by_cases hi : i < l.length
  · exact u64s_at h hi
  · rw [List.getD_eq_getElem?_getD, List.getElem?_eq_none (by omega)]; exact ⟨by decide, by decide⟩
/-- How many binary digits, with fuel. -/
def bl : Nat → Nat → Nat
  | 0, _ => 0
  | f + 1, n => if n = 0 then 0 else 1 + bl f (n / 2)
theorem bl_le : ∀ f n, bl f n ≤ f
  | 0, _ => Nat.le_refl _
  | f + 1, n => by simp only [bl]; split <;> have := bl_le f (n / 2) <;> omega
theorem bl_fuel : ∀ (f d n : Nat), n < 2 ^ f → bl (f + d) n = bl f n
  | 0, d, n, h => by
    have : n = 0 := by simpa using h
    subst this
    cases d <;> simp [bl]
  | f + 1, d, n, h => by
    rw [show f + 1 + d = (f + d) + 1 by omega]
    simp only [bl]
    split
    · rfl
    · rw [bl_fuel f d (n / 2) (by rw [Nat.pow_succ] at h; omega)]
theorem bl_shift : ∀ (k f n : Nat), 2 ^ k ≤ n → bl (k + f) n = k + bl f (n / 2 ^ k)
  | 0, f, n, _ => by simp
  | k + 1, f, n, h => by
    have h2 : 2 ^ (k + 1) = 2 ^ k * 2 := Nat.pow_succ ..
    have hp : 0 < 2 ^ k := Nat.two_pow_pos k
    rw [show k + 1 + f = (k + f) + 1 by omega]
    simp only [bl]
    rw [if_neg (by omega), bl_shift k f (n / 2) (by omega), h2, Nat.mul_comm, ← Nat.div_div_eq_div_mul]
    omega
theorem bl64_shift {k n : Nat} (hk : k ≤ 64) (h : 2 ^ k ≤ n) (hn : n < 2 ^ 64) : bl 64 n = k + bl 64 (n / 2 ^ k) := by
  have h1 := bl_shift k (64 - k) n h
  rw [show k + (64 - k) = 64 by omega] at h1
  rw [h1]
  have h2 : n / 2 ^ k < 2 ^ (64 - k) := by
    rw [Nat.div_lt_iff_lt_mul (Nat.two_pow_pos k), ← Nat.pow_add, show 64 - k + k = 64 by omega]; exact hn
  have h3 := bl_fuel (64 - k) k _ h2
  rw [show 64 - k + k = 64 by omega] at h3
  rw [h3]
def lenTab : ByteArray := ⟨((List.range 256).map fun i => (bl 8 i).toUInt8).toArray⟩
theorem lenTab_at {i : Nat} (h : i < 256) : byteAt lenTab i = (bl 64 i : Int) := by
  have key : ∀ j : Fin 256, byteAt lenTab j.val = (bl 64 j.val : Int) := by decide +kernel
  exact key ⟨i, h⟩
theorem shr_nat {n k b : Nat} {kk : Int} (h : 2 ^ min kk.toNat b = k) : ((n : Int)).fdiv (2 ^ min kk.toNat b) = ((n / k : Nat) : Int) := by
  have : ((2 : Int) ^ min kk.toNat b) = ((k : Nat) : Int) := by rw [← h]; norm_cast
  rw [this]
  exact (Int.ofNat_fdiv n k).symm
/-- How many binary digits a number has. -/
def lenN (l : List Int) : Nat := if (trm l).length = 0 then 0 else 64 * ((trm l).length - 1) + bl 64 ((trm l).getD ((trm l).length - 1) 0).toNat
theorem lenN_le (l : List Int) : lenN l ≤ 64 * l.length := by
  unfold lenN
  have h1 := trm_len l
  split
  · omega
  · have := bl_le 64 ((trm l).getD ((trm l).length - 1) 0).toNat
    omega
/-- Which is greater, of the first k limbs. -/
def cmpN (a b : List Int) : Nat → Int
  | 0 => 0
  | k + 1 => if a.getD k 0 < b.getD k 0 then -1 else if b.getD k 0 < a.getD k 0 then 1 else cmpN a b k
def cmpL (a b : List Int) : Int := if a.length < b.length then -1 else if b.length < a.length then 1 else cmpN a b a.length
/-- Sums with a carry: the first i limbs. -/
def adN (a b : List Int) : Nat → List Int × Int
  | 0 => ([], 0)
  | i + 1 => ((adN a b i).1 ++ [(a.getD i 0 + b.getD i 0 + (adN a b i).2) % 18446744073709551616], (a.getD i 0 + b.getD i 0 + (adN a b i).2) / 18446744073709551616)
theorem adN_len (a b : List Int) : ∀ i, (adN a b i).1.length = i
  | 0 => rfl
  | i + 1 => by simp only [adN, List.length_append, adN_len a b i]; rfl
theorem adN_c {a b : List Int} (ha : u64s a) (hb : u64s b) : ∀ i, 0 ≤ (adN a b i).2 ∧ (adN a b i).2 ≤ 1
  | 0 => ⟨Int.le_refl 0, (by decide : (0 : Int) ≤ 1)⟩
  | i + 1 => by
    have h1 := u64s_getD ha i
    have h2 := u64s_getD hb i
    have h3 := adN_c ha hb i
    simp only [adN]
    omega
theorem adN_u {a b : List Int} : ∀ i, u64s (adN a b i).1
  | 0 => by intro x hx; cases hx
  | i + 1 => by
    intro x hx
    simp only [adN, List.mem_append, List.mem_singleton] at hx
    rcases hx with hx | hx
    · exact adN_u i x hx
    · subst hx; omega
/-- Differences with a borrow: the first i limbs. -/
def sbN (a b : List Int) : Nat → List Int × Int
  | 0 => ([], 0)
  | i + 1 => ((sbN a b i).1 ++ [if a.getD i 0 < b.getD i 0 + (sbN a b i).2 then a.getD i 0 - b.getD i 0 - (sbN a b i).2 + 18446744073709551616 else a.getD i 0 - b.getD i 0 - (sbN a b i).2], if a.getD i 0 < b.getD i 0 + (sbN a b i).2 then 1 else 0)
theorem sbN_len (a b : List Int) : ∀ i, (sbN a b i).1.length = i
  | 0 => rfl
  | i + 1 => by simp only [sbN, List.length_append, sbN_len a b i]; rfl
theorem sbN_c (a b : List Int) : ∀ i, 0 ≤ (sbN a b i).2 ∧ (sbN a b i).2 ≤ 1
  | 0 => ⟨Int.le_refl 0, (by decide : (0 : Int) ≤ 1)⟩
  | i + 1 => by simp only [sbN]; split <;> decide
theorem sbN_u {a b : List Int} (ha : u64s a) (hb : u64s b) : ∀ i, u64s (sbN a b i).1
  | 0 => by intro x hx; cases hx
  | i + 1 => by
    have h1 := u64s_getD ha i
    have h2 := u64s_getD hb i
    have h3 := sbN_c a b i
    intro x hx
    simp only [sbN, List.mem_append, List.mem_singleton] at hx
    rcases hx with hx | hx
    · exact sbN_u ha hb i x hx
    · subst hx; split <;> omega
/-- What is filled so far, noughts behind. -/
def fillI (l : List Int) (n : Nat) : List Int := l ++ List.replicate (n - l.length) 0
theorem fillI_len {l : List Int} {n : Nat} (h : l.length ≤ n) : (fillI l n).length = n := by unfold fillI; rw [List.length_append, List.length_replicate]; omega
theorem fillI_set {l : List Int} {n : Nat} {v : Int} (h : l.length < n) : (fillI l n).set l.length v = fillI (l ++ [v]) n := by
  unfold fillI
  obtain ⟨m, hm⟩ : ∃ m, n - l.length = m + 1 := ⟨n - l.length - 1, by omega⟩
  rw [hm, List.replicate_succ, List.set_append_right _ _ (Nat.le_refl _), Nat.sub_self, List.set_cons_zero, List.length_append, List.length_singleton, show n - (l.length + 1) = m by omega]
  simp
theorem fillI_full {l : List Int} {n : Nat} (h : l.length = n) : fillI l n = l := by unfold fillI; rw [h, Nat.sub_self]; simp
theorem getD_ge {l : List Int} {i : Nat} (h : l.length ≤ i) : l.getD i 0 = 0 := by rw [List.getD_eq_getElem?_getD, List.getElem?_eq_none h]; rfl
theorem cmpN_lt {a b : List Int} {k : Nat} (h0 : 0 < k) (h : a.getD (k - 1) 0 < b.getD (k - 1) 0) : cmpN a b k = -1 := by
  obtain ⟨j, rfl⟩ : ∃ j, k = j + 1 := ⟨k - 1, by omega⟩
  simp only [Nat.add_sub_cancel] at h
  simp only [cmpN]; rw [if_pos h]
theorem cmpN_gt {a b : List Int} {k : Nat} (h0 : 0 < k) (h : b.getD (k - 1) 0 < a.getD (k - 1) 0) : cmpN a b k = 1 := by
  obtain ⟨j, rfl⟩ : ∃ j, k = j + 1 := ⟨k - 1, by omega⟩
  simp only [Nat.add_sub_cancel] at h
  simp only [cmpN]; rw [if_neg (by omega), if_pos h]
theorem cmpN_eq {a b : List Int} {k : Nat} (h0 : 0 < k) (h1 : ¬ a.getD (k - 1) 0 < b.getD (k - 1) 0) (h2 : ¬ b.getD (k - 1) 0 < a.getD (k - 1) 0) : cmpN a b (k - 1) = cmpN a b k := by
  obtain ⟨j, rfl⟩ : ∃ j, k = j + 1 := ⟨k - 1, by omega⟩
  simp only [Nat.add_sub_cancel] at h1 h2 ⊢
  simp only [cmpN]; rw [if_neg h1, if_neg h2]
theorem fill_ad {X Y : List Int} {i n : Nat} (h : i < n) : (fillI (adN X Y i).1 n).set ((0 + i) * 1) ((X.getD i 0 + Y.getD i 0 + (adN X Y i).2) % 18446744073709551616) = fillI (adN X Y (i + 1)).1 n := by
  rw [Nat.zero_add, Nat.mul_one]
  have := fillI_set (l := (adN X Y i).1) (n := n) (v := (X.getD i 0 + Y.getD i 0 + (adN X Y i).2) % 18446744073709551616) (by rw [adN_len]; exact h)
  rw [adN_len] at this
  exact this
theorem fill_sb {X Y : List Int} {i n : Nat} (h : i < n) : (fillI (sbN X Y i).1 n).set ((0 + i) * 1) (if X.getD i 0 < Y.getD i 0 + (sbN X Y i).2 then X.getD i 0 - Y.getD i 0 - (sbN X Y i).2 + 18446744073709551616 else X.getD i 0 - Y.getD i 0 - (sbN X Y i).2) = fillI (sbN X Y (i + 1)).1 n := by
  rw [Nat.zero_add, Nat.mul_one]
  have := fillI_set (l := (sbN X Y i).1) (n := n) (v := if X.getD i 0 < Y.getD i 0 + (sbN X Y i).2 then X.getD i 0 - Y.getD i 0 - (sbN X Y i).2 + 18446744073709551616 else X.getD i 0 - Y.getD i 0 - (sbN X Y i).2) (by rw [sbN_len]; exact h)
  rw [sbN_len] at this
  exact this
theorem fill_last {l : List Int} {n : Nat} {v : Int} (h : l.length = n) : (fillI l (n + 1)).set ((0 + n) * 1) v = l ++ [v] := by
  rw [Nat.zero_add, Nat.mul_one]
  subst h
  rw [fillI_set (by omega), fillI_full (by simp)]
/-- The longer one first. -/
def swL (a b : List Int) : List Int × List Int := if a.length < b.length then (b, a) else (a, b)
def sumL (a b : List Int) : List Int := (adN (swL (trm a) (trm b)).1 (swL (trm a) (trm b)).2 (swL (trm a) (trm b)).1.length).1 ++ [(adN (swL (trm a) (trm b)).1 (swL (trm a) (trm b)).2 (swL (trm a) (trm b)).1.length).2]
def difL (a b : List Int) : List Int := (sbN (trm a) (trm b) (trm a).length).1
theorem u64s_app1 {l : List Int} {v : Int} (h : u64s l) (h0 : 0 ≤ v) (h1 : v < 18446744073709551616) : u64s (l ++ [v]) := fun x hx => by
  rcases List.mem_append.1 hx with hx | hx
  · exact h x hx
  · rw [List.mem_singleton] at hx; subst hx; exact ⟨h0, h1⟩
/-- The document's digits of limbs: two of 32 bits each. -/
def dig (l : List Int) : List Int := l.flatMap fun v => [v % 4294967296, v / 4294967296]
theorem dig_len (l : List Int) : (dig l).length = 2 * l.length := by
  induction l with
  | nil => rfl
  | cons v l ih => simp only [dig, List.flatMap_cons, List.length_append, List.length_cons, List.length_nil] at ih ⊢; omega
theorem dig_snoc {l : List Int} {i : Nat} (h : i < l.length) : dig (l.take (i + 1)) = dig (l.take i) ++ [l.getD i 0 % 4294967296, l.getD i 0 / 4294967296] := by
  rw [List.take_succ_eq_append_getElem h, List.getD_eq_getElem?_getD, List.getElem?_eq_getElem h]
  unfold dig
  rw [List.flatMap_append]
  rfl
/-- Digits put together to limbs again. -/
def lims : List Int → List Int
  | [] => []
  | [x] => [x]
  | x :: y :: r => IntKind.u64.wrap (x + IntKind.u64.wrap (y * 4294967296)) :: lims r
theorem drop_cons' {l : List Int} {i : Nat} (h : i < l.length) : l.drop i = l.getD i 0 :: l.drop (i + 1) := by
  rw [List.drop_eq_getElem_cons h, List.getD_eq_getElem?_getD, List.getElem?_eq_getElem h]; rfl
theorem u64s1 {v : Int} (h0 : 0 ≤ v) (h1 : v < 18446744073709551616) : u64s [v] := fun x hx => by rw [List.mem_singleton] at hx; subst hx; exact ⟨h0, h1⟩
theorem wrap_u64' {m r : Int} (h1 : 0 ≤ r) (h2 : r < 18446744073709551616) (h : m = r - 18446744073709551616) : IntKind.u64.wrap m = r := by
  subst h
  simp only [IntKind.wrap, IntKind.bits, IntKind.signed] <;> simp <;> omega
end Go.Proofs.Ytcfdclehmpfkcaa.Vc

/- What lists of limbs say as numbers, in plain Lean. -/
namespace Go.Proofs.Ytcfdclehmpfkcaa.Vc
open Go Go.RowKit

def Bs : Int := 18446744073709551616
def vl : List Int → Int
  | [] => 0
  | x :: l => x + Bs * vl l
def pB : Nat → Int
  | 0 => 1
  | k + 1 => Bs * pB k
theorem pB_pos : ∀ k, 0 < pB k
  | 0 => by decide
  | k + 1 => by simp only [pB]; exact Int.mul_pos (by decide) (pB_pos k)
theorem pB_add : ∀ a b, pB (a + b) = pB a * pB b
  | 0, b => by simp [pB]
  | a + 1, b => by rw [show a + 1 + b = (a + b) + 1 by omega]; simp only [pB]; rw [pB_add a b, Int.mul_assoc]
theorem vl_app : ∀ a b : List Int, vl (a ++ b) = vl a + pB a.length * vl b
  | [], b => by simp [vl, pB]
  | x :: a, b => by
    simp only [List.cons_append, vl, List.length_cons, pB]
    rw [vl_app a b, Int.mul_add, Int.mul_assoc, Int.add_assoc]
theorem vl_nonneg : ∀ {l : List Int}, u64s l → 0 ≤ vl l
  | [], _ => Int.le_refl _
  | x :: l, h => by
    have h1 := (h x (List.mem_cons_self ..)).1
    have h2 := vl_nonneg (l := l) fun y hy => h y (List.mem_cons_of_mem _ hy)
    simp only [vl]
    have := Int.mul_nonneg (show (0 : Int) ≤ Bs by decide) h2
    omega
theorem vl_lt : ∀ {l : List Int}, u64s l → vl l < pB l.length
  | [], _ => by decide
  | x :: l, h => by
    have h1 := (h x (List.mem_cons_self ..)).2
    have h2 := vl_lt (l := l) fun y hy => h y (List.mem_cons_of_mem _ hy)
    simp only [vl, List.length_cons, pB]
    have h3 : vl l + 1 ≤ pB l.length := h2
    have h4 := Int.mul_le_mul_of_nonneg_left h3 (show (0 : Int) ≤ Bs by decide)
    rw [Int.mul_add, Int.mul_one] at h4
    have h5 : x < Bs := h1
    omega
theorem vl_zeros (n : Nat) : vl (List.replicate n 0) = 0 := by
  induction n with
  | zero => rfl
  | succ n ih => rw [List.replicate_succ]; simp [vl, ih]
/-- The value of the first k limbs. -/
def vk (l : List Int) (k : Nat) : Int := vl (l.take k)
theorem vk_0 (l : List Int) : vk l 0 = 0 := by unfold vk; simp [vl]
theorem vk_all {l : List Int} {k : Nat} (h : l.length ≤ k) : vk l k = vl l := by unfold vk; rw [List.take_of_length_le h]
theorem vk_succ (l : List Int) (k : Nat) : vk l (k + 1) = vk l k + pB k * l.getD k 0 := by
  unfold vk
  by_cases h : k < l.length
  · rw [List.take_succ_eq_append_getElem h, vl_app, List.length_take, Nat.min_eq_left (by omega), List.getD_eq_getElem?_getD, List.getElem?_eq_getElem h]
    simp [vl]
  · rw [List.take_of_length_le (by omega), List.take_of_length_le (by omega), getD_ge (by omega)]
    simp
theorem vk_tN (l : List Int) : ∀ k, k ≤ l.length → vk l (tN l k) = vk l k
  | 0, _ => rfl
  | k + 1, h => by
    simp only [tN]
    split
    · rename_i h0
      rw [vk_tN l k (by omega), vk_succ, h0, Int.mul_zero, Int.add_zero]
    · rfl
theorem vl_trm (l : List Int) : vl (trm l) = vl l := by
  have := vk_tN l l.length (Nat.le_refl _)
  rw [vk_all (Nat.le_refl _)] at this
  exact this
theorem adN_val (a b : List Int) : ∀ i, vl (adN a b i).1 + pB i * (adN a b i).2 = vk a i + vk b i
  | 0 => by simp [adN, vl, vk_0, pB]
  | i + 1 => by
    have ih := adN_val a b i
    simp only [adN]
    rw [vl_app, adN_len, vk_succ, vk_succ]
    simp only [vl, pB]
    have e := Int.emod_add_mul_ediv (a.getD i 0 + b.getD i 0 + (adN a b i).2) 18446744073709551616
    generalize hs : a.getD i 0 + b.getD i 0 + (adN a b i).2 = s at *
    generalize hq : s / 18446744073709551616 = q at *
    generalize hr : s % 18446744073709551616 = r at *
    have hB : Bs = 18446744073709551616 := rfl
    rw [Int.mul_zero, Int.add_zero, hB, Int.mul_comm 18446744073709551616 (pB i), Int.mul_assoc]
    have e2 : pB i * r + pB i * (18446744073709551616 * q) = pB i * s := by rw [← Int.mul_add, e]
    have e3 : pB i * s = pB i * a.getD i 0 + pB i * b.getD i 0 + pB i * (adN a b i).2 := by rw [← hs, Int.mul_add, Int.mul_add]
    omega
theorem sbN_val (a b : List Int) : ∀ i, vl (sbN a b i).1 - pB i * (sbN a b i).2 = vk a i - vk b i
  | 0 => by simp [sbN, vl, vk_0, pB]
  | i + 1 => by
    have ih := sbN_val a b i
    simp only [sbN]
    rw [vl_app, sbN_len, vk_succ, vk_succ]
    simp only [vl, pB]
    have hB : Bs = 18446744073709551616 := rfl
    rw [Int.mul_zero, Int.add_zero, hB, Int.mul_comm 18446744073709551616 (pB i), Int.mul_assoc]
    split
    · rw [Int.mul_one, Int.mul_add, Int.mul_sub, Int.mul_sub]; omega
    · rw [Int.mul_sub, Int.mul_sub]; simp; omega
theorem vl_swL (a b : List Int) : (swL a b).2.length ≤ (swL a b).1.length ∧ vl (swL a b).1 + vl (swL a b).2 = vl a + vl b := by
  unfold swL
  split
  · exact ⟨by show a.length ≤ b.length; omega, by show vl b + vl a = _; omega⟩
  · exact ⟨by show b.length ≤ a.length; omega, rfl⟩
theorem vl_sumL (a b : List Int) : vl (sumL a b) = vl a + vl b := by
  have h := adN_val (swL (trm a) (trm b)).1 (swL (trm a) (trm b)).2 (swL (trm a) (trm b)).1.length
  obtain ⟨h1, h2⟩ := vl_swL (trm a) (trm b)
  rw [vk_all (Nat.le_refl _), vk_all h1, h2, vl_trm, vl_trm] at h
  unfold sumL
  rw [vl_app, adN_len]
  simp only [vl]
  rw [Int.mul_zero, Int.add_zero]
  exact h
/-- No nought at the top. -/
def tpd (l : List Int) : Prop := l ≠ [] → l.getD (l.length - 1) 0 ≠ 0
theorem tN_top (l : List Int) : ∀ k, 0 < tN l k → l.getD (tN l k - 1) 0 ≠ 0
  | 0, h => by simp [tN] at h
  | k + 1, h => by
    simp only [tN] at h ⊢
    split
    · rename_i h0; rw [if_pos h0] at h; exact tN_top l k h
    · rename_i h0; exact h0
theorem trm_length (l : List Int) : (trm l).length = tN l l.length := by unfold trm; rw [List.length_take, Nat.min_eq_left (tN_le _ _)]
theorem tpd_trm (l : List Int) : tpd (trm l) := fun hne => by
  have hl := trm_length l
  have hpos : 0 < tN l l.length := by
    rcases Nat.eq_zero_or_pos (tN l l.length) with h | h
    · exact absurd (List.eq_nil_of_length_eq_zero (hl.trans h)) hne
    · exact h
  rw [hl]
  unfold trm
  rw [getD_take (by omega)]
  exact tN_top l _ hpos
theorem trm_id {l : List Int} (h : tpd l) : trm l = l := by
  unfold trm
  by_cases h0 : l = []
  · subst h0; rfl
  · have hp : 0 < l.length := List.length_pos_iff.2 h0
    rw [tN_stop hp (h h0), List.take_length]
theorem vl_ge {l : List Int} (hu : u64s l) (ht : tpd l) (h0 : l ≠ []) : pB (l.length - 1) ≤ vl l := by
  have hp : 0 < l.length := List.length_pos_iff.2 h0
  obtain ⟨k, hk⟩ : ∃ k, l.length = k + 1 := ⟨l.length - 1, by omega⟩
  have h1 : vl l = vk l (k + 1) := by rw [vk_all (by omega)]
  rw [h1, vk_succ, hk, Nat.add_sub_cancel]
  have h2 := ht h0
  rw [hk, Nat.add_sub_cancel] at h2
  have h3 := u64s_at hu (i := k) (by omega)
  have h4 : 0 ≤ vk l k := vl_nonneg fun x hx => hu x (List.mem_of_mem_take hx)
  have h5 : pB k * 1 ≤ pB k * l.getD k 0 := Int.mul_le_mul_of_nonneg_left (by omega) (Int.le_of_lt (pB_pos k))
  omega
theorem pB_mono {a b : Nat} (h : a ≤ b) : pB a ≤ pB b := by
  obtain ⟨c, rfl⟩ : ∃ c, b = a + c := ⟨b - a, by omega⟩
  rw [pB_add]
  have h1 := pB_pos c
  have h2 := Int.mul_le_mul_of_nonneg_left (show 1 ≤ pB c by omega) (Int.le_of_lt (pB_pos a))
  omega
/-- The lists' comparison is the numbers'. -/
theorem cmpN_val {a b : List Int} (ha : u64s a) (hb : u64s b) : ∀ k, (cmpN a b k = 0 ∧ vk a k = vk b k) ∨ (cmpN a b k = -1 ∧ vk a k < vk b k) ∨ (cmpN a b k = 1 ∧ vk b k < vk a k)
  | 0 => .inl ⟨rfl, by rw [vk_0, vk_0]⟩
  | k + 1 => by
    have ih := cmpN_val ha hb k
    simp only [cmpN]
    rw [vk_succ, vk_succ]
    have a1 : 0 ≤ vk a k := vl_nonneg fun x hx => ha x (List.mem_of_mem_take hx)
    have b1 : 0 ≤ vk b k := vl_nonneg fun x hx => hb x (List.mem_of_mem_take hx)
    have a2 : vk a k < pB k := Int.lt_of_lt_of_le (vl_lt fun x hx => ha x (List.mem_of_mem_take hx)) (pB_mono (by rw [List.length_take]; omega))
    have b2 : vk b k < pB k := Int.lt_of_lt_of_le (vl_lt fun x hx => hb x (List.mem_of_mem_take hx)) (pB_mono (by rw [List.length_take]; omega))
    have hp := pB_pos k
    split
    · rename_i h
      have := Int.mul_le_mul_of_nonneg_left (show a.getD k 0 + 1 ≤ b.getD k 0 by omega) (Int.le_of_lt hp)
      rw [Int.mul_add, Int.mul_one] at this
      exact .inr (.inl ⟨rfl, by omega⟩)
    · split
      · rename_i h1 h
        have := Int.mul_le_mul_of_nonneg_left (show b.getD k 0 + 1 ≤ a.getD k 0 by omega) (Int.le_of_lt hp)
        rw [Int.mul_add, Int.mul_one] at this
        exact .inr (.inr ⟨rfl, by omega⟩)
      · rename_i h1 h2
        rw [show a.getD k 0 = b.getD k 0 by omega]
        rcases ih with ⟨h, h'⟩ | ⟨h, h'⟩ | ⟨h, h'⟩
        · exact .inl ⟨h, by omega⟩
        · exact .inr (.inl ⟨h, by omega⟩)
        · exact .inr (.inr ⟨h, by omega⟩)
theorem cmpL_val {a b : List Int} (ha : u64s a) (hb : u64s b) : (cmpL (trm a) (trm b) = 0 ∧ vl a = vl b) ∨ (cmpL (trm a) (trm b) = -1 ∧ vl a < vl b) ∨ (cmpL (trm a) (trm b) = 1 ∧ vl b < vl a) := by
  have ua := u64s_trm ha
  have ub := u64s_trm hb
  rw [← vl_trm a, ← vl_trm b]
  have less : ∀ {x y : List Int}, u64s x → u64s y → tpd y → x.length < y.length → vl x < vl y := fun {x y} hx hy ht hlt => by
    have h1 := vl_lt hx
    have h2 := vl_ge hy ht (by intro e; rw [e] at hlt; simp at hlt)
    have h3 := pB_mono (show x.length ≤ y.length - 1 by omega)
    omega
  unfold cmpL
  split
  · rename_i h; exact .inr (.inl ⟨rfl, less ua ub (tpd_trm b) h⟩)
  · split
    · rename_i h; exact .inr (.inr ⟨rfl, less ub ua (tpd_trm a) h⟩)
    · rename_i h1 h2
      have := cmpN_val ua ub (trm a).length
      rw [vk_all (Nat.le_refl _), vk_all (by omega : (trm b).length ≤ (trm a).length)] at this
      exact this
theorem vl_difL {a b : List Int} (ha : u64s a) (hb : u64s b) (h : vl b ≤ vl a) : vl (difL a b) = vl a - vl b := by
  have ua := u64s_trm ha
  have ub := u64s_trm hb
  have hv := sbN_val (trm a) (trm b) (trm a).length
  rw [vk_all (Nat.le_refl _), vl_trm] at hv
  have hlen : (trm b).length ≤ (trm a).length := by
    rcases Nat.lt_or_ge (trm a).length (trm b).length with hlt | hge
    · have h1 := vl_lt ua
      have h2 := vl_ge ub (tpd_trm b) (by intro e; rw [e] at hlt; simp at hlt)
      have h3 := pB_mono (show (trm a).length ≤ (trm b).length - 1 by omega)
      rw [vl_trm] at h1 h2
      omega
    · exact hge
  rw [vk_all hlen, vl_trm] at hv
  have hc := sbN_c (trm a) (trm b) (trm a).length
  have hs := vl_lt (sbN_u ua ub (trm a).length)
  rw [sbN_len] at hs
  unfold difL
  rcases (show (sbN (trm a) (trm b) (trm a).length).2 = 0 ∨ (sbN (trm a) (trm b) (trm a).length).2 = 1 by omega) with h0 | h0
  · rw [h0, Int.mul_zero] at hv; omega
  · rw [h0, Int.mul_one] at hv; omega
end Go.Proofs.Ytcfdclehmpfkcaa.Vc

/- Products of limbs, in plain Lean. -/
namespace Go.Proofs.Ytcfdclehmpfkcaa.Vc
open Go Go.RowKit

theorem shr32 {x : Int} (h : 0 ≤ x) : x.fdiv (2 ^ min (32 : Int).toNat 64) = x / 4294967296 := by
  obtain ⟨n, rfl⟩ := Int.eq_ofNat_of_zero_le h
  exact shr_nat (k := 4294967296) (by decide)
theorem and32 {x : Int} (h0 : 0 ≤ x) (h1 : x < 18446744073709551616) : bitop .and .u64 x 4294967295 = x % 4294967296 := by
  obtain ⟨n, rfl⟩ := Int.eq_ofNat_of_zero_le h0
  unfold bitop
  simp only [IntKind.bits]
  have e1 : (BitVec.ofInt 64 (n : Int)).toNat = n := by
    rw [BitVec.toNat_ofInt]; simp; omega
  have e2 : (BitVec.ofInt 64 4294967295).toNat = 4294967295 := by decide
  have e3 : (BitVec.ofInt 64 (n : Int) &&& BitVec.ofInt 64 4294967295).toNat = n % 4294967296 := by
    rw [BitVec.toNat_and, e1, e2]
    have := Nat.and_two_pow_sub_one_eq_mod n 32
    simpa using this
  show IntKind.u64.wrap (((BitVec.ofInt 64 (n : Int) &&& BitVec.ofInt 64 4294967295).toNat : Nat) : Int) = _
  rw [e3, wrap_u64 (by omega) (by omega)]
  omega
theorem mul_bd {a b m : Int} (ha : 0 ≤ a) (hb : 0 ≤ b) (ham : a ≤ m) (hbm : b ≤ m) : 0 ≤ a * b ∧ a * b ≤ m * m := by
  refine ⟨Int.mul_nonneg ha hb, ?_⟩
  exact Int.mul_le_mul ham hbm hb (by omega)
theorem mul_parts (x y : Int) : x * y = (x / 4294967296) * (y / 4294967296) * 18446744073709551616 + ((x / 4294967296) * (y % 4294967296) + (x % 4294967296) * (y / 4294967296)) * 4294967296 + (x % 4294967296) * (y % 4294967296) := by
  have hx := Int.emod_add_mul_ediv x 4294967296
  have hy := Int.emod_add_mul_ediv y 4294967296
  generalize x / 4294967296 = x1 at *
  generalize x % 4294967296 = x0 at *
  generalize y / 4294967296 = y1 at *
  generalize y % 4294967296 = y0 at *
  rw [← hx, ← hy, Int.add_mul, Int.mul_add, Int.mul_add]
  have e1 : x0 * (4294967296 * y1) = 4294967296 * (x0 * y1) := by rw [Int.mul_left_comm]
  have e2 : 4294967296 * x1 * y0 = 4294967296 * (x1 * y0) := Int.mul_assoc _ _ _
  have e3 : 4294967296 * x1 * (4294967296 * y1) = 18446744073709551616 * (x1 * y1) := by
    rw [Int.mul_assoc, Int.mul_left_comm x1, ← Int.mul_assoc 4294967296 4294967296]; rfl
  rw [e1, e2, e3]
  omega
/-- Both halves of a product of two limbs, from four products of halves. -/
theorem mul64_val {x y : Int} (hx0 : 0 ≤ x) (hx : x < 18446744073709551616) (hy0 : 0 ≤ y) (hy : y < 18446744073709551616) :
    let p00 := x % 4294967296 * (y % 4294967296)
    let p10 := x / 4294967296 * (y % 4294967296)
    let p01 := x % 4294967296 * (y / 4294967296)
    let p11 := x / 4294967296 * (y / 4294967296)
    let t := p10 + p00 / 4294967296
    let u := t % 4294967296 + p01
    (0 ≤ p00 ∧ p00 ≤ 18446744065119617025) ∧ (0 ≤ p10 ∧ p10 ≤ 18446744065119617025) ∧ (0 ≤ p01 ∧ p01 ≤ 18446744065119617025) ∧ (0 ≤ p11 ∧ p11 ≤ 18446744065119617025) ∧ p11 + t / 4294967296 + u / 4294967296 = x * y / 18446744073709551616 := by
  intro p00 p10 p01 p11 t u
  have b00 := mul_bd (a := x % 4294967296) (b := y % 4294967296) (m := 4294967295) (by omega) (by omega) (by omega) (by omega)
  have b10 := mul_bd (a := x / 4294967296) (b := y % 4294967296) (m := 4294967295) (by omega) (by omega) (by omega) (by omega)
  have b01 := mul_bd (a := x % 4294967296) (b := y / 4294967296) (m := 4294967295) (by omega) (by omega) (by omega) (by omega)
  have b11 := mul_bd (a := x / 4294967296) (b := y / 4294967296) (m := 4294967295) (by omega) (by omega) (by omega) (by omega)
  have hp := mul_parts x y
  have em : (4294967295 : Int) * 4294967295 = 18446744065119617025 := by decide
  rw [em] at b00 b10 b01 b11
  refine ⟨b00, b10, b01, b11, ?_⟩
  show x / 4294967296 * (y / 4294967296) + (x / 4294967296 * (y % 4294967296) + x % 4294967296 * (y % 4294967296) / 4294967296) / 4294967296 + ((x / 4294967296 * (y % 4294967296) + x % 4294967296 * (y % 4294967296) / 4294967296) % 4294967296 + x % 4294967296 * (y / 4294967296)) / 4294967296 = x * y / 18446744073709551616
  generalize x / 4294967296 * (y / 4294967296) = q11 at *
  generalize x / 4294967296 * (y % 4294967296) = q10 at *
  generalize x % 4294967296 * (y / 4294967296) = q01 at *
  generalize x % 4294967296 * (y % 4294967296) = q00 at *
  rw [hp]
  omega
theorem u64_wrap_mod {m : Int} : IntKind.u64.wrap m = m % 18446744073709551616 := by
  simp only [IntKind.wrap, IntKind.bits, IntKind.signed] <;> simp
theorem vl_set : ∀ (l : List Int) (j : Nat) (v : Int), j < l.length → vl (l.set j v) = vl l + pB j * (v - l.getD j 0)
  | [], j, v, h => by simp at h
  | x :: l, 0, v, _ => by
    have e : (x :: l).getD 0 0 = x := rfl
    simp only [List.set_cons_zero, vl, pB, e]; omega
  | x :: l, j + 1, v, h => by
    have ih := vl_set l j v (by simpa using h)
    have e : (x :: l).getD (j + 1) 0 = l.getD j 0 := rfl
    simp only [List.set_cons_succ, vl, pB, e]
    rw [ih, Int.mul_add, Int.mul_assoc]; omega
theorem getD_set {l : List Int} {j k : Nat} {v : Int} (hne : k ≠ j) : (l.set j v).getD k 0 = l.getD k 0 := by
  rw [List.getD_eq_getElem?_getD, List.getD_eq_getElem?_getD, List.getElem?_set_ne (Ne.symm hne)]
theorem u64s_set {l : List Int} {j : Nat} {v : Int} (h : u64s l) (h0 : 0 ≤ v) (h1 : v < 18446744073709551616) : u64s (l.set j v) := fun x hx => by
  rcases List.mem_or_eq_of_mem_set hx with hx | hx
  · exact h x hx
  · subst hx; exact ⟨h0, h1⟩
/-- One step of a row of the school's product. -/
theorem school_step {P c t : Int} (hP0 : 0 ≤ P) (hP : P ≤ 340282366920938463426481119284349108225) (hc0 : 0 ≤ c) (hc : c < 18446744073709551616) (ht0 : 0 ≤ t) (ht : t < 18446744073709551616) :
    0 ≤ P / 18446744073709551616 + (P % 18446744073709551616 + c + 0) / 18446744073709551616 ∧ P / 18446744073709551616 + (P % 18446744073709551616 + c + 0) / 18446744073709551616 < 18446744073709551616 ∧
    0 ≤ P / 18446744073709551616 + (P % 18446744073709551616 + c + 0) / 18446744073709551616 + (t + (P % 18446744073709551616 + c + 0) % 18446744073709551616 + 0) / 18446744073709551616 ∧
    P / 18446744073709551616 + (P % 18446744073709551616 + c + 0) / 18446744073709551616 + (t + (P % 18446744073709551616 + c + 0) % 18446744073709551616 + 0) / 18446744073709551616 < 18446744073709551616 ∧
    (t + (P % 18446744073709551616 + c + 0) % 18446744073709551616 + 0) % 18446744073709551616 + 18446744073709551616 * (P / 18446744073709551616 + (P % 18446744073709551616 + c + 0) / 18446744073709551616 + (t + (P % 18446744073709551616 + c + 0) % 18446744073709551616 + 0) / 18446744073709551616) = t + P + c := by
  omega
/-- What is left of a number behind its first k limbs. -/
theorem vl_rest {b : List Int} (hb : u64s b) (k : Nat) : ∃ r, 0 ≤ r ∧ vl b = vk b k + pB k * r := by
  refine ⟨vl (b.drop k), vl_nonneg fun x hx => hb x (List.mem_of_mem_drop hx), ?_⟩
  by_cases h : k ≤ b.length
  · have := vl_app (b.take k) (b.drop k)
    rw [List.take_append_drop, List.length_take, Nat.min_eq_left h] at this
    exact this
  · rw [List.drop_eq_nil_of_le (by omega), vk_all (by omega)]; simp [vl]
theorem vk_nonneg {b : List Int} (hb : u64s b) (k : Nat) : 0 ≤ vk b k := vl_nonneg fun x hx => hb x (List.mem_of_mem_take hx)
/-- A number below n limbs, moved up by 'at', has no limb above. -/
theorem no_rest {b : List Int} (hb : u64s b) {at_ k n : Nat} (hn : n ≤ at_ + k) (h : pB at_ * vl b < pB n) : vk b k = vl b := by
  obtain ⟨r, h0, h1⟩ := vl_rest hb k
  rcases Int.lt_or_le 0 r with hr | hr
  · exfalso
    have h2 := Int.mul_le_mul_of_nonneg_left (show 1 ≤ r by omega) (Int.le_of_lt (pB_pos k))
    have h3 := vk_nonneg hb k
    have h4 := Int.mul_le_mul_of_nonneg_left (show pB k ≤ vl b by omega) (Int.le_of_lt (pB_pos at_))
    rw [← pB_add] at h4
    have h5 := pB_mono hn
    omega
  · have : r = 0 := by omega
    rw [this, Int.mul_zero, Int.add_zero] at h1
    exact h1.symm
theorem school_in {o o2 b : List Int} {i k : Nat} {c c2 x t s : Int} (hj : i + k < o.length) (ho2 : o2 = o.set (i + k) s) (ht : o.getD (i + k) 0 = t) {V : Int}
    (hv : vl o + c * pB (i + k) = V + x * pB i * vk b k) (hs : s + 18446744073709551616 * c2 = t + x * b.getD k 0 + c) : vl o2 + c2 * pB (i + (k + 1)) = V + x * pB i * vk b (k + 1) := by
  subst ho2
  rw [vl_set _ _ _ hj, ht, vk_succ, show i + (k + 1) = (i + k) + 1 by omega]
  simp only [pB]
  have hB : Bs = 18446744073709551616 := rfl
  have e1 : c2 * (Bs * pB (i + k)) = pB (i + k) * (18446744073709551616 * c2) := by rw [hB, ← Int.mul_assoc, Int.mul_comm (c2 * 18446744073709551616), Int.mul_comm c2]
  have e2 : x * pB i * (vk b k + pB k * b.getD k 0) = x * pB i * vk b k + pB (i + k) * (x * b.getD k 0) := by
    rw [Int.mul_add, pB_add]
    congr 1
    rw [Int.mul_assoc, Int.mul_left_comm (pB i * pB k), Int.mul_assoc (pB i)]
  have e3 : pB (i + k) * (s - t) + pB (i + k) * (18446744073709551616 * c2) = pB (i + k) * (x * b.getD k 0) + pB (i + k) * c := by
    rw [← Int.mul_add, ← Int.mul_add]; congr 1; omega
  rw [e1, e2]
  have e4 : c * pB (i + k) = pB (i + k) * c := Int.mul_comm _ _
  omega
theorem school_row {o o2 a b : List Int} {i : Nat} {c : Int} (hj : i + b.length < o.length) (h0 : o.getD (i + b.length) 0 = 0) (ho2 : o2 = o.set (i + b.length) c)
    (hv : vl o + c * pB (i + b.length) = vk a i * vl b + a.getD i 0 * pB i * vk b b.length) : vl o2 = vk a (i + 1) * vl b := by
  subst ho2
  rw [vl_set _ _ _ hj, h0, vk_succ, Int.add_mul]
  rw [vk_all (Nat.le_refl _)] at hv
  have e : pB i * a.getD i 0 * vl b = a.getD i 0 * pB i * vl b := by rw [Int.mul_comm (pB i)]
  have e4 : c * pB (i + b.length) = pB (i + b.length) * c := Int.mul_comm _ _
  rw [e, Int.sub_zero]
  omega
end Go.Proofs.Ytcfdclehmpfkcaa.Vc

/- Sums at a place, differences in place, parts of a number, Karatsuba's way: plain Lean. -/
namespace Go.Proofs.Ytcfdclehmpfkcaa.Vc
open Go Go.RowKit

theorem u64s_zeros (n : Nat) : u64s (List.replicate n 0) := fun x hx => by rw [List.eq_of_mem_replicate hx]; exact ⟨by decide, by decide⟩
theorem getD_zeros (n j : Nat) : (List.replicate n (0 : Int)).getD j 0 = 0 := by
  rw [List.getD_eq_getElem?_getD, List.getElem?_replicate]; split <;> rfl
theorem u64s_app {a b : List Int} (ha : u64s a) (hb : u64s b) : u64s (a ++ b) := fun x hx => by
  rcases List.mem_append.1 hx with hx | hx
  · exact ha x hx
  · exact hb x hx
theorem u64s_drop {a : List Int} (ha : u64s a) (k : Nat) : u64s (a.drop k) := fun x hx => ha x (List.mem_of_mem_drop hx)
theorem u64s_take {a : List Int} (ha : u64s a) (k : Nat) : u64s (a.take k) := fun x hx => ha x (List.mem_of_mem_take hx)
/-- One step of a sum at a place. -/
theorem add_in {q q2 b : List Int} {i at_ : Nat} {c c2 s V : Int} (hj : i < q.length) (hi : at_ ≤ i) (hq2 : q2 = q.set i s)
    (hv : vl q + c * pB i = V + pB at_ * vk b (i - at_)) (hs : s + 18446744073709551616 * c2 = q.getD i 0 + b.getD (i - at_) 0 + c) : vl q2 + c2 * pB (i + 1) = V + pB at_ * vk b (i + 1 - at_) := by
  subst hq2
  rw [vl_set _ _ _ hj, show i + 1 - at_ = (i - at_) + 1 by omega, vk_succ]
  simp only [pB]
  have hB : Bs = 18446744073709551616 := rfl
  have e1 : c2 * (Bs * pB i) = pB i * (18446744073709551616 * c2) := by rw [hB, ← Int.mul_assoc, Int.mul_comm (c2 * 18446744073709551616), Int.mul_comm c2]
  have e2 : pB at_ * (vk b (i - at_) + pB (i - at_) * b.getD (i - at_) 0) = pB at_ * vk b (i - at_) + pB i * b.getD (i - at_) 0 := by
    rw [Int.mul_add, ← Int.mul_assoc, ← pB_add, show at_ + (i - at_) = i by omega]
  have e3 : pB i * (s - q.getD i 0) + pB i * (18446744073709551616 * c2) = pB i * b.getD (i - at_) 0 + pB i * c := by
    rw [← Int.mul_add, ← Int.mul_add]; congr 1; omega
  have e4 : c * pB i = pB i * c := Int.mul_comm _ _
  rw [e1, e2]
  omega
theorem add_end {q r b : List Int} {i at_ n : Nat} {c : Int} (hq : u64s q) (hr : u64s r) (hb : u64s b) (hc0 : 0 ≤ c) (hi : at_ ≤ i) (hfit : vl r + pB at_ * vl b < pB n) (h : n ≤ i ∨ (b.length ≤ i - at_ ∧ c ≤ 0))
    (hv : vl q + c * pB i = vl r + pB at_ * vk b (i - at_)) : vl q = vl r + pB at_ * vl b := by
  have hr0 := vl_nonneg hr
  have hq0 := vl_nonneg hq
  rcases h with h | ⟨h1, h2⟩
  · have e := no_rest hb (at_ := at_) (k := i - at_) (n := n) (by omega) (by omega)
    rw [e] at hv
    have hp := pB_mono h
    rcases Int.lt_or_le 0 c with hc | hc
    · have := Int.mul_le_mul_of_nonneg_right (show 1 ≤ c by omega) (Int.le_of_lt (pB_pos i))
      omega
    · have : c = 0 := by omega
      rw [this, Int.zero_mul, Int.add_zero] at hv; exact hv
  · have : c = 0 := by omega
    rw [this, Int.zero_mul, Int.add_zero, vk_all h1] at hv; exact hv
/-- A difference in place. -/
theorem sub_at {a b : List Int} {i : Nat} (h : i < a.length) : ((sbN a b i).1 ++ a.drop i).getD i 0 = a.getD i 0 := by
  rw [List.getD_eq_getElem?_getD, List.getElem?_append_right (by rw [sbN_len]; exact Nat.le_refl _), sbN_len, Nat.sub_self, List.getElem?_drop, Nat.add_zero, ← List.getD_eq_getElem?_getD]
theorem sub_len {a b : List Int} {i : Nat} (h : i ≤ a.length) : ((sbN a b i).1 ++ a.drop i).length = a.length := by rw [List.length_append, sbN_len, List.length_drop]; omega
theorem sub_fill {a b : List Int} {i : Nat} (h : i < a.length) : ((sbN a b i).1 ++ a.drop i).set ((0 + i) * 1) (if a.getD i 0 < b.getD i 0 + (sbN a b i).2 then a.getD i 0 - b.getD i 0 - (sbN a b i).2 + 18446744073709551616 else a.getD i 0 - b.getD i 0 - (sbN a b i).2) = (sbN a b (i + 1)).1 ++ a.drop (i + 1) := by
  rw [Nat.zero_add, Nat.mul_one, List.set_append_right _ _ (by rw [sbN_len]; exact Nat.le_refl _), sbN_len, Nat.sub_self, drop_cons' h, List.set_cons_zero]
  simp only [sbN]
  rw [List.append_assoc]; rfl
theorem vl_sub {a b : List Int} (ha : u64s a) (hb : u64s b) (h : vl b ≤ vl a) : vl (sbN a b a.length).1 = vl a - vl b := by
  have hv := sbN_val a b a.length
  have hlt := vl_lt ha
  have e := no_rest hb (at_ := 0) (k := a.length) (n := a.length) (by omega) (by simp only [pB, Int.one_mul]; omega)
  rw [vk_all (Nat.le_refl _), e] at hv
  have hc := sbN_c a b a.length
  have hs := vl_lt (sbN_u ha hb a.length)
  rw [sbN_len] at hs
  rcases (show (sbN a b a.length).2 = 0 ∨ (sbN a b a.length).2 = 1 by omega) with h0 | h0
  · rw [h0, Int.mul_zero] at hv; omega
  · rw [h0, Int.mul_one] at hv; omega
/-- A nought at a part's top. -/
theorem part_step {l : List Int} {F k : Nat} (hF : F < k) (hk : k ≤ l.length) (h : l.getD (k - 1) 0 = 0) : vl ((l.take (k - 1)).drop F) = vl ((l.take k).drop F) := by
  obtain ⟨j, rfl⟩ : ∃ j, k = j + 1 := ⟨k - 1, by omega⟩
  rw [Nat.add_sub_cancel] at h ⊢
  have e : l.take (j + 1) = l.take j ++ [l.getD j 0] := by
    rw [List.take_succ_eq_append_getElem (by omega), List.getD_eq_getElem?_getD, List.getElem?_eq_getElem (by omega)]; rfl
  rw [e, h, List.drop_append, vl_app]
  have : F - (l.take j).length = 0 := by rw [List.length_take]; omega
  rw [this]
  simp [vl]
theorem min_take {l : List Int} {t : Nat} : l.take (min t l.length) = l.take t := by
  rcases Nat.le_total t l.length with h | h
  · rw [Nat.min_eq_left h]
  · rw [Nat.min_eq_right h, List.take_length, List.take_of_length_le h]
theorem part_all {l : List Int} {f t : Nat} (h : f ≤ t) : (l.take (min t l.length)).drop (min f l.length) = (l.take t).drop f := by
  rw [min_take]
  rcases Nat.le_total f l.length with h1 | h1
  · rw [Nat.min_eq_left h1]
  · rw [Nat.min_eq_right h1, List.drop_eq_nil_of_le (by rw [List.length_take]; omega), List.drop_eq_nil_of_le (by rw [List.length_take]; omega)]
theorem split_val {l : List Int} (k : Nat) : vl ((l.take k).drop 0) + pB k * vl ((l.take l.length).drop k) = vl l := by
  rw [List.drop_zero, List.take_length]
  by_cases h : k ≤ l.length
  · have := vl_app (l.take k) (l.drop k)
    rw [List.take_append_drop, List.length_take, Nat.min_eq_left h] at this
    exact this.symm
  · rw [List.take_of_length_le (by omega), List.drop_eq_nil_of_le (by omega)]; simp [vl]
/-- Karatsuba's identity. -/
theorem kara {al ah bl bh K A B lo hi mid : Int} (hA : al + K * ah = A) (hB : bl + K * bh = B) (hlo : lo = al * bl) (hhi : hi = ah * bh) (hmid : mid = (al + ah) * (bl + bh) - lo - hi) : lo + K * mid + (K * K) * hi = A * B := by
  subst hA; subst hB; subst hlo; subst hhi; subst hmid
  have e1 : (al + ah) * (bl + bh) = al * bl + al * bh + (ah * bl + ah * bh) := by rw [Int.add_mul, Int.mul_add, Int.mul_add]
  have e2 : (al + K * ah) * (bl + K * bh) = al * bl + K * (al * bh) + (K * (ah * bl) + K * K * (ah * bh)) := by
    rw [Int.add_mul, Int.mul_add, Int.mul_add]
    congr 1
    · congr 1; rw [Int.mul_left_comm]
    · congr 1
      · rw [Int.mul_assoc]
      · rw [Int.mul_assoc, Int.mul_left_comm ah, ← Int.mul_assoc]
  rw [e1, e2]
  have e3 : K * (al * bl + al * bh + (ah * bl + ah * bh) - al * bl - ah * bh) = K * (al * bh) + K * (ah * bl) := by
    rw [← Int.mul_add K]; congr 1; omega
  rw [e3]
  omega
theorem kara_le {al ah bl bh : Int} (h1 : 0 ≤ al) (h2 : 0 ≤ ah) (h3 : 0 ≤ bl) (h4 : 0 ≤ bh) : al * bl ≤ (al + ah) * (bl + bh) ∧ ah * bh ≤ (al + ah) * (bl + bh) - al * bl := by
  have e1 : (al + ah) * (bl + bh) = al * bl + al * bh + (ah * bl + ah * bh) := by rw [Int.add_mul, Int.mul_add, Int.mul_add]
  have a1 := Int.mul_nonneg h1 h4
  have a2 := Int.mul_nonneg h2 h3
  have a3 := Int.mul_nonneg h2 h4
  omega
theorem vl_mul_lt {a b : List Int} (ha : u64s a) (hb : u64s b) : vl a * vl b < pB (a.length + b.length) := by
  have h1 := vl_lt ha
  have h2 := vl_lt hb
  have h3 := vl_nonneg ha
  have h4 := vl_nonneg hb
  rw [pB_add]
  rcases Int.lt_or_le 0 (vl b) with h | h
  · have := Int.mul_lt_mul_of_pos_right h1 h
    have := Int.mul_le_mul_of_nonneg_left (Int.le_of_lt h2) (Int.le_of_lt (pB_pos a.length))
    omega
  · have : vl b = 0 := by omega
    rw [this, Int.mul_zero]; exact Int.mul_pos (pB_pos _) (pB_pos _)
theorem half_k {n : Nat} (h : n < 4611686018427387904) : IntKind.i64.wrap (Int.tdiv (n : Int) 2) = ((n / 2 : Nat) : Int) := by
  rw [Int.tdiv_eq_ediv_of_nonneg (by omega), wrap_i64 (by omega) (by omega)]; omega
end Go.Proofs.Ytcfdclehmpfkcaa.Vc

/- Numbers with a sign, in plain Lean. -/
namespace Go.Proofs.Ytcfdclehmpfkcaa.Vc
open Go Go.RowKit

def sv (s : Bool) (l : List Int) : Int := if s = true then -(vl l) else vl l
def good (l : List Int) : Prop := u64s l ∧ l.length ≤ 1048576
theorem bl_pos {f n : Nat} (hf : 0 < f) (h : 0 < n) : 0 < bl f n := by
  obtain ⟨g, rfl⟩ : ∃ g, f = g + 1 := ⟨f - 1, by omega⟩
  simp only [bl]
  rw [if_neg (by omega)]; omega
theorem len_bd {l : List Int} (hu : u64s l) (h : lenN l ≤ 67108864) : (trm l).length ≤ 1048576 := by
  unfold lenN at h
  split at h
  · omega
  · rename_i h0
    have ht := tpd_trm l (by intro e; rw [e] at h0; exact h0 rfl)
    have hb := u64s_getD (u64s_trm hu) ((trm l).length - 1)
    have := bl_pos (f := 64) (n := ((trm l).getD ((trm l).length - 1) 0).toNat) (by decide) (by omega)
    omega
theorem good_trm {l : List Int} (hu : u64s l) (h : lenN l ≤ 67108864) : good (trm l) := ⟨u64s_trm hu, len_bd hu h⟩
theorem trm_trm (l : List Int) : trm (trm l) = trm l := trm_id (tpd_trm l)
theorem lenN_trm (l : List Int) : lenN (trm l) = lenN l := by unfold lenN; rw [trm_trm]
theorem vl_pos {l : List Int} (hu : u64s l) (ht : tpd l) (h : l ≠ []) : 0 < vl l := by
  have h1 := vl_ge hu ht h
  have h2 := pB_pos (l.length - 1)
  omega
theorem trm_zero {l : List Int} (hu : u64s l) : (trm l).length = 0 ↔ vl l = 0 := by
  constructor
  · intro h
    rw [← vl_trm, List.eq_nil_of_length_eq_zero h]; rfl
  · intro h
    rcases Nat.eq_zero_or_pos (trm l).length with h0 | h0
    · exact h0
    · have := vl_pos (u64s_trm hu) (tpd_trm l) (by intro e; rw [e] at h0; simp at h0)
      rw [vl_trm] at this; omega
theorem lenN_zero {l : List Int} (hu : u64s l) : lenN l = 0 ↔ vl l = 0 := by
  rw [← trm_zero hu]
  unfold lenN
  constructor
  · intro h
    split at h
    · assumption
    · rename_i h0
      have ht := tpd_trm l (by intro e; rw [e] at h0; exact absurd rfl h0)
      have hb := u64s_getD (u64s_trm hu) ((trm l).length - 1)
      have := bl_pos (f := 64) (n := ((trm l).getD ((trm l).length - 1) 0).toNat) (by decide) (by omega)
      omega
  · intro h; rw [if_pos h]
/-- The sign of a normal number. -/
theorem sv_norm {s : Bool} {l : List Int} (hu : u64s l) : sv (s && decide (0 < ((trm l).length : Int))) (trm l) = sv s l := by
  unfold sv
  rw [vl_trm]
  by_cases h : (trm l).length = 0
  · have h0 := (trm_zero hu).1 h
    rw [h0]; simp
  · have : decide (0 < ((trm l).length : Int)) = true := decide_eq_true (by omega)
    rw [this, Bool.and_true]
theorem sv_mul {s t : Bool} {a b r : List Int} (h : vl r = vl a * vl b) : sv (!(s == t)) r = sv s a * sv t b := by
  unfold sv
  cases s <;> cases t <;> simp [h, Int.neg_mul, Int.mul_neg]
theorem sv_neg (s : Bool) (l : List Int) : sv (!s) l = -(sv s l) := by unfold sv; cases s <;> simp
def sgnI (x : Int) : Int := if x = 0 then 0 else if x < 0 then -1 else 1
def cmpI (x y : Int) : Int := if x < y then -1 else if y < x then 1 else 0
theorem sgn_sv {s : Bool} {l : List Int} (hu : u64s l) : sgnI (sv s l) = if lenN l = 0 then 0 else if s = true then -1 else 1 := by
  have h := lenN_zero hu
  have h0 := vl_nonneg hu
  unfold sgnI sv
  by_cases hz : vl l = 0
  · rw [if_pos (h.2 hz)]; cases s <;> simp [hz]
  · rw [if_neg (fun e => hz (h.1 e))]
    cases s
    · simp only [Bool.false_eq_true, if_false]; rw [if_neg hz, if_neg (by omega)]
    · simp only [if_true]; rw [if_neg (by omega), if_pos (by omega)]
theorem sgn_range (x : Int) : sgnI x = -1 ∨ sgnI x = 0 ∨ sgnI x = 1 := by unfold sgnI; split <;> (try split) <;> simp
theorem cmp_signs {s t : Bool} {a b : List Int} (ua : u64s a) (ub : u64s b) : (sgnI (sv s a) < sgnI (sv t b) → cmpI (sv s a) (sv t b) = -1) ∧ (sgnI (sv t b) < sgnI (sv s a) → cmpI (sv s a) (sv t b) = 1) ∧
    (sgnI (sv s a) = sgnI (sv t b) → sgnI (sv s a) * cmpL (trm a) (trm b) = cmpI (sv s a) (sv t b)) := by
  have ha := vl_nonneg ua
  have hb := vl_nonneg ub
  have hc := cmpL_val ua ub
  have key : ∀ x y : Int, (sgnI x < sgnI y → x < y) := fun x y h => by unfold sgnI at h; (repeat' split at h) <;> omega
  refine ⟨fun h => ?_, fun h => ?_, fun h => ?_⟩
  · have := key _ _ h; unfold cmpI; rw [if_pos this]
  · have := key _ _ h; unfold cmpI; rw [if_neg (by omega), if_pos this]
  · unfold cmpI
    have hs : ∀ (u : Bool) (l : List Int), sv u l = vl l ∨ sv u l = -(vl l) := fun u l => by unfold sv; cases u <;> simp
    have hs' : ∀ (u : Bool) (l : List Int), 0 ≤ vl l → (0 < sv u l → sv u l = vl l) ∧ (sv u l < 0 → sv u l = -(vl l)) := fun u l hl => by rcases hs u l with e | e <;> constructor <;> intro <;> omega
    have h1 := hs' s a ha
    have h2 := hs' t b hb
    have z1 := hs s a
    have z2 := hs t b
    rcases Int.lt_trichotomy (sv s a) 0 with hx | hx | hx
    · have e1 : sgnI (sv s a) = -1 := by unfold sgnI; rw [if_neg (by omega), if_pos hx]
      have hy : sv t b < 0 := by rw [e1] at h; unfold sgnI at h; (repeat' split at h) <;> omega
      rw [e1, h1.2 hx, h2.2 hy]
      rcases hc with ⟨c, v⟩ | ⟨c, v⟩ | ⟨c, v⟩
      · rw [c, if_neg (by omega), if_neg (by omega)]; rfl
      · rw [c, if_neg (by omega), if_pos (by omega)]; rfl
      · rw [c, if_pos (by omega)]; rfl
    · have e1 : sgnI (sv s a) = 0 := by unfold sgnI; rw [if_pos hx]
      have hy : sv t b = 0 := by rw [e1] at h; unfold sgnI at h; (repeat' split at h) <;> omega
      rw [e1, hx, hy, Int.zero_mul]; rfl
    · have e1 : sgnI (sv s a) = 1 := by unfold sgnI; rw [if_neg (by omega), if_neg (by omega)]
      have hy : 0 < sv t b := by rw [e1] at h; unfold sgnI at h; (repeat' split at h) <;> omega
      rw [e1, h1.1 hx, h2.1 hy, Int.one_mul]
      rcases hc with ⟨c, v⟩ | ⟨c, v⟩ | ⟨c, v⟩
      · rw [c, if_neg (by omega), if_neg (by omega)]
      · rw [c, if_pos (by omega)]
      · rw [c, if_neg (by omega), if_pos (by omega)]
theorem cmpI_0 {x y : Int} : cmpI x y = 0 ↔ x = y := by unfold cmpI; (repeat' split) <;> constructor <;> intro h <;> omega
theorem sgnI_0 {x : Int} : sgnI x = 0 ↔ x = 0 := by unfold sgnI; (repeat' split) <;> constructor <;> intro h <;> omega
/-- Sums of numbers with a sign. -/
theorem sv_add_same {s t : Bool} {a b r : List Int} (hst : sv s a = sv t a ∨ True) (h : vl r = vl a + vl b) : sv s r = sv s a + sv s b := by
  unfold sv; cases s <;> simp [h] <;> omega
theorem sv_sub {s : Bool} {a b r : List Int} (h : vl r = vl a - vl b) : sv s r = sv s a + sv (!s) b := by
  unfold sv; cases s <;> simp [h] <;> omega
theorem add_val {S T : Bool} {A B r : List Int} {x y : Int} (h : (S == T) = true) (hv : vl r = vl A + vl B) (e1 : sv S A = x) (e2 : sv T B = y) : sv S r = x + y := by
  have : S = T := by simpa using h
  subst this
  rw [← e1, ← e2]; exact sv_add_same (t := S) (.inr trivial) hv
theorem sub_val {S T : Bool} {A B r : List Int} {x y : Int} (h : (S == T) = false) (hv : vl r = vl A - vl B) (e1 : sv S A = x) (e2 : sv T B = y) : sv S r = x + y := by
  have : T = !S := by cases S <;> cases T <;> simp_all
  subst this
  rw [← e1, ← e2]; exact sv_sub hv
theorem cmpI_rng {x y : Int} : -1 ≤ cmpI x y ∧ cmpI x y ≤ 1 := by unfold cmpI; (repeat' split) <;> decide
end Go.Proofs.Ytcfdclehmpfkcaa.Vc

/- Numbers as canonical lists of digits; how many bits they have. Plain Lean. -/
namespace Go.Proofs.Ytcfdclehmpfkcaa.Vc
open Go Go.RowKit

def digs (b n : Nat) : List Int := if h : n = 0 ∨ b < 2 then [] else ((n % b : Nat) : Int) :: digs b (n / b)
termination_by n
decreasing_by exact Nat.div_lt_self (by omega) (by omega)
theorem digs_0 {b : Nat} : digs b 0 = [] := by rw [digs, dif_pos (.inl rfl)]
theorem digs_pos {b n : Nat} (hb : 2 ≤ b) (hn : n ≠ 0) : digs b n = ((n % b : Nat) : Int) :: digs b (n / b) := by rw [digs, dif_neg (by omega)]
def vb (b : Nat) : List Int → Int
  | [] => 0
  | x :: l => x + (b : Int) * vb b l
def rng (b : Nat) (l : List Int) : Prop := ∀ x ∈ l, 0 ≤ x ∧ x < (b : Int)
theorem rng_tail {b : Nat} {x : Int} {l : List Int} (h : rng b (x :: l)) : rng b l := fun y hy => h y (List.mem_cons_of_mem _ hy)
theorem vb_vl : ∀ l, vb 18446744073709551616 l = vl l
  | [] => rfl
  | x :: l => by simp only [vb, vl, vb_vl l]; rfl
theorem vb_nonneg {b : Nat} : ∀ {l : List Int}, rng b l → 0 ≤ vb b l
  | [], _ => Int.le_refl _
  | x :: l, h => by
    have h1 := (h x (List.mem_cons_self ..)).1
    have h2 := Int.mul_nonneg (Int.natCast_nonneg b) (vb_nonneg (rng_tail h))
    simp only [vb]; omega
theorem tpd_tail {x : Int} {l : List Int} (h : tpd (x :: l)) : tpd l := fun hne => by
  have := h (by simp)
  have hp : 0 < l.length := List.length_pos_iff.2 hne
  rw [List.length_cons, Nat.add_sub_cancel] at this
  obtain ⟨k, hk⟩ : ∃ k, l.length = k + 1 := ⟨l.length - 1, by omega⟩
  rw [hk] at this ⊢
  simpa using this
theorem tpd_one {x : Int} (h : tpd [x]) : x ≠ 0 := by simpa using h (by simp)
theorem digs_of {b : Nat} (hb : 2 ≤ b) : ∀ {l : List Int}, rng b l → tpd l → digs b (vb b l).toNat = l
  | [], _, _ => digs_0
  | x :: t, h, ht => by
    have ih := digs_of hb (rng_tail h) (tpd_tail ht)
    have h1 := h x (List.mem_cons_self ..)
    have h2 := vb_nonneg (rng_tail h)
    obtain ⟨m, hm⟩ : ∃ m : Nat, vb b t = m := ⟨(vb b t).toNat, by omega⟩
    obtain ⟨y, hy⟩ : ∃ y : Nat, x = y := ⟨x.toNat, by omega⟩
    subst hy
    have e : (vb b ((y : Int) :: t)).toNat = y + b * m := by
      simp only [vb]; rw [hm, ← Int.natCast_mul]; omega
    have hyb : y < b := by omega
    rw [e]
    rw [hm] at ih
    rw [show ((m : Int)).toNat = m from rfl] at ih
    have hne : y + b * m ≠ 0 := by
      intro h0
      have hy0 : y = 0 := by omega
      have hm0 : b * m = 0 := by omega
      have hm1 : m = 0 := by
        rcases Nat.mul_eq_zero.1 hm0 with h | h
        · omega
        · exact h
      subst hm1
      rw [digs_0] at ih
      subst ih
      exact tpd_one ht (by rw [hy0]; rfl)
    rw [digs_pos hb hne, Nat.add_mul_mod_self_left, Nat.mod_eq_of_lt hyb, Nat.add_mul_div_left _ _ (by omega), Nat.div_eq_of_lt hyb, Nat.zero_add, ih]
theorem vb_digs {b : Nat} (hb : 2 ≤ b) (n : Nat) : vb b (digs b n) = n := by
  induction n using Nat.strongRecOn with
  | _ n ih =>
    by_cases h : n = 0
    · subst h; rw [digs_0]; rfl
    · rw [digs_pos hb h]
      simp only [vb]
      rw [ih (n / b) (Nat.div_lt_self (by omega) (by omega)), ← Int.natCast_mul, ← Int.natCast_add, Nat.mod_add_div]
theorem rng_digs {b : Nat} (hb : 2 ≤ b) (n : Nat) : rng b (digs b n) := by
  induction n using Nat.strongRecOn with
  | _ n ih =>
    by_cases h : n = 0
    · subst h; rw [digs_0]; intro x hx; simp at hx
    · rw [digs_pos hb h]
      intro x hx
      rcases List.mem_cons.1 hx with rfl | hx
      · have := Nat.mod_lt n (show 0 < b by omega); omega
      · exact ih (n / b) (Nat.div_lt_self (by omega) (by omega)) x hx
theorem tpd_digs {b : Nat} (hb : 2 ≤ b) (n : Nat) : tpd (digs b n) := by
  induction n using Nat.strongRecOn with
  | _ n ih =>
    by_cases h : n = 0
    · subst h; rw [digs_0]; intro hx; simp at hx
    · rw [digs_pos hb h]
      intro _
      rw [List.length_cons, Nat.add_sub_cancel]
      by_cases h1 : n / b = 0
      · rw [h1, digs_0]
        have : n < b := by
          rcases Nat.lt_or_ge n b with h2 | h2
          · exact h2
          · have := Nat.div_pos h2 (by omega); omega
        simp [Nat.mod_eq_of_lt this, h]
      · have h2 := ih (n / b) (Nat.div_lt_self (by omega) (by omega))
        have hne : digs b (n / b) ≠ [] := by rw [digs_pos hb h1]; simp
        have h3 := h2 hne
        have hp : 0 < (digs b (n / b)).length := List.length_pos_iff.2 hne
        obtain ⟨k, hk⟩ : ∃ k, (digs b (n / b)).length = k + 1 := ⟨(digs b (n / b)).length - 1, by omega⟩
        rw [hk] at h3 ⊢
        simpa using h3
/-- Two canonical lists of one number. -/
theorem cano {b : Nat} (hb : 2 ≤ b) {l : List Int} {n : Nat} (hr : rng b l) (ht : tpd l) (hv : vb b l = n) : l = digs b n := by
  have := digs_of hb hr ht
  rw [hv] at this
  exact this.symm
def nbits (n : Nat) : Nat := if n = 0 then 0 else n.log2 + 1
theorem nbits_le {n k : Nat} : nbits n ≤ k ↔ n < 2 ^ k := by
  unfold nbits
  split
  · rename_i h; subst h; exact ⟨fun _ => Nat.two_pow_pos k, fun _ => Nat.zero_le _⟩
  · rename_i h
    rw [← Nat.log2_lt h]
    omega
theorem nbits_0 : nbits 0 = 0 := rfl
theorem nbits_pos {n : Nat} (h : n ≠ 0) : 0 < nbits n := by unfold nbits; rw [if_neg h]; omega
theorem nbits_mono {m n : Nat} (h : m ≤ n) : nbits m ≤ nbits n := nbits_le.2 (Nat.lt_of_le_of_lt h (nbits_le.1 (Nat.le_refl _)))
theorem nbits_add {w x m : Nat} (hx : x < 2 ^ w) (hm : m ≠ 0) : nbits (x + 2 ^ w * m) = w + nbits m := by
  refine Nat.le_antisymm (nbits_le.2 ?_) ?_
  · have h1 : m < 2 ^ nbits m := nbits_le.1 (Nat.le_refl _)
    rw [Nat.pow_add]
    have h2 : 2 ^ w * (m + 1) ≤ 2 ^ w * 2 ^ nbits m := Nat.mul_le_mul_left _ h1
    rw [Nat.mul_add, Nat.mul_one] at h2
    omega
  · rcases Nat.lt_or_ge (nbits (x + 2 ^ w * m)) (w + nbits m) with h | h
    · exfalso
      have hp := nbits_pos hm
      have h1 : x + 2 ^ w * m < 2 ^ (w + (nbits m - 1)) := nbits_le.1 (by omega)
      rw [Nat.pow_add] at h1
      have h2 : 2 ^ w * m < 2 ^ w * 2 ^ (nbits m - 1) := by omega
      have h3 := nbits_le.2 (Nat.lt_of_mul_lt_mul_left h2)
      omega
    · exact h
theorem bl_nbits : ∀ f n, n < 2 ^ f → bl f n = nbits n
  | 0, n, h => by
    have : n = 0 := by simpa using h
    subst this; rfl
  | f + 1, n, h => by
    simp only [bl]
    split
    · rename_i h0; rw [h0]; rfl
    · rename_i h0
      rw [bl_nbits f (n / 2) (by rw [Nat.pow_succ] at h; omega)]
      by_cases h1 : n / 2 = 0
      · have : n = 1 := by omega
        subst this; rfl
      · have := nbits_add (w := 1) (x := n % 2) (m := n / 2) (by have := Nat.mod_lt n (show 0 < 2 by decide); simpa using this) h1
        rw [Nat.pow_one, Nat.mod_add_div] at this
        rw [this]
theorem nbits_mul {x y : Nat} (hx : x ≠ 0) (hy : y ≠ 0) : nbits x + nbits y ≤ nbits (x * y) + 1 := by
  have h1 := nbits_pos hx
  have h2 := nbits_pos hy
  have h3 : 2 ^ (nbits x - 1) ≤ x := by
    rcases Nat.lt_or_ge x (2 ^ (nbits x - 1)) with h | h
    · have := nbits_le.2 h; omega
    · exact h
  have h4 : 2 ^ (nbits y - 1) ≤ y := by
    rcases Nat.lt_or_ge y (2 ^ (nbits y - 1)) with h | h
    · have := nbits_le.2 h; omega
    · exact h
  rcases Nat.lt_or_ge (nbits (x * y) + 1) (nbits x + nbits y) with h | h
  · exfalso
    have h5 : x * y < 2 ^ ((nbits x - 1) + (nbits y - 1)) := nbits_le.1 (by omega)
    rw [Nat.pow_add] at h5
    have := Nat.mul_le_mul h3 h4
    omega
  · exact h
theorem len_digs {w : Nat} (hw : 1 ≤ w) : ∀ {l : List Int}, rng (2 ^ w) l → tpd l → l ≠ [] → w * (l.length - 1) + nbits (l.getD (l.length - 1) 0).toNat = nbits (vb (2 ^ w) l).toNat
  | [], _, _, h => absurd rfl h
  | [x], _, _, _ => by simp [vb]
  | x :: y :: t, h, ht, _ => by
    have ih := len_digs hw (rng_tail h) (tpd_tail ht) (by simp)
    have h1 := h x (List.mem_cons_self ..)
    have h2 := vb_nonneg (rng_tail h)
    have hb2 : 2 ≤ 2 ^ w := by
      have := Nat.pow_le_pow_right (show 0 < 2 by decide) hw
      simpa using this
    have hc := digs_of hb2 (rng_tail h) (tpd_tail ht)
    obtain ⟨m, hm⟩ : ∃ m : Nat, vb (2 ^ w) (y :: t) = m := ⟨(vb (2 ^ w) (y :: t)).toNat, by omega⟩
    obtain ⟨q, hq⟩ : ∃ q : Nat, x = q := ⟨x.toNat, by omega⟩
    rw [hm] at ih hc
    rw [show ((m : Int)).toNat = m from rfl] at ih hc
    have hm0 : m ≠ 0 := by intro e; rw [e, digs_0] at hc; simp at hc
    have e : (vb (2 ^ w) (x :: y :: t)).toNat = q + 2 ^ w * m := by
      show (x + ((2 ^ w : Nat) : Int) * vb (2 ^ w) (y :: t)).toNat = _
      rw [hm, hq, ← Int.natCast_mul]; omega
    rw [e, nbits_add (by omega) hm0, ← ih]
    simp only [List.length_cons, Nat.add_sub_cancel, List.getD_cons_succ]
    rw [Nat.mul_add, Nat.mul_one]
    omega
theorem u64_rng {l : List Int} (h : u64s l) : rng 18446744073709551616 l := h
theorem trm_app (l : List Int) : ∃ k, l = trm l ++ List.replicate k 0 := by
  have : ∀ k, k ≤ l.length → l.take k = l.take (tN l k) ++ List.replicate (k - tN l k) 0 := by
    intro k
    induction k with
    | zero => intro _; simp [tN]
    | succ k ih =>
      intro hk
      have h1 := ih (by omega)
      have hle := tN_le l k
      simp only [tN]
      split
      · rename_i h0
        rw [List.take_succ_eq_append_getElem (by omega), h1, List.append_assoc, show k + 1 - tN l k = (k - tN l k) + 1 by omega, List.replicate_succ']
        congr 2
        rw [List.getD_eq_getElem?_getD, List.getElem?_eq_getElem (by omega)] at h0
        rw [← h0]; rfl
      · simp
  have h := this l.length (Nat.le_refl _)
  rw [List.take_length] at h
  exact ⟨_, h⟩
theorem vb_app (b : Nat) : ∀ (l : List Int) (k : Nat), vb b (l ++ List.replicate k 0) = vb b l
  | [], 0 => rfl
  | [], k + 1 => by
    rw [List.nil_append, List.replicate_succ]
    simp only [vb]
    have := vb_app b [] k
    rw [List.nil_append] at this
    rw [this]; simp [vb]
  | x :: l, k => by simp only [List.cons_append, vb, vb_app b l k]
theorem vb_trm (b : Nat) (l : List Int) : vb b (trm l) = vb b l := by
  obtain ⟨k, hk⟩ := trm_app l
  have := vb_app b (trm l) k
  rw [← hk] at this
  exact this.symm
theorem rng_trm {b : Nat} {l : List Int} (h : rng b l) : rng b (trm l) := fun x hx => h x (List.mem_of_mem_take hx)
theorem trm_digs {b : Nat} (hb : 2 ≤ b) {l : List Int} {n : Nat} (h : rng b l) (hv : vb b l = n) : trm l = digs b n := cano hb (rng_trm h) (tpd_trm l) (by rw [vb_trm, hv])
/-- A number's size in limbs, in the document's digits; its bits. -/
def lm (v : Int) : List Int := digs 18446744073709551616 v.natAbs
def dg (v : Int) : List Int := digs 4294967296 v.natAbs
def lenV (v : Int) : Nat := nbits v.natAbs
theorem lm_u (v : Int) : u64s (lm v) := rng_digs (by decide) _
theorem lm_t (v : Int) : tpd (lm v) := tpd_digs (by decide) _
theorem lm_v (v : Int) : vl (lm v) = v.natAbs := by rw [← vb_vl]; exact vb_digs (by decide) _
theorem dg_r (v : Int) : rng 4294967296 (dg v) := rng_digs (by decide) _
theorem dg_t (v : Int) : tpd (dg v) := tpd_digs (by decide) _
theorem dg_v (v : Int) : vb 4294967296 (dg v) = v.natAbs := vb_digs (by decide) _
theorem lenN_nbits {l : List Int} (h : u64s l) : lenN l = nbits (vl l).toNat := by
  rw [← vl_trm]
  unfold lenN
  split
  · rename_i h0; rw [List.eq_nil_of_length_eq_zero h0]; rfl
  · rename_i h0
    have h1 := len_digs (w := 64) (by decide) (rng_trm (u64_rng h)) (tpd_trm l) (fun e => h0 (by rw [e]; rfl))
    rw [show (2 ^ 64 : Nat) = 18446744073709551616 by decide, vb_vl] at h1
    rw [← h1, bl_nbits 64]
    have := u64s_getD (u64s_trm h) ((trm l).length - 1)
    omega
theorem dig_rng : ∀ {l : List Int}, u64s l → rng 4294967296 (dig l)
  | [], _ => fun x hx => by simp [dig] at hx
  | y :: l, h => fun x hx => by
    have h1 := h y (List.mem_cons_self ..)
    have h2 := dig_rng (l := l) fun z hz => h z (List.mem_cons_of_mem _ hz)
    have e : dig (y :: l) = y % 4294967296 :: y / 4294967296 :: dig l := rfl
    rw [e] at hx
    rcases List.mem_cons.1 hx with rfl | hx
    · show 0 ≤ y % 4294967296 ∧ y % 4294967296 < ((4294967296 : Nat) : Int); omega
    · rcases List.mem_cons.1 hx with rfl | hx
      · show 0 ≤ y / 4294967296 ∧ y / 4294967296 < ((4294967296 : Nat) : Int); omega
      · exact h2 x hx
theorem vb_dig : ∀ l : List Int, vb 4294967296 (dig l) = vl l
  | [] => rfl
  | y :: l => by
    have e : dig (y :: l) = y % 4294967296 :: y / 4294967296 :: dig l := rfl
    rw [e]
    simp only [vb, vl]
    rw [vb_dig l]
    have : Bs = 18446744073709551616 := rfl
    rw [this]
    omega
theorem sv_abs {s : Bool} {l : List Int} (h : u64s l) : ((sv s l).natAbs : Int) = vl l := by
  have := vl_nonneg h
  unfold sv; split <;> omega
theorem raw_res {s : Bool} {l : List Int} {v : Int} (h : u64s l) (hv : sv s l = v) : (s && decide (0 < ((trm l).length : Int))) = decide (v < 0) ∧ trm l = lm v ∧ lenN l = lenV v := by
  have ha := sv_abs (s := s) h
  rw [hv] at ha
  refine ⟨?_, ?_, ?_⟩
  · have h0 := vl_nonneg h
    have hz := trm_zero h
    unfold sv at hv
    cases s
    · simp at hv ⊢; omega
    · simp only [Bool.true_and, if_true] at hv ⊢
      rw [decide_eq_decide]
      constructor
      · intro h1
        have : vl l ≠ 0 := fun e => by have := hz.2 e; omega
        omega
      · intro h1
        have : (trm l).length ≠ 0 := fun e => by have := hz.1 e; omega
        omega
  · exact trm_digs (by decide) (u64_rng h) (by rw [vb_vl, ← ha])
  · rw [lenN_nbits h]; unfold lenV; congr 1; omega
theorem trm_dig {s : Bool} {l : List Int} {v : Int} (h : u64s l) (hv : sv s l = v) : trm (dig l) = dg v :=
  trm_digs (by decide) (dig_rng h) (by have ha := sv_abs (s := s) h; rw [vb_dig, ← ha, hv])
theorem lenD_eq (v : Int) (h : dg v ≠ []) : 32 * ((dg v).length - 1) + nbits ((dg v).getD ((dg v).length - 1) 0).toNat = lenV v := by
  have := len_digs (w := 32) (by decide) (dg_r v) (dg_t v) h
  rw [show (2 ^ 32 : Nat) = 4294967296 by decide, dg_v] at this
  exact this
theorem dg_nil {v : Int} : dg v = [] ↔ v = 0 := by
  constructor
  · intro h; have := dg_v v; rw [h] at this; simp only [vb] at this; omega
  · rintro rfl; exact digs_0
theorem digs_len {b : Nat} (hb : 2 ≤ b) : ∀ (k n : Nat), n < b ^ k → (digs b n).length ≤ k
  | 0, n, h => by
    have : n = 0 := by simpa using h
    subst this; rw [digs_0]; exact Nat.le_refl _
  | k + 1, n, h => by
    by_cases h0 : n = 0
    · subst h0; rw [digs_0]; exact Nat.zero_le _
    · rw [digs_pos hb h0, List.length_cons]
      have := digs_len hb k (n / b) (Nat.div_lt_of_lt_mul (by rw [Nat.mul_comm, ← Nat.pow_succ]; exact h))
      omega
end Go.Proofs.Ytcfdclehmpfkcaa.Vc

/- Memory that is lent: what lies around a list. Bits counted one by one. Plain Lean. -/
namespace Go.Proofs.Ytcfdclehmpfkcaa.Vc
open Go Go.RowKit

def wrapP (l : List Int) : List Int := 10855845 :: 10855845 :: (l ++ [10855845, 10855845])
def lendA (n i : Nat) : List Int := fillI (List.replicate i 10855845) n
def lendB (l : List Int) (i : Nat) : List Int := 10855845 :: 10855845 :: (l.take i ++ List.replicate (l.length + 2 - i) 10855845)
theorem nbits_half {m : Nat} (h : m ≠ 0) : nbits m = 1 + nbits (m / 2) := by
  by_cases h1 : m / 2 = 0
  · have : m = 1 := by omega
    subst this; rfl
  · have := nbits_add (w := 1) (x := m % 2) (m := m / 2) (by have := Nat.mod_lt m (show 0 < 2 by decide); simpa using this) h1
    rw [Nat.pow_one, Nat.mod_add_div] at this
    exact this
theorem dg_top (v : Int) (i : Nat) : 0 ≤ (dg v).getD i 0 ∧ (dg v).getD i 0 < 4294967296 := by
  by_cases hi : i < (dg v).length
  · rw [List.getD_eq_getElem?_getD, List.getElem?_eq_getElem hi]; exact dg_r v _ (List.getElem_mem hi)
  · rw [List.getD_eq_getElem?_getD, List.getElem?_eq_none (by omega)]; exact ⟨by decide, by decide⟩
theorem lenV_le (v : Int) : lenV v ≤ 32 * (dg v).length := by
  by_cases h : dg v = []
  · rw [dg_nil.1 h]; exact Nat.zero_le _
  · have h1 := lenD_eq v h
    have h2 := dg_top v ((dg v).length - 1)
    have h3 : nbits ((dg v).getD ((dg v).length - 1) 0).toNat ≤ 32 := nbits_le.2 (by rw [show (2 ^ 32 : Nat) = 4294967296 by decide]; omega)
    have : 0 < (dg v).length := List.length_pos_iff.2 h
    omega
/-- What an answer has to be: the number, or the error 'too great'. -/
def Res (v : Int) (s : Bool) (r : List Int) (e : Int) : Prop := (lenV v ≤ 67108864 ∧ s = decide (v < 0) ∧ r = lm v ∧ e = 0) ∨ (67108864 < lenV v ∧ s = false ∧ r = [] ∧ e = 3)
theorem lenV_lm {v : Int} (h : lenV v ≤ 67108864) : (lm v).length ≤ 1048576 := by
  have h1 := (raw_res (s := decide (v < 0)) (v := v) (lm_u v) (by unfold sv; rw [lm_v]; by_cases h : v < 0 <;> simp [h] <;> omega)).2
  have := len_bd (lm_u v) (by rw [h1.2]; exact h)
  rwa [h1.1] at this
theorem Res.len {v : Int} {s : Bool} {r : List Int} {e : Int} (h : Res v s r e) : r.length ≤ 1048576 := by
  rcases h with ⟨h1, _, rfl, _⟩ | ⟨_, _, rfl, _⟩
  · exact lenV_lm h1
  · exact Nat.zero_le _
end Go.Proofs.Ytcfdclehmpfkcaa.Vc

/- Answers with their error, on the way. Plain Lean. -/
namespace Go.Proofs.Ytcfdclehmpfkcaa.Vc
open Go Go.RowKit

def ErrN (x : Int) (r : List Int) (e : Int) : Prop := (e = 0 ∧ good r ∧ vl r = x) ∨ (e = 3 ∧ 67108864 < lenV x)
def ResN (v : Int) (s : Bool) (l : List Int) (e : Int) : Prop := (e = 0 ∧ u64s l ∧ l.length < 1099511627776 ∧ sv s l = v) ∨ (e = 3 ∧ 67108864 < lenV v)
theorem lenN_lenV {l : List Int} {x : Int} (u : u64s l) (hv : vl l = x) : lenN l = lenV x := by
  have := vl_nonneg u
  rw [lenN_nbits u, hv]; unfold lenV; congr 1; omega
theorem errN_ok {l : List Int} {x : Int} (u : u64s l) (hv : vl l = x) (h : lenN l ≤ 67108864) : ErrN x (trm l) 0 := .inl ⟨rfl, good_trm u h, by rw [vl_trm, hv]⟩
theorem errN_big {l r : List Int} {x : Int} (u : u64s l) (hv : vl l = x) (h : 67108864 < lenN l) : ErrN x r 3 := .inr ⟨rfl, by rwa [← lenN_lenV u hv]⟩
theorem errN_great {a b r : List Int} (ua : u64s a) (ub : u64s b) (h1 : 0 < lenN a) (h2 : 0 < lenN b) (h3 : 67108864 < lenN a + lenN b - 1) : ErrN (vl a * vl b) r 3 := by
  refine .inr ⟨rfl, ?_⟩
  have ha := vl_nonneg ua
  have hb := vl_nonneg ub
  have ea := lenN_nbits ua
  have eb := lenN_nbits ub
  obtain ⟨x, hx⟩ : ∃ x : Nat, vl a = x := ⟨(vl a).toNat, by omega⟩
  obtain ⟨y, hy⟩ : ∃ y : Nat, vl b = y := ⟨(vl b).toNat, by omega⟩
  rw [hx] at ea
  rw [hy] at eb
  rw [show ((x : Int)).toNat = x from rfl] at ea
  rw [show ((y : Int)).toNat = y from rfl] at eb
  have hx0 : x ≠ 0 := fun e => by rw [e, nbits_0] at ea; omega
  have hy0 : y ≠ 0 := fun e => by rw [e, nbits_0] at eb; omega
  have := nbits_mul hx0 hy0
  rw [hx, hy, ← Int.natCast_mul]
  unfold lenV
  rw [Int.natAbs_natCast]
  omega
theorem resN_of {x v : Int} {s : Bool} {r : List Int} {e : Int} (h : ErrN x r e) (h0 : 0 ≤ x) (hs : ∀ q, u64s q → vl q = x → sv s q = v) : ResN v s r e := by
  rcases h with ⟨h1, h2, h3⟩ | ⟨h1, h2⟩
  · exact .inl ⟨h1, h2.1, by have := h2.2; omega, hs r h2.1 h3⟩
  · refine .inr ⟨h1, ?_⟩
    have e1 := lm_v x
    have e2 := hs (lm x) (lm_u x) (by rw [e1]; omega)
    have e3 := sv_abs (s := s) (lm_u x)
    rw [e2, e1] at e3
    have e4 : v.natAbs = x.natAbs := by omega
    unfold lenV at h2 ⊢
    rwa [e4]
theorem res_ok {s : Bool} {l : List Int} {v : Int} (u : u64s l) (hv : sv s l = v) (h : lenN l ≤ 67108864) : Res v (s && decide (0 < ((trm l).length : Int))) (trm l) 0 := by
  obtain ⟨h1, h2, h3⟩ := raw_res u hv
  exact .inl ⟨by rwa [← h3], h1, h2, rfl⟩
theorem res_big {s : Bool} {l : List Int} {v : Int} (u : u64s l) (hv : sv s l = v) (h : 67108864 < lenN l) : Res v false [] 3 := by
  obtain ⟨h1, h2, h3⟩ := raw_res u hv
  exact .inr ⟨by rwa [← h3], rfl, rfl, rfl⟩
theorem dg_lenN {l : List Int} {v : Int} {s : Bool} (u : u64s l) (hv : sv s l = v) : (dg v).length ≤ 2 * l.length := by
  rw [← trm_dig u hv]
  have := trm_len (dig l)
  rw [dig_len] at this
  exact this
end Go.Proofs.Ytcfdclehmpfkcaa.Vc

/- The document's naturals: digits of 32 bits. Plain Lean. -/
namespace Go.Proofs.Ytcfdclehmpfkcaa.Vc
open Go Go.RowKit
namespace D
def r32 (l : List Int) : Prop := ∀ x ∈ l, 0 ≤ x ∧ x < 4294967296
def Bs : Int := 4294967296
def vl : List Int → Int
  | [] => 0
  | x :: l => x + Bs * vl l
def pB : Nat → Int
  | 0 => 1
  | k + 1 => Bs * pB k
theorem pB_pos : ∀ k, 0 < pB k
  | 0 => by decide
  | k + 1 => by simp only [pB]; exact Int.mul_pos (by decide) (pB_pos k)
theorem pB_add : ∀ a b, pB (a + b) = pB a * pB b
  | 0, b => by simp [pB]
  | a + 1, b => by rw [show a + 1 + b = (a + b) + 1 by omega]; simp only [pB]; rw [pB_add a b, Int.mul_assoc]
theorem vl_app : ∀ a b : List Int, vl (a ++ b) = vl a + pB a.length * vl b
  | [], b => by simp [vl, pB]
  | x :: a, b => by
    simp only [List.cons_append, vl, List.length_cons, pB]
    rw [vl_app a b, Int.mul_add, Int.mul_assoc, Int.add_assoc]
theorem vl_nonneg : ∀ {l : List Int}, r32 l → 0 ≤ vl l
  | [], _ => Int.le_refl _
  | x :: l, h => by
    have h1 := (h x (List.mem_cons_self ..)).1
    have h2 := vl_nonneg (l := l) fun y hy => h y (List.mem_cons_of_mem _ hy)
    simp only [vl]
    have := Int.mul_nonneg (show (0 : Int) ≤ Bs by decide) h2
    omega
theorem vl_lt : ∀ {l : List Int}, r32 l → vl l < pB l.length
  | [], _ => by decide
  | x :: l, h => by
    have h1 := (h x (List.mem_cons_self ..)).2
    have h2 := vl_lt (l := l) fun y hy => h y (List.mem_cons_of_mem _ hy)
    simp only [vl, List.length_cons, pB]
    have h3 : vl l + 1 ≤ pB l.length := h2
    have h4 := Int.mul_le_mul_of_nonneg_left h3 (show (0 : Int) ≤ Bs by decide)
    rw [Int.mul_add, Int.mul_one] at h4
    have h5 : x < Bs := h1
    omega
def vk (l : List Int) (k : Nat) : Int := vl (l.take k)
theorem vk_0 (l : List Int) : vk l 0 = 0 := by unfold vk; simp [vl]
theorem vk_all {l : List Int} {k : Nat} (h : l.length ≤ k) : vk l k = vl l := by unfold vk; rw [List.take_of_length_le h]
theorem vk_succ (l : List Int) (k : Nat) : vk l (k + 1) = vk l k + pB k * l.getD k 0 := by
  unfold vk
  by_cases h : k < l.length
  · rw [List.take_succ_eq_append_getElem h, vl_app, List.length_take, Nat.min_eq_left (by omega), List.getD_eq_getElem?_getD, List.getElem?_eq_getElem h]
    simp [vl]
  · rw [List.take_of_length_le (by omega), List.take_of_length_le (by omega), getD_ge (by omega)]
    simp
theorem vl_set : ∀ (l : List Int) (j : Nat) (v : Int), j < l.length → vl (l.set j v) = vl l + pB j * (v - l.getD j 0)
  | [], j, v, h => by simp at h
  | x :: l, 0, v, _ => by
    have e : (x :: l).getD 0 0 = x := rfl
    simp only [List.set_cons_zero, vl, pB, e]; omega
  | x :: l, j + 1, v, h => by
    have ih := vl_set l j v (by simpa using h)
    have e : (x :: l).getD (j + 1) 0 = l.getD j 0 := rfl
    simp only [List.set_cons_succ, vl, pB, e]
    rw [ih, Int.mul_add, Int.mul_assoc]; omega
theorem school_in {o o2 b : List Int} {i k : Nat} {c c2 x t s : Int} (hj : i + k < o.length) (ho2 : o2 = o.set (i + k) s) (ht : o.getD (i + k) 0 = t) {V : Int}
    (hv : vl o + c * pB (i + k) = V + x * pB i * vk b k) (hs : s + 4294967296 * c2 = t + x * b.getD k 0 + c) : vl o2 + c2 * pB (i + (k + 1)) = V + x * pB i * vk b (k + 1) := by
  subst ho2
  rw [vl_set _ _ _ hj, ht, vk_succ, show i + (k + 1) = (i + k) + 1 by omega]
  simp only [pB]
  have hB : Bs = 4294967296 := rfl
  have e1 : c2 * (Bs * pB (i + k)) = pB (i + k) * (4294967296 * c2) := by rw [hB, ← Int.mul_assoc, Int.mul_comm (c2 * 4294967296), Int.mul_comm c2]
  have e2 : x * pB i * (vk b k + pB k * b.getD k 0) = x * pB i * vk b k + pB (i + k) * (x * b.getD k 0) := by
    rw [Int.mul_add, pB_add]
    congr 1
    rw [Int.mul_assoc, Int.mul_left_comm (pB i * pB k), Int.mul_assoc (pB i)]
  have e3 : pB (i + k) * (s - t) + pB (i + k) * (4294967296 * c2) = pB (i + k) * (x * b.getD k 0) + pB (i + k) * c := by
    rw [← Int.mul_add, ← Int.mul_add]; congr 1; omega
  rw [e1, e2]
  have e4 : c * pB (i + k) = pB (i + k) * c := Int.mul_comm _ _
  omega
theorem school_row {o o2 a b : List Int} {i : Nat} {c : Int} (hj : i + b.length < o.length) (h0 : o.getD (i + b.length) 0 = 0) (ho2 : o2 = o.set (i + b.length) c)
    (hv : vl o + c * pB (i + b.length) = vk a i * vl b + a.getD i 0 * pB i * vk b b.length) : vl o2 = vk a (i + 1) * vl b := by
  subst ho2
  rw [vl_set _ _ _ hj, h0, vk_succ, Int.add_mul]
  rw [vk_all (Nat.le_refl _)] at hv
  have e : pB i * a.getD i 0 * vl b = a.getD i 0 * pB i * vl b := by rw [Int.mul_comm (pB i)]
  have e4 : c * pB (i + b.length) = pB (i + b.length) * c := Int.mul_comm _ _
  rw [e, Int.sub_zero]
  omega
end D
theorem rng_getD {b : Nat} (hb : 0 < b) {l : List Int} (h : rng b l) (i : Nat) : 0 ≤ l.getD i 0 ∧ l.getD i 0 < (b : Int) := by
  by_cases hi : i < l.length
  · rw [List.getD_eq_getElem?_getD, List.getElem?_eq_getElem hi]; exact h _ (List.getElem_mem hi)
  · rw [List.getD_eq_getElem?_getD, List.getElem?_eq_none (by omega)]; exact ⟨Int.le_refl _, by show (0 : Int) < b; omega⟩
abbrev B32 : Nat := 4294967296
def dgt (z j : Nat) : Int := ((z / B32 ^ j % B32 : Nat) : Int)
def dvl (z m : Nat) : List Int := (List.range m).map (dgt z)
/-- The carry into a digit of a sum. -/
def cry (x y i : Nat) : Nat := (x % B32 ^ i + y % B32 ^ i) / B32 ^ i
/-- The borrow into a digit of a difference. -/
def brw (x y i : Nat) : Nat := if x % B32 ^ i < y % B32 ^ i then 1 else 0
end Go.Proofs.Ytcfdclehmpfkcaa.Vc

/- The document's numbers with a sign. Plain Lean. -/
namespace Go.Proofs.Ytcfdclehmpfkcaa.Vc
open Go Go.RowKit
def zs (s : Bool) (n : Nat) : Int := if s = true then -(n : Int) else n
theorem cmp_le {x y : Nat} (hc : 0 ≤ cmpI (x : Int) y) : y ≤ x := by
  rcases Nat.lt_or_ge x y with h1 | h1
  · have : cmpI (x : Int) y = -1 := if_pos (by omega)
    omega
  · exact h1
theorem sgn_cases {x : Int} : (x < 0 ∧ sgnI x = -1) ∨ (x = 0 ∧ sgnI x = 0) ∨ (0 < x ∧ sgnI x = 1) := by
  unfold sgnI
  rcases Int.lt_trichotomy x 0 with h | h | h
  · exact .inl ⟨h, by rw [if_neg (by omega), if_pos h]⟩
  · exact .inr (.inl ⟨h, by rw [if_pos h]⟩)
  · exact .inr (.inr ⟨h, by rw [if_neg (by omega), if_neg (by omega)]⟩)
end Go.Proofs.Ytcfdclehmpfkcaa.Vc

/- What is fixed about the types: sizes, parts, zeros. -/
namespace Go.Proofs.Ytcfdclehmpfkcaa.Vc
open Go Go.RowKit
theorem mixed : Try.prog.follows .mixedOrders = true := by kernel_rfl
theorem sl28 : slB Try.prog 24 90 1 = true := by kernel_rfl
theorem one82 : oneB Try.prog 90 = true := by kernel_rfl
theorem undS28 : Try.prog.underlying 24 = some (.slice 90) := by kernel_rfl
theorem el28 : elP Try.prog 24 90 1 8 (.int .u64 0) := elP_of undS28 (by kernel_rfl) rfl (by decide)
theorem und9 : Try.prog.underlying 9 = some .string := by kernel_rfl
theorem und82 : Try.prog.underlying 90 = some (.int .u64) := by kernel_rfl
theorem und5 : Try.prog.underlying 5 = some (.int .u8) := by kernel_rfl
theorem und3 : Try.prog.underlying 3 = some (.int .i64) := by kernel_rfl
theorem sl33 : slB Try.prog 28 90 1 = true := by kernel_rfl
theorem sl25 : slB Try.prog 23 90 1 = true := by kernel_rfl
theorem undS33 : Try.prog.underlying 28 = some (.slice 90) := by kernel_rfl
theorem el33 : elP Try.prog 28 90 1 8 (.int .u64 0) := elP_of undS33 (by kernel_rfl) rfl (by decide)
theorem one4 : oneB Try.prog 4 = true := by kernel_rfl
theorem und4 : Try.prog.underlying 4 = some .bool := by kernel_rfl
theorem zero30 : ((Try.prog.info? 66).bind (·.zero)).map (·.cells.toList) = some [(.bool false), (.slice none 0 0)] := by kernel_rfl
theorem fld30_1 : fldB Try.prog 66 1 1 1 = true := by kernel_rfl
theorem one28 : oneB Try.prog 24 = true := by kernel_rfl
theorem fld30_0 : fldB Try.prog 66 0 0 1 = true := by kernel_rfl
theorem pls30_0_1 : plsB Try.prog 66 [0, 1] [(0, 1), (1, 1)] = true := by kernel_rfl
theorem siz30 : (Try.prog.info? 66).any (·.size == 2) = true := by kernel_rfl
theorem agg30 : aggB Try.prog 66 2 = true := by kernel_rfl
theorem pls30_1 : plsB Try.prog 66 [1] [(1, 1)] = true := by kernel_rfl
theorem zero102 : ((Try.prog.info? 169).bind (·.zero)).map (·.cells.toList) = some [.nilFunc, .nilFunc, .nilFunc, .nilFunc, .nilFunc] := by kernel_rfl
theorem siz102 : (Try.prog.info? 169).any (·.size == 5) = true := by kernel_rfl
theorem agg102 : aggB Try.prog 169 5 = true := by kernel_rfl
theorem undA102 : Try.prog.underlying 169 = some (.array 5 168) := by kernel_rfl
theorem one101 : oneB Try.prog 168 = true := by kernel_rfl
theorem siz82m : (Try.prog.info? 90).map (·.size) = some 1 := by kernel_rfl
theorem pls30_ : plsB Try.prog 66 [] [] = true := by kernel_rfl
theorem one25 : oneB Try.prog 23 = true := by kernel_rfl
end Go.Proofs.Ytcfdclehmpfkcaa.Vc

/- More that is fixed about the types. -/
namespace Go.Proofs.Ytcfdclehmpfkcaa.Vc
open Go Go.RowKit
theorem sl81 : slB Try.prog 103 23 1 = true := by kernel_rfl
end Go.Proofs.Ytcfdclehmpfkcaa.Vc

/- Still more that is fixed about the types. -/
namespace Go.Proofs.Ytcfdclehmpfkcaa.Vc
open Go Go.RowKit
theorem und116 : Try.prog.underlying 57 = some (.int .u64) := by kernel_rfl
end Go.Proofs.Ytcfdclehmpfkcaa.Vc

/- What is fixed about the types: Tq. -/
namespace Go.Proofs.Ytcfdclehmpfkcaa.Vc
open Go Go.RowKit
theorem undS81 : Try.prog.underlying 103 = some (.slice 23) := by kernel_rfl
theorem el81 : elP Try.prog 103 23 1 24 (.slice none 0 0) := elP_of undS81 (by kernel_rfl) rfl (by decide)
end Go.Proofs.Ytcfdclehmpfkcaa.Vc

/- What is fixed about the types: Tr. -/
namespace Go.Proofs.Ytcfdclehmpfkcaa.Vc
open Go Go.RowKit
theorem undS1039 : Try.prog.underlying 39 = some (.slice 3) := by kernel_rfl
theorem el1039 : elP Try.prog 39 3 1 8 (.int .i64 0) := elP_of undS1039 (by kernel_rfl) rfl (by decide)
theorem sl1039 : slB Try.prog 39 3 1 = true := by kernel_rfl
theorem one3 : oneB Try.prog 3 = true := by kernel_rfl
theorem one1146 : oneB Try.prog 146 = true := by kernel_rfl
theorem sl1146 : slB Try.prog 146 24 1 = true := by kernel_rfl
theorem one1106 : oneB Try.prog 106 = true := by kernel_rfl
theorem undS1146 : Try.prog.underlying 146 = some (.slice 24) := by kernel_rfl
theorem el1146 : elP Try.prog 146 24 1 24 (.slice none 0 0) := elP_of undS1146 (by kernel_rfl) rfl (by decide)
theorem zero1146 : ((Try.prog.info? 146).bind (·.zero)).map (·.cells.toList) = some [(.slice none 0 0)] := by kernel_rfl
theorem siz1146 : (Try.prog.info? 146).any (·.size == 1) = true := by kernel_rfl
theorem zero1106 : ((Try.prog.info? 106).bind (·.zero)).map (·.cells.toList) = some [.nilFunc] := by kernel_rfl
theorem siz1106 : (Try.prog.info? 106).any (·.size == 1) = true := by kernel_rfl
theorem undS1104 : Try.prog.underlying 104 = some (.slice 5) := by kernel_rfl
theorem el1104 : elP Try.prog 104 5 1 1 (.int .u8 0) := elP_of undS1104 (by kernel_rfl) rfl (by decide)
theorem sl1104 : slB Try.prog 104 5 1 = true := by kernel_rfl
theorem one5 : oneB Try.prog 5 = true := by kernel_rfl
end Go.Proofs.Ytcfdclehmpfkcaa.Vc

/- Rows that are written over, and grow: how the objects look on the way. -/
namespace Go.Proofs.Ytcfdclehmpfkcaa.Vc
open Go Go.RowKit
def rowsJ (n : Nat) (L : Ob) (f : Nat → Ob) (J : List Ob) : List Ob := L :: ((List.range n).map f ++ J)
def upd (f : Nat → Ob) (i : Nat) (o : Ob) : Nat → Ob := fun j => if j = i then o else f j
section
variable {n : Nat} {L : Ob} {f : Nat → Ob} {J : List Ob}
end
def owC (j : Nat) : Int := ((j % 251 + 1 : Nat) : Int)
def owB (j : Nat) : List Int := [((300 + 5 * j : Nat) : Int), ((300 + 5 * j + 1 : Nat) : Int), ((300 + 5 * j + 2 : Nat) : Int), ((300 + 5 * j + 3 : Nat) : Int), ((300 + 5 * j + 4 : Nat) : Int)]
def owL (n : Nat) (rs : Nat → List Int) (i : Nat) : Ob := ⟨23, 1, 0, true, (List.range n).map fun j => if j < i then .o (j + 1) 1 0 ((rs j).length + 5) else .o (j + 1) 0 0 (rs j).length⟩
def owL0 (n : Nat) (rs : Nat → List Int) : Ob := ⟨23, 1, 0, true, (List.range n).map fun j => .o (j + 1) 0 0 (rs j).length⟩
def owR (rs : Nat → List Int) (j : Nat) : Ob := ⟨90, 1, 0, true, ints .u64 (rs j)⟩
def owF (rs : Nat → List Int) (i j : Nat) : Ob := ⟨90, 1, 0, true, ints .u64 (if j < i then List.replicate (rs j).length (owC j) else rs j)⟩
def owK (rs : Nat → List Int) (i k : Nat) : Ob := ⟨90, 1, 0, true, ints .u64 (List.replicate k (owC i) ++ (rs i).drop k)⟩
def owE (rs : Nat → List Int) (j : Nat) : Ob := ⟨90, 1, 1, true, ints .u64 (List.replicate (rs j).length (owC j) ++ owB j)⟩
def owG (rs : Nat → List Int) (i j : Nat) : Ob := if j < i then owE rs j else ⟨90, 1, 0, true, ints .u64 (List.replicate (rs j).length (owC j))⟩
section
variable {n : Nat} {rs : Nat → List Int} {J : List Ob}
end
end Go.Proofs.Ytcfdclehmpfkcaa.Vc

/- How long the document's numbers are; rows for Own. Plain Lean. -/
namespace Go.Proofs.Ytcfdclehmpfkcaa.Vc
open Go Go.RowKit
section
variable {n : Nat} {rs : Nat → List Int}
end
def rsOf (l : List (List Int)) (j : Nat) : List Int := l.getD j []
end Go.Proofs.Ytcfdclehmpfkcaa.Vc

/- Bits of the document's numbers; ints. Plain Lean. -/
namespace Go.Proofs.Ytcfdclehmpfkcaa.Vc
open Go Go.RowKit
/-- The noughts at the end. -/
def Tz (x t : Nat) : Prop := 2 ^ t ∣ x ∧ x / 2 ^ t % 2 = 1
def inI (v : Int) : Prop := -9223372036854775808 ≤ v ∧ v < 9223372036854775808
instance (v : Int) : Decidable (inI v) := by unfold inI; infer_instance
theorem len64 {v : Int} : lenV v ≤ 64 ↔ v.natAbs < 18446744073709551616 := by
  unfold lenV
  rw [nbits_le]
def fl (v : Int) : List Int := if v = 0 then [] else [v]
theorem lm_small {v : Int} (h : v.natAbs < 18446744073709551616) : lm v = fl ((v.natAbs : Nat) : Int) := by
  unfold lm fl
  by_cases h0 : v.natAbs = 0
  · rw [h0, digs_0]; rfl
  · rw [digs_pos (by decide) h0, Nat.mod_eq_of_lt h, Nat.div_eq_of_lt h, digs_0, if_neg (by omega)]
theorem lm_i64 {v : Int} (h : v.natAbs < 18446744073709551616) : (lm v).length ≤ 1 := by
  rw [lm_small h]; unfold fl; split <;> simp
theorem sv_lm (v : Int) : sv (decide (v < 0)) (lm v) = v := by
  unfold sv; rw [lm_v]; by_cases h : v < 0 <;> simp [h] <;> omega
end Go.Proofs.Ytcfdclehmpfkcaa.Vc

/- Division of limbs and of naturals by Knuth's way, in plain Lean. -/
namespace Go.Proofs.Ytcfdclehmpfkcaa.Vc
open Go Go.RowKit

theorem p2pos (s : Nat) : (0 : Int) < 2 ^ s := Int.pow_pos (by decide)
theorem p2split {s : Nat} (h : s ≤ 64) : (2 : Int) ^ (64 - s) * 2 ^ s = 18446744073709551616 := by
  rw [← Int.pow_add, show 64 - s + s = 64 by omega]; rfl
theorem p2succ {s : Nat} (h : s < 64) : (2 : Int) * 2 ^ (63 - s) = 2 ^ (64 - s) := by
  rw [show 64 - s = (63 - s) + 1 by omega, Int.pow_succ, Int.mul_comm]
theorem p2le {s : Nat} (h : s < 64) : (2 : Int) ^ s ≤ 9223372036854775808 := by
  have h1 : (2 : Nat) ^ s ≤ 2 ^ 63 := Nat.pow_le_pow_right (by decide) (by omega)
  have h2 : ((2 ^ s : Nat) : Int) ≤ ((2 ^ 63 : Nat) : Int) := Int.ofNat_le.2 h1
  rw [Int.natCast_pow] at h2
  simpa using h2
theorem sh_min {s : Nat} (h : s ≤ 64) : min ((s : Int)).toNat 64 = s := by omega
theorem shr_sym {x : Int} {s : Nat} (h : s ≤ 64) : x.fdiv (2 ^ min ((s : Int)).toNat 64) = x / 2 ^ s := by
  rw [sh_min h]; exact Int.fdiv_eq_ediv_of_nonneg _ (Int.le_of_lt (p2pos s))
theorem shl_sym {x : Int} {s : Nat} (h : s ≤ 64) : IntKind.u64.wrap (x * 2 ^ min ((s : Int)).toNat 64) = x * 2 ^ s % 18446744073709551616 := by
  rw [sh_min h]; exact u64_wrap_mod
/-- The low and the high part of a limb that is shifted to the left. -/
def loS (x : Int) (s : Nat) : Int := x * 2 ^ s % 18446744073709551616
def hiS (x : Int) (s : Nat) : Int := x / 2 ^ (64 - s)
theorem loS_eq {x : Int} {s : Nat} (h : s ≤ 64) : loS x s = 2 ^ s * (x % 2 ^ (64 - s)) := by
  unfold loS
  rw [← p2split h, Int.mul_comm x, Int.mul_comm (2 ^ (64 - s)) (2 ^ s), Int.mul_emod_mul_of_pos _ _ (p2pos s)]
theorem lohi {x : Int} {s : Nat} (h : s ≤ 64) : x * 2 ^ s = 18446744073709551616 * hiS x s + loS x s := by
  rw [loS_eq h, ← p2split h]
  unfold hiS
  have e := Int.emod_add_mul_ediv x (2 ^ (64 - s))
  generalize hk : x / 2 ^ (64 - s) = k at e ⊢
  generalize hr : x % 2 ^ (64 - s) = r at e ⊢
  rw [← e, Int.add_mul, Int.mul_comm r]
  rw [Int.mul_right_comm]
  omega
theorem hiS_bd {x : Int} {s : Nat} (h : s ≤ 64) (h0 : 0 ≤ x) (h1 : x < 18446744073709551616) : 0 ≤ hiS x s ∧ hiS x s < 2 ^ s := by
  unfold hiS
  refine ⟨Int.ediv_nonneg h0 (Int.le_of_lt (p2pos _)), ?_⟩
  refine Int.ediv_lt_of_lt_mul (p2pos _) ?_
  rw [Int.mul_comm, p2split h]; exact h1
theorem loS_bd {x : Int} {s : Nat} : 0 ≤ loS x s ∧ loS x s < 18446744073709551616 := by unfold loS; omega
theorem shr_two {x : Int} {s : Nat} (h : s < 64) : x / 2 / 2 ^ (63 - s) = hiS x s := by
  unfold hiS; rw [Int.ediv_ediv_of_nonneg (by decide), p2succ h]
theorem shl_two {x : Int} {s : Nat} (h : s < 64) : x * 2 % 18446744073709551616 * 2 ^ (63 - s) % 18446744073709551616 = loS x (64 - s) := by
  unfold loS
  rw [Int.mul_emod, Int.emod_emod, ← Int.mul_emod, Int.mul_assoc, p2succ h]
theorem or_add {x y : Int} {k : Nat} (hx0 : 0 ≤ x) (hx : x < 2 ^ k) (hy0 : 0 ≤ y) (hy : 2 ^ k * y < 18446744073709551616) (hk : k ≤ 64) : bitop .or .u64 x (2 ^ k * y) = x + 2 ^ k * y := by
  obtain ⟨m, rfl⟩ := Int.eq_ofNat_of_zero_le hx0
  obtain ⟨n, rfl⟩ := Int.eq_ofNat_of_zero_le hy0
  have hp : ((2 ^ k : Nat) : Int) = (2 : Int) ^ k := by rw [Int.natCast_pow]; rfl
  rw [← hp] at hx hy ⊢
  rw [← Int.natCast_mul] at hy ⊢
  have hm : m < 2 ^ k := Int.ofNat_lt.1 hx
  have hn : 2 ^ k * n < 18446744073709551616 := by omega
  have hm2 : m < 18446744073709551616 := Nat.lt_of_lt_of_le hm (Nat.pow_le_pow_right (by decide) hk)
  unfold bitop
  simp only [IntKind.bits]
  have e1 : (BitVec.ofInt 64 (m : Int)).toNat = m := by rw [BitVec.toNat_ofInt]; simp; omega
  have e2 : (BitVec.ofInt 64 ((2 ^ k * n : Nat) : Int)).toNat = 2 ^ k * n := by
    generalize 2 ^ k * n = t at hn
    rw [BitVec.toNat_ofInt]; simp; omega
  have e3 : (BitVec.ofInt 64 (m : Int) ||| BitVec.ofInt 64 ((2 ^ k * n : Nat) : Int)).toNat = m + 2 ^ k * n := by
    rw [BitVec.toNat_or, e1, e2, Nat.or_comm, ← Nat.two_pow_add_eq_or_of_lt hm, Nat.add_comm]
  show IntKind.u64.wrap (((BitVec.ofInt 64 (m : Int) ||| BitVec.ofInt 64 ((2 ^ k * n : Nat) : Int)).toNat : Nat) : Int) = _
  rw [e3]
  have hs : m + 2 ^ k * n < 18446744073709551616 := by
    have := (BitVec.ofInt 64 (m : Int) ||| BitVec.ofInt 64 ((2 ^ k * n : Nat) : Int)).isLt
    rw [e3] at this; simpa using this
  generalize 2 ^ k * n = t at hs ⊢
  rw [wrap_u64 (by omega) (by omega)]
  omega
theorem or_lo {c x : Int} {s : Nat} (h : s ≤ 64) (hc0 : 0 ≤ c) (hc : c < 2 ^ s) (hx0 : 0 ≤ x) : bitop .or .u64 c (loS x s) = c + loS x s ∧ c + loS x s < 18446744073709551616 := by
  have hb := @loS_bd x s
  rw [loS_eq h] at hb ⊢
  have hx : 0 ≤ x % 2 ^ (64 - s) := Int.emod_nonneg _ (Int.ne_of_gt (p2pos _))
  have hx2 : x % 2 ^ (64 - s) < 2 ^ (64 - s) := Int.emod_lt_of_pos _ (p2pos _)
  refine ⟨or_add hc0 hc hx hb.2 h, ?_⟩
  have e := p2split h
  have h3 : 2 ^ s * (x % 2 ^ (64 - s)) ≤ 2 ^ s * (2 ^ (64 - s) - 1) := Int.mul_le_mul_of_nonneg_left (by omega) (Int.le_of_lt (p2pos s))
  rw [Int.mul_sub, Int.mul_comm (2 ^ s) (2 ^ (64 - s)), e] at h3
  omega
/-- A number shifted to the left by less than a limb. -/
def upN (a : List Int) (s : Nat) : Nat → List Int × Int
  | 0 => ([], 0)
  | i + 1 => ((upN a s i).1 ++ [(upN a s i).2 + loS (a.getD i 0) s], hiS (a.getD i 0) s)
theorem upN_len (a : List Int) (s : Nat) : ∀ i, (upN a s i).1.length = i
  | 0 => rfl
  | i + 1 => by simp [upN, upN_len a s i]
theorem upN_c {a : List Int} {s : Nat} (hs : s ≤ 64) (ha : u64s a) : ∀ i, 0 ≤ (upN a s i).2 ∧ (upN a s i).2 < 2 ^ s
  | 0 => ⟨Int.le_refl 0, p2pos s⟩
  | i + 1 => hiS_bd hs (u64s_getD ha i).1 (u64s_getD ha i).2
theorem upN_u {a : List Int} {s : Nat} (hs : s ≤ 64) (ha : u64s a) : ∀ i, u64s (upN a s i).1
  | 0 => fun x hx => by simp [upN] at hx
  | i + 1 => by
    have hc := upN_c hs ha i
    have hl := @loS_bd (a.getD i 0) s
    exact u64s_app1 (upN_u hs ha i) (by omega) (or_lo hs hc.1 hc.2 (u64s_getD ha i).1).2
theorem upN_val {a : List Int} {s : Nat} (hs : s ≤ 64) : ∀ i, vl (upN a s i).1 + pB i * (upN a s i).2 = vk a i * 2 ^ s
  | 0 => by rw [vk_0]; simp [upN, vl]
  | i + 1 => by
    have h := upN_val (a := a) hs i
    have e := lohi (x := a.getD i 0) hs
    rw [vk_succ, Int.add_mul, ← h]
    simp only [upN]
    rw [vl_app, upN_len, Int.mul_assoc (pB i) (a.getD i 0), e]
    simp only [vl, pB]
    have hB : Bs = 18446744073709551616 := rfl
    rw [hB]
    generalize (upN a s i).2 = c
    generalize loS (a.getD i 0) s = lo
    generalize hiS (a.getD i 0) s = hi
    generalize pB i = p
    have e1 : p * (18446744073709551616 * hi + lo) = 18446744073709551616 * p * hi + p * lo := by rw [Int.mul_add, ← Int.mul_assoc, Int.mul_comm p]
    have e2 : p * (c + lo + 18446744073709551616 * 0) = p * c + p * lo := by rw [Int.mul_zero, Int.add_zero, Int.mul_add]
    rw [e1, e2]
    omega
def upL (a : List Int) (s : Nat) : List Int := (upN a s a.length).1 ++ [(upN a s a.length).2]
theorem upL_len (a : List Int) (s : Nat) : (upL a s).length = a.length + 1 := by simp [upL, upN_len]
theorem upL_u {a : List Int} {s : Nat} (hs : s < 64) (ha : u64s a) : u64s (upL a s) := by
  have hc := upN_c (Nat.le_of_lt hs) ha a.length
  have := p2le hs
  exact u64s_app1 (upN_u (Nat.le_of_lt hs) ha _) hc.1 (by omega)
theorem upL_val {a : List Int} {s : Nat} (hs : s ≤ 64) : vl (upL a s) = vl a * 2 ^ s := by
  unfold upL
  rw [vl_app, upN_len]
  have h := upN_val (a := a) hs a.length
  rw [vk_all (Nat.le_refl _)] at h
  rw [← h]; simp [vl]
theorem set_mid2 {l : List Int} {c v : Int} {n : Nat} : (fillI (l ++ [c]) n).set ((0 + l.length) * 1) v = fillI (l ++ [v]) n := by
  rw [Nat.zero_add, Nat.mul_one]
  unfold fillI
  rw [List.append_assoc, List.append_assoc, List.set_append_right _ _ (Nat.le_refl _), Nat.sub_self]
  simp
theorem get_mid2 {l : List Int} {c : Int} {n : Nat} : (fillI (l ++ [c]) n).getD ((0 + l.length) * 1) 0 = c := by
  rw [Nat.zero_add, Nat.mul_one]
  unfold fillI
  rw [List.append_assoc, List.getD_eq_getElem?_getD, List.getElem?_append_right (Nat.le_refl _), Nat.sub_self]
  simp
/-- The row that nat up fills. -/
def upR (a : List Int) (s i : Nat) : List Int := fillI ((upN a s i).1 ++ [(upN a s i).2]) (a.length + 1)
theorem upR_len {a : List Int} {s i : Nat} (h : i ≤ a.length) : (upR a s i).length = a.length + 1 := fillI_len (by simp [upN_len]; omega)
theorem upR_0 {a : List Int} {s : Nat} : List.replicate (a.length + 1) (0 : Int) = upR a s 0 := by
  unfold upR fillI; simp [upN, List.replicate_succ]
theorem upR_get {a : List Int} {s i : Nat} : (upR a s i).getD ((0 + i) * 1) 0 = (upN a s i).2 := by
  have h := @get_mid2 (upN a s i).1 (upN a s i).2 (a.length + 1)
  rw [upN_len] at h; exact h
theorem upR_set {a : List Int} {s i : Nat} (h : i < a.length) : ((upR a s i).set ((0 + i) * 1) ((upN a s i).2 + loS (a.getD i 0) s)).set ((0 + (i + 1)) * 1) (hiS (a.getD i 0) s) = upR a s (i + 1) := by
  have h1 := @set_mid2 (upN a s i).1 (upN a s i).2 ((upN a s i).2 + loS (a.getD i 0) s) (a.length + 1)
  rw [upN_len] at h1
  unfold upR
  rw [h1]
  have hl : (upN a s (i + 1)).1.length = i + 1 := upN_len a s (i + 1)
  have h2 := @fillI_set (upN a s (i + 1)).1 (a.length + 1) (hiS (a.getD i 0) s) (by omega)
  rw [hl] at h2
  rw [Nat.zero_add, Nat.mul_one]
  exact h2
theorem upR_end {a : List Int} {s : Nat} : upR a s a.length = upL a s := fillI_full (by simp [upN_len])
/-- A number shifted back. -/
def dnD (a : List Int) (s i : Nat) : Int := a.getD i 0 / 2 ^ s + loS (a.getD (i + 1) 0) (64 - s)
def dnN (a : List Int) (s : Nat) : Nat → List Int
  | 0 => []
  | i + 1 => dnN a s i ++ [dnD a s i]
theorem dnN_len (a : List Int) (s : Nat) : ∀ i, (dnN a s i).length = i
  | 0 => rfl
  | i + 1 => by simp [dnN, dnN_len a s i]
theorem sr_bd {x : Int} {s : Nat} (h : s ≤ 64) (h0 : 0 ≤ x) (h1 : x < 18446744073709551616) : 0 ≤ x / 2 ^ s ∧ x / 2 ^ s < 2 ^ (64 - s) := by
  have := hiS_bd (x := x) (s := 64 - s) (by omega) h0 h1
  unfold hiS at this
  rwa [show 64 - (64 - s) = s by omega] at this
theorem dn_or {x y : Int} {s : Nat} (h : s ≤ 64) (h0 : 0 ≤ x) (h1 : x < 18446744073709551616) (hy : 0 ≤ y) : bitop .or .u64 (x / 2 ^ s) (loS y (64 - s)) = x / 2 ^ s + loS y (64 - s) ∧ x / 2 ^ s + loS y (64 - s) < 18446744073709551616 := by
  have hb := sr_bd h h0 h1
  exact or_lo (by omega) hb.1 hb.2 hy
theorem dnD_bd {a : List Int} {s i : Nat} (h : s ≤ 64) (ha : u64s a) : 0 ≤ dnD a s i ∧ dnD a s i < 18446744073709551616 := by
  have hx := u64s_getD ha i
  have hb := sr_bd h hx.1 hx.2
  have hl := @loS_bd (a.getD (i + 1) 0) (64 - s)
  exact ⟨by unfold dnD; omega, (dn_or h hx.1 hx.2 (u64s_getD ha (i + 1)).1).2⟩
theorem dnN_u {a : List Int} {s : Nat} (hs : s ≤ 64) (ha : u64s a) : ∀ i, u64s (dnN a s i)
  | 0 => fun x hx => by simp [dnN] at hx
  | i + 1 => u64s_app1 (dnN_u hs ha i) (dnD_bd hs ha).1 (dnD_bd hs ha).2
theorem dnD_val {a : List Int} {s i : Nat} (hs : s ≤ 64) : 2 ^ s * dnD a s i = a.getD i 0 - a.getD i 0 % 2 ^ s + 18446744073709551616 * (a.getD (i + 1) 0 % 2 ^ s) := by
  unfold dnD
  rw [loS_eq (show 64 - s ≤ 64 by omega), show 64 - (64 - s) = s by omega]
  have e := Int.emod_add_mul_ediv (a.getD i 0) (2 ^ s)
  rw [Int.mul_add, ← Int.mul_assoc, Int.mul_comm (2 ^ s) (2 ^ (64 - s)), p2split hs]
  omega
theorem dnN_val {a : List Int} {s : Nat} (hs : s ≤ 64) : ∀ i, 2 ^ s * vl (dnN a s i) = vk a i - a.getD 0 0 % 2 ^ s + pB i * (a.getD i 0 % 2 ^ s)
  | 0 => by rw [vk_0]; simp [dnN, vl, pB]; omega
  | i + 1 => by
    have h := dnN_val (a := a) hs i
    have e := dnD_val (a := a) (i := i) hs
    rw [vk_succ]
    simp only [dnN]
    rw [vl_app, dnN_len, Int.mul_add, h, Int.mul_left_comm]
    have : vl [dnD a s i] = dnD a s i := by simp [vl]
    rw [this, e, Int.mul_add, Int.mul_sub]
    simp only [pB]
    have hB : Bs = 18446744073709551616 := rfl
    rw [hB, ← Int.mul_assoc (pB i), Int.mul_comm (pB i) 18446744073709551616]
    omega
theorem low_mod {a : List Int} {s : Nat} (hs : s ≤ 64) {x : Int} (h : vl a = 2 ^ s * x) : a.getD 0 0 % 2 ^ s = 0 := by
  cases a with
  | nil => simp
  | cons y l =>
    simp only [vl] at h
    show y % 2 ^ s = 0
    have hB : Bs = 2 ^ s * 2 ^ (64 - s) := by rw [Int.mul_comm, p2split hs]; rfl
    rw [hB, Int.mul_assoc] at h
    have : y = 2 ^ s * (x - 2 ^ (64 - s) * vl l) := by rw [Int.mul_sub]; omega
    rw [this, Int.mul_emod_right]
theorem dn_end {a : List Int} {s : Nat} (hs : s ≤ 64) {x : Int} (h : vl a = 2 ^ s * x) : vl (dnN a s a.length) = x := by
  have h1 := dnN_val (a := a) hs a.length
  rw [low_mod hs h, vk_all (Nat.le_refl _), getD_ge (Nat.le_refl _), Int.zero_emod, Int.mul_zero, h] at h1
  exact Int.eq_of_mul_eq_mul_left (Int.ne_of_gt (p2pos s)) (by omega)
end Go.Proofs.Ytcfdclehmpfkcaa.Vc

/- One limb of a quotient, by Knuth's way, in plain Lean. -/
namespace Go.Proofs.Ytcfdclehmpfkcaa.Vc
open Go Go.RowKit

/-- A row from j on written over by l. -/
def rwJ (U : List Int) (j : Nat) (l : List Int) : List Int := U.take j ++ (l ++ U.drop (j + l.length))
theorem rwJ_0 {U : List Int} {j : Nat} : rwJ U j [] = U := by unfold rwJ; simp
theorem rwJ_len {U : List Int} {j : Nat} {l : List Int} (h : j + l.length ≤ U.length) : (rwJ U j l).length = U.length := by
  unfold rwJ; simp only [List.length_append, List.length_take, List.length_drop]; omega
theorem rwJ_at {U : List Int} {j k : Nat} {l : List Int} (h : l.length ≤ k) (hU : j + l.length ≤ U.length) : (rwJ U j l).getD ((j + k) * 1) 0 = U.getD (j + k) 0 := by
  unfold rwJ
  rw [Nat.mul_one, List.getD_eq_getElem?_getD, List.getElem?_append_right (by rw [List.length_take]; omega), List.length_take, Nat.min_eq_left (by omega), List.getElem?_append_right (by omega), List.getElem?_drop, List.getD_eq_getElem?_getD]
  congr 2; omega
theorem rwJ_in {U : List Int} {j k : Nat} {l : List Int} (h : k < l.length) (hU : j + l.length ≤ U.length) : (rwJ U j l).getD ((j + k) * 1) 0 = l.getD k 0 := by
  unfold rwJ
  rw [Nat.mul_one, List.getD_eq_getElem?_getD, List.getElem?_append_right (by rw [List.length_take]; omega), List.length_take, Nat.min_eq_left (by omega), List.getElem?_append_left (by omega), List.getD_eq_getElem?_getD]
  congr 2; omega
theorem rwJ_set {U : List Int} {j : Nat} {l : List Int} {v : Int} (hU : j + l.length < U.length) : (rwJ U j l).set ((j + l.length) * 1) v = rwJ U j (l ++ [v]) := by
  unfold rwJ
  rw [Nat.mul_one, List.set_append_right _ _ (by rw [List.length_take]; omega), List.length_take, Nat.min_eq_left (by omega), List.set_append_right _ _ (by omega),
    show j + l.length - j - l.length = 0 by omega, List.drop_eq_getElem_cons hU, List.set_cons_zero, List.length_append, List.length_singleton, List.append_assoc]
  rfl
theorem rwJ_two {U : List Int} {j : Nat} {l m : List Int} (h : m.length ≤ l.length) (hU : j + l.length ≤ U.length) : rwJ (rwJ U j l) j m = rwJ U j (m ++ l.drop m.length) := by
  unfold rwJ
  have hl : (U.take j).length = j := by rw [List.length_take]; omega
  rw [List.take_append_of_le_length (by omega), List.take_of_length_le (l := U.take j) (by omega), List.drop_append, hl, List.drop_of_length_le (l := U.take j) (by omega), List.nil_append,
    show j + m.length - j = m.length by omega, List.drop_append_of_le_length h]
  simp only [List.append_assoc, List.length_append, List.length_drop]
  rw [show m.length + (l.length - m.length) = l.length by omega]
/-- The slice of a row. -/
def slJ (U : List Int) (j n : Nat) : List Int := (U.drop j).take n
theorem slJ_len {U : List Int} {j n : Nat} (h : j + n ≤ U.length) : (slJ U j n).length = n := by unfold slJ; rw [List.length_take, List.length_drop]; omega
theorem slJ_at {U : List Int} {j n k : Nat} (h : k < n) : (slJ U j n).getD k 0 = U.getD (j + k) 0 := by
  unfold slJ
  rw [getD_take h, List.getD_eq_getElem?_getD, List.getElem?_drop, List.getD_eq_getElem?_getD]
theorem slJ_u {U : List Int} {j n : Nat} (h : u64s U) : u64s (slJ U j n) := u64s_take (u64s_drop h _) _
theorem rwJ_u {U : List Int} {j : Nat} {l : List Int} (h : u64s U) (hl : u64s l) : u64s (rwJ U j l) := u64s_app (u64s_take h _) (u64s_app hl (u64s_drop h _))
theorem slJ_val (U : List Int) {j n : Nat} (h : j + n ≤ U.length) : vl U = vk U j + pB j * (vl (slJ U j n) + pB n * vl (U.drop (j + n))) := by
  have e1 : U = U.take j ++ ((U.drop j).take n ++ (U.drop j).drop n) := by rw [List.take_append_drop, List.take_append_drop]
  have hl1 : (U.take j).length = j := by rw [List.length_take]; omega
  have hl2 : ((U.drop j).take n).length = n := slJ_len h
  rw [List.drop_drop] at e1
  calc vl U = vl (U.take j ++ ((U.drop j).take n ++ U.drop (j + n))) := by rw [← e1]
    _ = _ := by rw [vl_app, vl_app, hl1, hl2]; rfl
theorem rwJ_val {U : List Int} {j : Nat} {l : List Int} (h : j + l.length ≤ U.length) : vl (rwJ U j l) = vk U j + pB j * (vl l + pB l.length * vl (U.drop (j + l.length))) := by
  unfold rwJ
  have hl1 : (U.take j).length = j := by rw [List.length_take]; omega
  rw [vl_app, vl_app, hl1]; rfl
/-- u less q v, limb by limb: the limbs, the carry, the borrow. -/
def msS (u v : List Int) (q : Int) (i : Nat) (c : Int) : Int := (v.getD i 0 * q % 18446744073709551616 + c) % 18446744073709551616
def msC (v : List Int) (q : Int) (i : Nat) (c : Int) : Int := v.getD i 0 * q / 18446744073709551616 + (v.getD i 0 * q % 18446744073709551616 + c) / 18446744073709551616
def sbD (u s b : Int) : Int := if u < s + b then u - s - b + 18446744073709551616 else u - s - b
def sbB (u s b : Int) : Int := if u < s + b then 1 else 0
theorem sb_eq (u s b : Int) : sbD u s b = u - s - b + 18446744073709551616 * sbB u s b := by unfold sbD sbB; split <;> omega
theorem sbB_bd (u s b : Int) : 0 ≤ sbB u s b ∧ sbB u s b ≤ 1 := by unfold sbB; split <;> omega
theorem sbD_bd {u s b : Int} (hu0 : 0 ≤ u) (hu : u < 18446744073709551616) (hs0 : 0 ≤ s) (hs : s < 18446744073709551616) (hb0 : 0 ≤ b) (hb : b ≤ 1) : 0 ≤ sbD u s b ∧ sbD u s b < 18446744073709551616 := by unfold sbD; split <;> omega
def msN (u v : List Int) (q : Int) : Nat → List Int × Int × Int
  | 0 => ([], 0, 0)
  | i + 1 => ((msN u v q i).1 ++ [sbD (u.getD i 0) (msS u v q i (msN u v q i).2.1) (msN u v q i).2.2], msC v q i (msN u v q i).2.1, sbB (u.getD i 0) (msS u v q i (msN u v q i).2.1) (msN u v q i).2.2)
theorem msN_len (u v : List Int) (q : Int) : ∀ i, (msN u v q i).1.length = i
  | 0 => rfl
  | i + 1 => by simp [msN, msN_len u v q i]
theorem mul_lt {x y : Int} (hx0 : 0 ≤ x) (hx : x < 18446744073709551616) (hy0 : 0 ≤ y) (hy : y < 18446744073709551616) : 0 ≤ x * y ∧ x * y ≤ 340282366920938463426481119284349108225 := by
  have := mul_bd (m := 18446744073709551615) hx0 hy0 (by omega) (by omega)
  exact this
theorem msN_c {u v : List Int} {q : Int} (hv : u64s v) (hq0 : 0 ≤ q) (hq : q < 18446744073709551616) : ∀ i, 0 ≤ (msN u v q i).2.1 ∧ (msN u v q i).2.1 < 18446744073709551616
  | 0 => by simp [msN]
  | i + 1 => by
    have h := msN_c (u := u) hv hq0 hq i
    have hx := u64s_getD hv i
    have hp := mul_lt hx.1 hx.2 hq0 hq
    show 0 ≤ msC v q i (msN u v q i).2.1 ∧ msC v q i (msN u v q i).2.1 < _
    unfold msC
    generalize v.getD i 0 * q = P at hp ⊢
    generalize (msN u v q i).2.1 = c at h ⊢
    omega
theorem msN_b (u v : List Int) (q : Int) : ∀ i, 0 ≤ (msN u v q i).2.2 ∧ (msN u v q i).2.2 ≤ 1
  | 0 => by simp [msN]
  | i + 1 => sbB_bd _ _ _
theorem msN_u {u v : List Int} {q : Int} (hu : u64s u) (hv : u64s v) (hq0 : 0 ≤ q) (hq : q < 18446744073709551616) : ∀ i, u64s (msN u v q i).1
  | 0 => fun x hx => by simp [msN] at hx
  | i + 1 => by
    have hx := u64s_getD hu i
    have hb := msN_b u v q i
    have h := sbD_bd hx.1 hx.2 (s := msS u v q i (msN u v q i).2.1) (b := (msN u v q i).2.2) (by unfold msS; omega) (by unfold msS; omega) hb.1 hb.2
    exact u64s_app1 (msN_u hu hv hq0 hq i) h.1 h.2
theorem msN_val (u v : List Int) (q : Int) : ∀ i, vl (msN u v q i).1 = vk u i - q * vk v i + pB i * ((msN u v q i).2.1 + (msN u v q i).2.2)
  | 0 => by rw [vk_0, vk_0]; simp [msN, vl]
  | i + 1 => by
    have h := msN_val u v q i
    rw [vk_succ, vk_succ]
    simp only [msN]
    rw [vl_app, msN_len, h, sb_eq]
    have e1 : vl [u.getD i 0 - msS u v q i (msN u v q i).2.1 - (msN u v q i).2.2 + 18446744073709551616 * sbB (u.getD i 0) (msS u v q i (msN u v q i).2.1) (msN u v q i).2.2] = u.getD i 0 - msS u v q i (msN u v q i).2.1 - (msN u v q i).2.2 + 18446744073709551616 * sbB (u.getD i 0) (msS u v q i (msN u v q i).2.1) (msN u v q i).2.2 := by simp [vl]
    rw [e1]
    generalize sbB (u.getD i 0) (msS u v q i (msN u v q i).2.1) (msN u v q i).2.2 = b2
    have e2 : msS u v q i (msN u v q i).2.1 + 18446744073709551616 * msC v q i (msN u v q i).2.1 = v.getD i 0 * q + (msN u v q i).2.1 := by
      unfold msS msC
      generalize v.getD i 0 * q = P
      generalize (msN u v q i).2.1 = c
      omega
    generalize hs : msS u v q i (msN u v q i).2.1 = s at e2 ⊢
    generalize hc : msC v q i (msN u v q i).2.1 = c2 at e2 ⊢
    generalize (msN u v q i).2.1 = c at e2 ⊢
    generalize (msN u v q i).2.2 = b
    obtain rfl : s = v.getD i 0 * q + c - 18446744073709551616 * c2 := by omega
    simp only [pB]
    have hB : Bs = 18446744073709551616 := rfl
    rw [hB]
    generalize u.getD i 0 = x
    generalize v.getD i 0 = y
    have e3 : q * (vk v i + pB i * y) = q * vk v i + pB i * (y * q) := by rw [Int.mul_add, Int.mul_left_comm, Int.mul_comm q y]
    rw [e3]
    generalize pB i = p
    generalize y * q = z
    generalize q * vk v i = t
    have e4 : p * (x - (z + c - 18446744073709551616 * c2) - b + 18446744073709551616 * b2) = p * x - p * z - p * c - p * b + 18446744073709551616 * (p * (c2 + b2)) := by
      simp only [Int.mul_add, Int.mul_sub, Int.mul_left_comm p 18446744073709551616]
      omega
    rw [e4, Int.mul_add p c b, Int.mul_assoc]
    generalize p * (c2 + b2) = w
    generalize p * x = g1
    generalize p * z = g2
    generalize p * c = g3
    generalize p * b = g4
    omega
/-- All of u less q v: with the top limb. -/
def msL (u v : List Int) (q : Int) : List Int := (msN u v q v.length).1 ++ [sbD (u.getD v.length 0) (msN u v q v.length).2.1 (msN u v q v.length).2.2]
def msB (u v : List Int) (q : Int) : Int := sbB (u.getD v.length 0) (msN u v q v.length).2.1 (msN u v q v.length).2.2
theorem msL_len (u v : List Int) (q : Int) : (msL u v q).length = v.length + 1 := by simp [msL, msN_len]
theorem msL_u {u v : List Int} {q : Int} (hu : u64s u) (hv : u64s v) (hq0 : 0 ≤ q) (hq : q < 18446744073709551616) : u64s (msL u v q) := by
  have hc := msN_c (u := u) hv hq0 hq v.length
  have hb := msN_b u v q v.length
  have hx := u64s_getD hu v.length
  have h := sbD_bd hx.1 hx.2 hc.1 hc.2 hb.1 hb.2
  exact u64s_app1 (msN_u hu hv hq0 hq _) h.1 h.2
theorem msL_val {u v : List Int} {q : Int} (hl : u.length = v.length + 1) : vl (msL u v q) = vl u - q * vl v + pB (v.length + 1) * msB u v q := by
  unfold msL msB
  have h := msN_val u v q v.length
  have hu : vl u = vk u v.length + pB v.length * u.getD v.length 0 := by rw [← vk_succ, vk_all (by omega)]
  rw [vl_app, msN_len, h, sb_eq, hu, vk_all (Nat.le_refl v.length)]
  generalize sbB (u.getD v.length 0) (msN u v q v.length).2.1 (msN u v q v.length).2.2 = b2
  generalize (msN u v q v.length).2.1 = c
  generalize (msN u v q v.length).2.2 = b
  generalize u.getD v.length 0 = x
  have e1 : vl [x - c - b + 18446744073709551616 * b2] = x - c - b + 18446744073709551616 * b2 := by simp [vl]
  rw [e1]
  simp only [pB]
  have hB : Bs = 18446744073709551616 := rfl
  rw [hB]
  generalize pB v.length = p
  have e4 : p * (x - c - b + 18446744073709551616 * b2) = p * x - p * c - p * b + 18446744073709551616 * (p * b2) := by
    simp only [Int.mul_add, Int.mul_sub, Int.mul_left_comm p 18446744073709551616]
  rw [e4, Int.mul_add, Int.mul_assoc]
  generalize p * b2 = w
  generalize p * x = g1
  generalize p * c = g3
  generalize p * b = g4
  omega
/-- v added back. -/
def bkL (l v : List Int) : List Int := (adN l v v.length).1 ++ [(l.getD v.length 0 + (adN l v v.length).2) % 18446744073709551616]
theorem bkL_len (l v : List Int) : (bkL l v).length = v.length + 1 := by simp [bkL, adN_len]
theorem bkL_u {l v : List Int} : u64s (bkL l v) := u64s_app1 (adN_u _) (by omega) (by omega)
theorem bkL_val {l v : List Int} (hl : l.length = v.length + 1) : ∃ e, vl (bkL l v) = vl l + vl v - pB (v.length + 1) * e := by
  refine ⟨(l.getD v.length 0 + (adN l v v.length).2) / 18446744073709551616, ?_⟩
  unfold bkL
  have h := adN_val l v v.length
  have hu : vl l = vk l v.length + pB v.length * l.getD v.length 0 := by rw [← vk_succ, vk_all (by omega)]
  rw [vk_all (Nat.le_refl v.length)] at h
  rw [vl_app, adN_len, hu]
  generalize l.getD v.length 0 = x
  generalize (adN l v v.length).2 = c at h ⊢
  have e1 : vl [(x + c) % 18446744073709551616] = x + c - 18446744073709551616 * ((x + c) / 18446744073709551616) := by simp only [vl]; omega
  rw [e1]
  simp only [pB]
  have hB : Bs = 18446744073709551616 := rfl
  rw [hB]
  generalize (x + c) / 18446744073709551616 = e
  generalize pB v.length = p at h ⊢
  have e4 : p * (x + c - 18446744073709551616 * e) = p * x + p * c - 18446744073709551616 * (p * e) := by
    simp only [Int.mul_add, Int.mul_sub, Int.mul_left_comm p 18446744073709551616]
  rw [e4, Int.mul_assoc]
  generalize p * e = w
  omega
/-- What an estimated limb leaves: the limb is the true one. -/
def gsQ (u v : List Int) (q : Int) : Int := q - msB u v q
def gsL (u v : List Int) (q : Int) : List Int := if msB u v q = 0 then msL u v q else bkL (msL u v q) v
theorem gs_end {u v : List Int} {q : Int} (hu : u64s u) (hv : u64s v) (hl : u.length = v.length + 1) (hv0 : 0 < vl v) (hq0 : 0 ≤ q) (hq : q < 18446744073709551616)
    (h1 : vl u / vl v ≤ q) (h2 : q ≤ vl u / vl v + 1) :
    gsQ u v q = vl u / vl v ∧ (gsL u v q).length = v.length + 1 ∧ u64s (gsL u v q) ∧ vl (gsL u v q) = vl u % vl v := by
  have hm := msL_val (u := u) (v := v) (q := q) hl
  have um := msL_u (u := u) (v := v) (q := q) hu hv hq0 hq
  have b0 := vl_nonneg um
  have b1 := vl_lt um
  rw [msL_len] at b1
  have hbb := sbB_bd (u.getD v.length 0) (msN u v q v.length).2.1 (msN u v q v.length).2.2
  have ed := Int.emod_add_mul_ediv (vl u) (vl v)
  have r0 := Int.emod_nonneg (vl u) (Int.ne_of_gt hv0)
  have r1 := Int.emod_lt_of_pos (vl u) hv0
  have up := vl_nonneg hu
  have ul := vl_lt hu
  have vu := vl_nonneg hv
  have vlt := vl_lt hv
  have hpm := pB_mono (show v.length ≤ v.length + 1 by omega)
  rw [hl] at ul
  unfold gsQ gsL
  by_cases hb : msB u v q = 0
  · rw [if_pos hb, hb]
    rw [hb, Int.mul_zero] at hm
    have hq1 : q = vl u / vl v := by
      rcases Int.lt_or_le (vl u / vl v) q with hlt | hle
      · exfalso
        have hq2 : q = vl u / vl v + 1 := by omega
        have hqv : q * vl v = vl v * (vl u / vl v) + vl v := by rw [hq2, Int.add_mul, Int.one_mul, Int.mul_comm (vl u / vl v)]
        omega
      · omega
    have hqv : q * vl v = vl v * (vl u / vl v) := by rw [← hq1, Int.mul_comm]
    exact ⟨by omega, msL_len _ _ _, um, by omega⟩
  · have hb1 : msB u v q = 1 := by unfold msB at hb ⊢; omega
    rw [if_neg hb, hb1]
    rw [hb1, Int.mul_one] at hm
    have hq1 : q = vl u / vl v + 1 := by
      rcases Int.lt_or_le (vl u / vl v) q with hlt | hle
      · omega
      · exfalso
        have hq2 : q = vl u / vl v := by omega
        have hqv : q * vl v = vl v * (vl u / vl v) := by rw [hq2, Int.mul_comm]
        omega
    obtain ⟨e, he⟩ := bkL_val (l := msL u v q) (v := v) (msL_len _ _ _)
    have ub : u64s (bkL (msL u v q) v) := bkL_u
    have c0 := vl_nonneg ub
    have c1 := vl_lt ub
    rw [bkL_len] at c1
    have hqv : q * vl v = vl v * (vl u / vl v) + vl v := by rw [hq1, Int.add_mul, Int.one_mul, Int.mul_comm (vl u / vl v)]
    have he1 : e = 1 := by
      have hpp := pB_pos (v.length + 1)
      rcases Int.lt_trichotomy e 1 with h | h | h
      · exfalso
        have : pB (v.length + 1) * e ≤ pB (v.length + 1) * 0 := Int.mul_le_mul_of_nonneg_left (by omega) (by omega)
        omega
      · exact h
      · exfalso
        have : pB (v.length + 1) * 2 ≤ pB (v.length + 1) * e := Int.mul_le_mul_of_nonneg_left (by omega) (by omega)
        omega
    rw [he1, Int.mul_one] at he
    exact ⟨by omega, bkL_len _ _, ub, by omega⟩
end Go.Proofs.Ytcfdclehmpfkcaa.Vc

/- A limb of a quotient estimated; two limbs divided by one: in plain Lean. -/
namespace Go.Proofs.Ytcfdclehmpfkcaa.Vc
open Go Go.RowKit

theorem est_first {P V U q r v1 v2 u0 u1 u2 lv lu : Int} (hP : 0 < P) (hV : V = lv + P * (v2 + 18446744073709551616 * v1)) (hU : U = lu + P * (u2 + 18446744073709551616 * u1 + 340282366920938463463374607431768211456 * u0))
    (h1 : 0 ≤ lv) (h2 : lu < P) (h3 : 0 ≤ v2) (h4 : u2 < 18446744073709551616) (hq : 0 ≤ q) (he : q * v1 + r = u0 * 18446744073709551616 + u1) (hr : r < v1) : U < (q + 1) * V := by
  have f1 : 0 ≤ P * (q * v1 + v1 - u0 * 18446744073709551616 - u1 - 1) := Int.mul_nonneg (by omega) (by omega)
  have f4 : 0 ≤ P * v2 := Int.mul_nonneg (by omega) h3
  have f2 : 0 ≤ (q + 1) * (V - P * (18446744073709551616 * v1)) := Int.mul_nonneg (by omega) (by rw [hV, Int.mul_add]; omega)
  have f3 : 0 ≤ P * (18446744073709551615 - u2) := Int.mul_nonneg (by omega) (by omega)
  have e1 : P * (q * v1 + v1 - u0 * 18446744073709551616 - u1 - 1) = P * (q * v1) + P * v1 - 18446744073709551616 * (P * u0) - P * u1 - P := by
    rw [Int.mul_comm u0]; simp only [Int.mul_add, Int.mul_sub, Int.mul_left_comm P 18446744073709551616, Int.mul_one]
  have e2 : (q + 1) * (V - P * (18446744073709551616 * v1)) = q * V + V - 18446744073709551616 * (P * (q * v1)) - 18446744073709551616 * (P * v1) := by
    rw [Int.mul_left_comm P 18446744073709551616, Int.mul_sub, Int.add_mul, Int.add_mul, Int.mul_left_comm q 18446744073709551616, Int.mul_left_comm q P]; omega
  have e3 : P * (18446744073709551615 - u2) = 18446744073709551615 * P - P * u2 := by rw [Int.mul_sub, Int.mul_comm P]
  have e4 : P * (u2 + 18446744073709551616 * u1 + 340282366920938463463374607431768211456 * u0) = P * u2 + 18446744073709551616 * (P * u1) + 340282366920938463463374607431768211456 * (P * u0) := by
    simp only [Int.mul_add, Int.mul_left_comm P 18446744073709551616, Int.mul_left_comm P 340282366920938463463374607431768211456]
  rw [e1] at f1; rw [e2] at f2; rw [e3] at f3; rw [e4] at hU
  rw [Int.add_mul, Int.one_mul]
  omega
theorem est_step {P V U q r v1 v2 u0 u1 u2 lv lu : Int} (hP : 0 < P) (hV : V = lv + P * (v2 + 18446744073709551616 * v1)) (hU : U = lu + P * (u2 + 18446744073709551616 * u1 + 340282366920938463463374607431768211456 * u0))
    (h1 : 0 ≤ lv) (h2 : lu < P) (hq : 0 ≤ q) (he : q * v1 + r = u0 * 18446744073709551616 + u1) (hc : r * 18446744073709551616 + u2 < q * v2) : U < q * V := by
  have f1 : 0 ≤ P * (q * v2 - r * 18446744073709551616 - u2 - 1) := Int.mul_nonneg (by omega) (by omega)
  have f2 : 0 ≤ q * lv := Int.mul_nonneg hq h1
  have f3 : P * (q * v1 + r) = P * (u0 * 18446744073709551616 + u1) := by rw [he]
  have e1 : P * (q * v2 - r * 18446744073709551616 - u2 - 1) = P * (q * v2) - 18446744073709551616 * (P * r) - P * u2 - P := by
    rw [Int.mul_comm r]; simp only [Int.mul_add, Int.mul_sub, Int.mul_left_comm P 18446744073709551616, Int.mul_one]
  have e3 : P * (u0 * 18446744073709551616 + u1) = 18446744073709551616 * (P * u0) + P * u1 := by rw [Int.mul_comm u0, Int.mul_add, Int.mul_left_comm P]
  have e4 : P * (u2 + 18446744073709551616 * u1 + 340282366920938463463374607431768211456 * u0) = P * u2 + 18446744073709551616 * (P * u1) + 340282366920938463463374607431768211456 * (P * u0) := by
    simp only [Int.mul_add, Int.mul_left_comm P 18446744073709551616, Int.mul_left_comm P 340282366920938463463374607431768211456]
  have e5 : q * V = q * lv + P * (q * v2) + 18446744073709551616 * (P * (q * v1)) := by
    rw [hV, Int.mul_add, Int.mul_add P, Int.mul_add q, Int.mul_left_comm q P, Int.mul_left_comm P 18446744073709551616, Int.mul_left_comm q 18446744073709551616, Int.mul_left_comm q P v1]; omega
  rw [e1] at f1; rw [Int.mul_add, e3] at f3; rw [e4] at hU; rw [e5]
  omega
theorem est_last {P V U q r v1 v2 u0 u1 u2 lv lu : Int} (hP : 0 < P) (hV : V = lv + P * (v2 + 18446744073709551616 * v1)) (hU : U = lu + P * (u2 + 18446744073709551616 * u1 + 340282366920938463463374607431768211456 * u0))
    (h1 : 0 ≤ lv) (h2 : lv < P) (h3 : 0 ≤ lu) (h4 : 0 ≤ v2) (hv : 1 ≤ v1) (hq : 0 ≤ q) (hq1 : q < 18446744073709551616) (he : q * v1 + r = u0 * 18446744073709551616 + u1) (hc : q * v2 ≤ r * 18446744073709551616 + u2) : (q - 1) * V ≤ U := by
  have f1 : 0 ≤ P * (r * 18446744073709551616 + u2 - q * v2) := Int.mul_nonneg (by omega) (by omega)
  have f2 : q * lv ≤ 18446744073709551615 * P := Int.mul_le_mul (by omega) (by omega) h1 (by omega)
  have f3 : P * (q * v1 + r) = P * (u0 * 18446744073709551616 + u1) := by rw [he]
  have f4 : 0 ≤ P * (v1 - 1) := Int.mul_nonneg (by omega) (by omega)
  have f5 : 0 ≤ P * v2 := Int.mul_nonneg (by omega) h4
  have e1 : P * (r * 18446744073709551616 + u2 - q * v2) = 18446744073709551616 * (P * r) + P * u2 - P * (q * v2) := by
    rw [Int.mul_comm r]; simp only [Int.mul_add, Int.mul_sub, Int.mul_left_comm P 18446744073709551616]
  have e3 : P * (u0 * 18446744073709551616 + u1) = 18446744073709551616 * (P * u0) + P * u1 := by rw [Int.mul_comm u0, Int.mul_add, Int.mul_left_comm P]
  have e4 : P * (u2 + 18446744073709551616 * u1 + 340282366920938463463374607431768211456 * u0) = P * u2 + 18446744073709551616 * (P * u1) + 340282366920938463463374607431768211456 * (P * u0) := by
    simp only [Int.mul_add, Int.mul_left_comm P 18446744073709551616, Int.mul_left_comm P 340282366920938463463374607431768211456]
  have e5 : q * V = q * lv + P * (q * v2) + 18446744073709551616 * (P * (q * v1)) := by
    rw [hV, Int.mul_add, Int.mul_add P, Int.mul_add q, Int.mul_left_comm q P, Int.mul_left_comm P 18446744073709551616, Int.mul_left_comm q 18446744073709551616, Int.mul_left_comm q P v1]; omega
  have e6 : P * (v2 + 18446744073709551616 * v1) = P * v2 + 18446744073709551616 * (P * v1) := by rw [Int.mul_add, Int.mul_left_comm P]
  rw [e1] at f1; rw [Int.mul_add, e3] at f3; rw [e4] at hU; rw [Int.mul_sub, Int.mul_one] at f4
  rw [Int.sub_mul, Int.one_mul, e5]
  rw [e6] at hV
  omega
theorem est_top {P V U v1 v2 u0 u1 u2 lv lu : Int} (hP : 0 < P) (hV : V = lv + P * (v2 + 18446744073709551616 * v1)) (hU : U = lu + P * (u2 + 18446744073709551616 * u1 + 340282366920938463463374607431768211456 * u0))
    (h2 : lv < P) (h3 : 0 ≤ lu) (h4 : 0 ≤ u2) (h5 : 0 ≤ u1) (h6 : v2 < 18446744073709551616) (hlt : U < V * 18446744073709551616) : u0 ≤ v1 := by
  rcases Int.lt_or_le v1 u0 with h | h
  · exfalso
    have f1 : 0 ≤ P * (u0 - v1 - 1) := Int.mul_nonneg (by omega) (by omega)
    have f2 : 0 ≤ P * u2 := Int.mul_nonneg (by omega) h4
    have f3 : 0 ≤ P * u1 := Int.mul_nonneg (by omega) h5
    have f4 : 0 ≤ P * (18446744073709551615 - v2) := Int.mul_nonneg (by omega) (by omega)
    have e4 : P * (u2 + 18446744073709551616 * u1 + 340282366920938463463374607431768211456 * u0) = P * u2 + 18446744073709551616 * (P * u1) + 340282366920938463463374607431768211456 * (P * u0) := by
      simp only [Int.mul_add, Int.mul_left_comm P 18446744073709551616, Int.mul_left_comm P 340282366920938463463374607431768211456]
    have e6 : P * (v2 + 18446744073709551616 * v1) = P * v2 + 18446744073709551616 * (P * v1) := by rw [Int.mul_add, Int.mul_left_comm P]
    rw [e4] at hU; rw [e6] at hV
    simp only [Int.mul_sub, Int.mul_one] at f1 f4
    rw [Int.mul_comm P] at f4
    omega
  · exact h
theorem two_top {v : List Int} {n : Nat} (hn : v.length = n + 2) : vl v = vk v n + pB n * (v.getD n 0 + 18446744073709551616 * v.getD (n + 1) 0) := by
  have h1 : vl v = vk v (n + 2) := (vk_all (by omega)).symm
  rw [h1, vk_succ, vk_succ]
  simp only [pB]
  have hB : Bs = 18446744073709551616 := rfl
  rw [hB, Int.mul_add, Int.mul_left_comm (pB n) 18446744073709551616, ← Int.mul_assoc 18446744073709551616]
  omega
theorem three_top {u : List Int} {n : Nat} (hn : u.length = n + 3) : vl u = vk u n + pB n * (u.getD n 0 + 18446744073709551616 * u.getD (n + 1) 0 + 340282366920938463463374607431768211456 * u.getD (n + 2) 0) := by
  have h1 : vl u = vk u (n + 3) := (vk_all (by omega)).symm
  rw [h1, vk_succ, vk_succ, vk_succ]
  simp only [pB]
  have hB : Bs = 18446744073709551616 := rfl
  rw [hB, Int.mul_add, Int.mul_add, Int.mul_left_comm (pB n) 18446744073709551616, Int.mul_left_comm (pB n) 340282366920938463463374607431768211456]
  simp only [Int.mul_assoc]
  omega
theorem vk_bd {v : List Int} (hv : u64s v) {n : Nat} (h : n ≤ v.length) : 0 ≤ vk v n ∧ vk v n < pB n := by
  refine ⟨vk_nonneg hv n, ?_⟩
  have := vl_lt (u64s_take hv n)
  rwa [List.length_take, Nat.min_eq_left h] at this
/-- The limb that is looked for: the estimate q and what it leaves, r. -/
def Est (u v : List Int) (n : Nat) (q r : Int) : Prop :=
  q * v.getD (n + 1) 0 + r = u.getD (n + 2) 0 * 18446744073709551616 + u.getD (n + 1) 0 ∧ vl u / vl v ≤ q ∧ 0 ≤ q ∧ q < 18446744073709551616 ∧ 0 ≤ r
structure GuP (u v : List Int) (n : Nat) : Prop where
  uu : u64s u
  uv : u64s v
  lu : u.length = n + 3
  lv : v.length = n + 2
  lt : vl u < vl v * 18446744073709551616
  top : 1 ≤ v.getD (n + 1) 0
theorem GuP.pos {u v : List Int} {n : Nat} (h : GuP u v n) : 0 < vl v := by
  have h1 := two_top h.lv
  have b := vk_bd h.uv (n := n) (by rw [h.lv]; omega)
  have x := u64s_getD h.uv n
  have hp := pB_pos n
  have t := h.top
  have : 0 < pB n * (v.getD n 0 + 18446744073709551616 * v.getD (n + 1) 0) := Int.mul_pos hp (by omega)
  omega
theorem GuP.q_lt {u v : List Int} {n : Nat} (h : GuP u v n) : vl u / vl v < 18446744073709551616 := Int.ediv_lt_of_lt_mul h.pos (by rw [Int.mul_comm]; exact h.lt)
theorem GuP.q_nn {u v : List Int} {n : Nat} (h : GuP u v n) : 0 ≤ vl u / vl v := Int.ediv_nonneg (vl_nonneg h.uu) (Int.le_of_lt h.pos)
theorem GuP.u_top {u v : List Int} {n : Nat} (h : GuP u v n) : u.getD (n + 2) 0 ≤ v.getD (n + 1) 0 := by
  have bv := vk_bd h.uv (n := n) (by rw [h.lv]; omega)
  have bu := vk_bd h.uu (n := n) (by rw [h.lu]; omega)
  exact est_top (pB_pos n) (two_top h.lv) (three_top h.lu) bv.2 bu.1 (u64s_getD h.uu n).1 (u64s_getD h.uu (n + 1)).1 (u64s_getD h.uv n).2 h.lt
theorem GuP.first_eq {u v : List Int} {n : Nat} (h : GuP u v n) (hc : v.getD (n + 1) 0 ≤ u.getD (n + 2) 0) : Est u v n 18446744073709551615 (u.getD (n + 1) 0 + v.getD (n + 1) 0) := by
  have t := h.u_top
  have := h.q_lt
  have x := u64s_getD h.uu (n + 1)
  have y := u64s_getD h.uv (n + 1)
  exact ⟨by omega, by omega, by omega, by omega, by omega⟩
theorem GuP.first_div {u v : List Int} {n : Nat} (h : GuP u v n) (hc : u.getD (n + 2) 0 < v.getD (n + 1) 0) :
    Est u v n ((u.getD (n + 2) 0 * 18446744073709551616 + u.getD (n + 1) 0) / v.getD (n + 1) 0) ((u.getD (n + 2) 0 * 18446744073709551616 + u.getD (n + 1) 0) % v.getD (n + 1) 0) := by
  have bv := vk_bd h.uv (n := n) (by rw [h.lv]; omega)
  have bu := vk_bd h.uu (n := n) (by rw [h.lu]; omega)
  have x := u64s_getD h.uu (n + 1)
  have x2 := u64s_getD h.uu (n + 2)
  have t := h.top
  have e := Int.emod_add_mul_ediv (u.getD (n + 2) 0 * 18446744073709551616 + u.getD (n + 1) 0) (v.getD (n + 1) 0)
  have r1 := Int.emod_lt_of_pos (u.getD (n + 2) 0 * 18446744073709551616 + u.getD (n + 1) 0) (show 0 < v.getD (n + 1) 0 by omega)
  have r0 := Int.emod_nonneg (u.getD (n + 2) 0 * 18446744073709551616 + u.getD (n + 1) 0) (show v.getD (n + 1) 0 ≠ 0 by omega)
  have q0 : 0 ≤ (u.getD (n + 2) 0 * 18446744073709551616 + u.getD (n + 1) 0) / v.getD (n + 1) 0 := Int.ediv_nonneg (by omega) (by omega)
  have q1 : (u.getD (n + 2) 0 * 18446744073709551616 + u.getD (n + 1) 0) / v.getD (n + 1) 0 < 18446744073709551616 := Int.ediv_lt_of_lt_mul (by omega) (by omega)
  generalize (u.getD (n + 2) 0 * 18446744073709551616 + u.getD (n + 1) 0) / v.getD (n + 1) 0 = q at *
  generalize hr : (u.getD (n + 2) 0 * 18446744073709551616 + u.getD (n + 1) 0) % v.getD (n + 1) 0 = r at *
  rw [Int.mul_comm] at e
  have hh := est_first (pB_pos n) (two_top h.lv) (three_top h.lu) bv.1 bu.2 (u64s_getD h.uv n).1 (u64s_getD h.uu n).2 q0 (by omega) r1
  refine ⟨by omega, ?_, q0, q1, r0⟩
  exact Int.le_of_lt_add_one (Int.ediv_lt_of_lt_mul h.pos hh)
theorem GuP.next {u v : List Int} {n : Nat} {q r : Int} (h : GuP u v n) (he : Est u v n q r) (hc : r * 18446744073709551616 + u.getD n 0 < q * v.getD n 0) : Est u v n (q - 1) (r + v.getD (n + 1) 0) ∧ 1 ≤ q := by
  obtain ⟨e1, e2, e3, e4, e5⟩ := he
  have bv := vk_bd h.uv (n := n) (by rw [h.lv]; omega)
  have bu := vk_bd h.uu (n := n) (by rw [h.lu]; omega)
  have y := u64s_getD h.uv (n + 1)
  have hh := est_step (pB_pos n) (two_top h.lv) (three_top h.lu) bv.1 bu.2 e3 e1 hc
  have := Int.ediv_lt_of_lt_mul h.pos hh
  have := h.q_nn
  refine ⟨⟨by rw [Int.sub_mul]; omega, by omega, by omega, by omega, by omega⟩, by omega⟩
theorem GuP.last {u v : List Int} {n : Nat} {q r : Int} (h : GuP u v n) (he : Est u v n q r) (hc : q * v.getD n 0 ≤ r * 18446744073709551616 + u.getD n 0) : q ≤ vl u / vl v + 1 := by
  obtain ⟨e1, e2, e3, e4, e5⟩ := he
  have bv := vk_bd h.uv (n := n) (by rw [h.lv]; omega)
  have bu := vk_bd h.uu (n := n) (by rw [h.lu]; omega)
  have hh := est_last (pB_pos n) (two_top h.lv) (three_top h.lu) bv.1 bv.2 bu.1 (u64s_getD h.uv n).1 h.top e3 e4 e1 hc
  have := (Int.le_ediv_iff_mul_le h.pos).2 hh
  omega
theorem GuP.over {u v : List Int} {n : Nat} {q r : Int} (h : GuP u v n) (he : Est u v n q r) (hc : 18446744073709551616 ≤ r) : q ≤ vl u / vl v + 1 := by
  refine h.last he ?_
  obtain ⟨e1, e2, e3, e4, e5⟩ := he
  have x := u64s_getD h.uv n
  have y := u64s_getD h.uu n
  have := mul_lt e3 e4 x.1 x.2
  omega
/-- The end: with a limb that is the true one or one more. -/
theorem GuP.fin {u v : List Int} {n : Nat} {q r : Int} (h : GuP u v n) (he : Est u v n q r) (hc : q ≤ vl u / vl v + 1) : gsQ u v q = vl u / vl v ∧ (gsL u v q).length = n + 3 ∧ u64s (gsL u v q) ∧ vl (gsL u v q) = vl u % vl v := by
  obtain ⟨e1, e2, e3, e4, e5⟩ := he
  have := gs_end h.uu h.uv (by rw [h.lu, h.lv]) h.pos e3 e4 e2 hc
  rw [h.lv] at this
  exact this
/-- Halves: three halves by two. -/
def Hf (N y u q r : Int) : Prop := q * (y / 4294967296) + r = u ∧ N / y ≤ q ∧ q ≤ 4294967297 ∧ 0 ≤ r
structure HfP (N y u w : Int) : Prop where
  en : N = u * 4294967296 + w
  w0 : 0 ≤ w
  w1 : w < 4294967296
  u0 : 0 ≤ u
  lt : u < y
  y0 : 9223372036854775808 ≤ y
  y1 : y < 18446744073709551616
theorem HfP.q_lt {N y u w : Int} (h : HfP N y u w) : N / y < 4294967296 := Int.ediv_lt_of_lt_mul (by have := h.y0; omega) (by have := h.en; have := h.lt; have := h.w1; omega)
theorem HfP.q_nn {N y u w : Int} (h : HfP N y u w) : 0 ≤ N / y := Int.ediv_nonneg (by have := h.en; have := h.w0; have := h.u0; omega) (by have := h.y0; omega)
theorem HfP.first {N y u w : Int} (h : HfP N y u w) : Hf N y u (u / (y / 4294967296)) (u - u / (y / 4294967296) * (y / 4294967296)) ∧ 0 ≤ u / (y / 4294967296) ∧ u - u / (y / 4294967296) * (y / 4294967296) < 4294967296 := by
  obtain ⟨he, w0, w1, u0, hlt, y0, y1⟩ := h
  unfold Hf
  have hy : y = y / 4294967296 * 4294967296 + y % 4294967296 := by omega
  have hb : 0 ≤ y % 4294967296 ∧ y % 4294967296 < 4294967296 := by omega
  have ha : 2147483648 ≤ y / 4294967296 ∧ y / 4294967296 < 4294967296 := by omega
  generalize y / 4294967296 = a at *
  generalize y % 4294967296 = b at *
  have e := Int.emod_add_mul_ediv u a
  have r1 := Int.emod_lt_of_pos u (show 0 < a by omega)
  have r0 := Int.emod_nonneg u (show a ≠ 0 by omega)
  have q0 : 0 ≤ u / a := Int.ediv_nonneg u0 (by omega)
  generalize u / a = q at *
  generalize u % a = r at *
  rw [Int.mul_comm] at e
  refine ⟨⟨by omega, ?_, ?_, by omega⟩, q0, by omega⟩
  · refine Int.le_of_lt_add_one (Int.ediv_lt_of_lt_mul (by omega) ?_)
    have f1 : (q + 1) * y = 4294967296 * (q * a) + 4294967296 * a + (q + 1) * b := by
      rw [hy, Int.mul_add, Int.add_mul q 1 (a * 4294967296), ← Int.mul_assoc]; omega
    have f2 : 0 ≤ (q + 1) * b := Int.mul_nonneg (by omega) hb.1
    omega
  · rcases Int.lt_or_le 4294967297 q with h | h
    · exfalso
      have f : 4294967298 * a ≤ q * a := Int.mul_le_mul_of_nonneg_right (by omega) (by omega)
      omega
    · exact h
theorem HfP.next {N y u w q r : Int} (h : HfP N y u w) (hf : Hf N y u q r) (hc : 4294967296 ≤ q ∨ 4294967296 * r + w < q * (y % 4294967296)) : Hf N y u (q - 1) (r + y / 4294967296) ∧ 1 ≤ q ∧ q - 1 ≤ 4294967296 := by
  obtain ⟨e1, e2, e3, e4⟩ := hf
  have hq := h.q_lt
  have hn := h.q_nn
  obtain ⟨he, w0, w1, u0, hlt, y0, y1⟩ := h
  have hlt2 : N / y < q := by
    rcases hc with hc | hc
    · omega
    · refine Int.ediv_lt_of_lt_mul (by omega) ?_
      have hy : q * y = q * (y / 4294967296 * 4294967296 + y % 4294967296) := by congr 1; omega
      rw [hy, Int.mul_add, ← Int.mul_assoc]
      omega
  exact ⟨⟨by rw [Int.sub_mul]; omega, by omega, by omega, by omega⟩, by omega, by omega⟩
theorem HfP.last {N y u w q r : Int} (h : HfP N y u w) (hf : Hf N y u q r) (hc : q * (y % 4294967296) ≤ 4294967296 * r + w) : q = N / y := by
  obtain ⟨e1, e2, e3, e4⟩ := hf
  obtain ⟨he, w0, w1, u0, hlt, y0, y1⟩ := h
  have : q ≤ N / y := by
    refine (Int.le_ediv_iff_mul_le (by omega)).2 ?_
    have hy : q * y = q * (y / 4294967296 * 4294967296 + y % 4294967296) := by congr 1; omega
    rw [hy, Int.mul_add, ← Int.mul_assoc]
    omega
  omega
theorem HfP.over {N y u w q r : Int} (h : HfP N y u w) (hf : Hf N y u q r) (hq : 0 ≤ q) (hq1 : q ≤ 4294967296) (hc : 4294967296 ≤ r) : q = N / y := by
  refine h.last hf ?_
  obtain ⟨he, w0, w1, u0, hlt, y0, y1⟩ := h
  have f : q * (y % 4294967296) ≤ 4294967296 * 4294967295 := Int.mul_le_mul hq1 (by omega) (by omega) (by omega)
  omega
theorem HfP.rest {N y u w : Int} (h : HfP N y u w) : IntKind.u64.wrap (IntKind.u64.wrap (IntKind.u64.wrap (u * 4294967296) + w) - IntKind.u64.wrap (N / y * y)) = N % y := by
  have e := Int.emod_add_mul_ediv N y
  have r1 := Int.emod_lt_of_pos N (show 0 < y by have := h.y0; omega)
  have r0 := Int.emod_nonneg N (show y ≠ 0 by have := h.y0; omega)
  have := h.y1
  have := h.en
  simp only [u64_wrap_mod]
  rw [Int.mul_comm] at e
  generalize N / y * y = z at *
  generalize N % y = r at *
  omega
theorem HfP.rest_lt {N y u w : Int} (h : HfP N y u w) : 0 ≤ N % y ∧ N % y < y :=
  ⟨Int.emod_nonneg N (by have := h.y0; omega), Int.emod_lt_of_pos N (by have := h.y0; omega)⟩
theorem or_comm' {k : IntKind} {x y : Int} : bitop .or k x y = bitop .or k y x := by
  unfold bitop; simp only [BitVec.or_comm]
/-- Both results of two limbs by one. -/
theorem div_both {hi lo y : Int} {s : Nat} (hs : s < 64) (h0 : 0 ≤ hi) (hlt : hi < y) (l0 : 0 ≤ lo) (l1 : lo < 18446744073709551616)
    (y0 : 9223372036854775808 ≤ y * 2 ^ s) (y1 : y * 2 ^ s < 18446744073709551616) :
    let Y := y * 2 ^ s
    let U := hi * 2 ^ s + hiS lo s
    let w1 := loS lo s / 4294967296
    let w0 := loS lo s % 4294967296
    let N1 := U * 4294967296 + w1
    let N2 := N1 % Y * 4294967296 + w0
    HfP N1 Y U w1 ∧ HfP N2 Y (N1 % Y) w0 ∧ N1 / Y * 4294967296 + N2 / Y = (hi * 18446744073709551616 + lo) / y ∧ N2 % Y / 2 ^ s = (hi * 18446744073709551616 + lo) % y := by
  intro Y U w1 w0 N1 N2
  have hb := hiS_bd (s := s) (Nat.le_of_lt hs) l0 l1
  have lb := @loS_bd lo s
  have hp := p2pos s
  have hU0 : 0 ≤ U := by
    have : 0 ≤ hi * 2 ^ s := Int.mul_nonneg h0 (by omega)
    show 0 ≤ hi * 2 ^ s + hiS lo s
    omega
  have hU1 : U < Y := by
    have h1 : (hi + 1) * 2 ^ s ≤ y * 2 ^ s := Int.mul_le_mul_of_nonneg_right (by omega) (by omega)
    rw [Int.add_mul, Int.one_mul] at h1
    show hi * 2 ^ s + hiS lo s < y * 2 ^ s
    omega
  have hP1 : HfP N1 Y U w1 := ⟨rfl, by show 0 ≤ loS lo s / 4294967296; omega, by show loS lo s / 4294967296 < 4294967296; omega, hU0, hU1, y0, y1⟩
  have hr := hP1.rest_lt
  have hP2 : HfP N2 Y (N1 % Y) w0 := ⟨rfl, by show 0 ≤ loS lo s % 4294967296; omega, by show loS lo s % 4294967296 < 4294967296; omega, hr.1, hr.2, y0, y1⟩
  refine ⟨hP1, hP2, ?_⟩
  have hr2 := hP2.rest_lt
  have e1 := Int.emod_add_mul_ediv N1 Y
  have e2 := Int.emod_add_mul_ediv N2 Y
  -- the whole: (hi B + lo) 2^s = Y (Q1 2^32 + Q0) + R0
  have eA : (hi * 18446744073709551616 + lo) * 2 ^ s = U * 18446744073709551616 + loS lo s := by
    have := lohi (x := lo) (s := s) (Nat.le_of_lt hs)
    rw [Int.add_mul, this]
    show hi * 18446744073709551616 * 2 ^ s + _ = (hi * 2 ^ s + hiS lo s) * 18446744073709551616 + _
    rw [Int.mul_right_comm]; omega
  have eB : N1 = U * 4294967296 + loS lo s / 4294967296 := rfl
  have eC : N2 = N1 % Y * 4294967296 + loS lo s % 4294967296 := rfl
  generalize hq1 : N1 / Y = Q1 at *
  generalize hq0 : N2 / Y = Q0 at *
  generalize hr1 : N1 % Y = R1 at *
  generalize hr0 : N2 % Y = R0 at *
  have eD : (hi * 18446744073709551616 + lo) * 2 ^ s = Y * (Q1 * 4294967296 + Q0) + R0 := by
    rw [eA, Int.mul_add, ← Int.mul_assoc]
    generalize Y * Q1 = z1 at *
    generalize Y * Q0 = z0 at *
    omega
  have eE : Y * (Q1 * 4294967296 + Q0) = y * (Q1 * 4294967296 + Q0) * 2 ^ s := by
    show y * 2 ^ s * _ = _
    rw [Int.mul_right_comm]
  rw [eE] at eD
  have hR : R0 = ((hi * 18446744073709551616 + lo) - y * (Q1 * 4294967296 + Q0)) * 2 ^ s := by rw [Int.sub_mul]; omega
  generalize hA : hi * 18446744073709551616 + lo = A at *
  generalize hQ : Q1 * 4294967296 + Q0 = Q at *
  generalize hT : A - y * Q = T at *
  have hT0 : 0 ≤ T := by
    rcases Int.lt_or_le T 0 with h | h
    · exfalso
      have := Int.mul_neg_of_neg_of_pos h hp
      omega
    · exact h
  have hT1 : T < y := by
    rcases Int.lt_or_le T y with h | h
    · exact h
    · exfalso
      have h1 : y * 2 ^ s ≤ T * 2 ^ s := Int.mul_le_mul_of_nonneg_right h (by omega)
      have h2 : R0 < y * 2 ^ s := hr2.2
      omega
  have hA2 : A = T + y * Q := by omega
  refine ⟨?_, ?_⟩
  · rw [hA2, Int.add_mul_ediv_left _ _ (by omega), Int.ediv_eq_zero_of_lt hT0 hT1]; omega
  · rw [hR, Int.mul_ediv_cancel _ (by omega), hA2, Int.add_mul_emod_self_left, Int.emod_eq_of_lt hT0 hT1]
end Go.Proofs.Ytcfdclehmpfkcaa.Vc
