/- The law WholeTower of surdtop returns true for every two naturals and every cut of bulk at most 1048576 Texts joined: VcAE, VcAF, VcAG, VcAH, VcAI, VcAJ, Na, Nb, Nc, Nd, Ne, Nf, Ng, Nh, Ni, Nj, Ty, Tz, Tx, Tq, Tr, Oa, Nk, Nl, Nm, Nn. -/
import Derived.Test.YtcfdclehmpfkcaaK2
import Derived.Laws.IdiomStrings
import Derived.Laws.BytesArg
import Derived.Test.YtcfdclehmpfkcaaRows
set_option linter.unusedVariables false
set_option linter.unusedSimpArgs false
/- The calculus: append of one number to a slice of an own row, whether it has room or not; a row's bytes as a text. -/
namespace Go.Proofs.Ytcfdclehmpfkcaa.Vc
open Go Go.RowKit
section
variable {P : Program} {Γ : Ctx} {F : Fr} {H : List Ob} {Q : Exit → Fr → List Ob → Prop}
theorem jo_appI {ops : Array Oper} {rest : List Oper} {d T E bytes id ver len : Nat} {ty : TypeId} {ps : String} {af : Array Edge} {z : Value} {x y : Operand} {yy : V} {k : IntKind} {C : List Int} {v : Int} (hT : elP P T E 1 bytes z) (hx : ovO F x = some (.o id ver 0 len)) (hH : H[id]? = some ⟨E, 1, ver, true, ints k C⟩) (hle : len ≤ C.length) (hy : ovO F y = some yy) (hsrc : Src Γ H yy 1 1 (ints k [v]))
    (hb : (len + 1) * bytes ≤ 140737488355328) (h63 : len + 1 ≤ maxLen) (hd : d < Γ.N) (j : ∀ ver' C', len + 1 ≤ C'.length → C'.take (len + 1) = C.take len ++ [v] → JO P ops rest Γ ((d, .o id ver' 0 (len + 1)) :: F) (H.set id ⟨E, 1, ver', true, ints k C'⟩) Q) :
    JO P ops (⟨some d, .call { callee := .builtin .append, args := #[x, y], argTypes := #[T, T] }, ty, ps, af, none⟩ :: rest) Γ F H Q := by
  rcases Nat.lt_or_ge len C.length with hlt | hge
  · refine jo_appin hT hx hH hy hsrc (by decide) (by rw [ints_length]; omega) hd ?_
    rw [Nat.mul_one, show ints k [v] = [.i k v] from rfl, setV_ints]
    refine j ver (C.set len v) (by rw [List.length_set]; omega) ?_
    rw [List.take_add_one, List.take_set_of_le (Nat.le_refl _), List.getElem?_set_self hlt]
    rfl
  · refine jo_app hT hx hH (by rw [ints_length]; omega) hy hsrc hb h63 hd ?_
    rw [ints_append]
    refine j (ver + 1) (C ++ [v]) (by rw [List.length_append]; simp; omega) ?_
    rw [List.take_of_length_le (by rw [List.length_append]; simp; omega), List.take_of_length_le hge]
/-- A closure out of memory that nobody writes. -/
theorem ly_ldqf {T : TypeId} {x : Operand} {y : V} {ys : List V} (hT : oneB P T = true) (hx : ovO F x = some (.q (y :: ys))) (hz : noFr y = true) : LY P Γ (.load T x) F H y := fun ρ a w s => by
  obtain ⟨ad, hv, _, ⟨u, hc, hr⟩, _⟩ := s.ov hx
  refine ⟨u, rel_in (Nat.le_refl _) _ _ (rel_B _ _ hz hr), fun _ _ _ _ _ w' hw' => ?_⟩
  have e : (Instr.loadAt T (a.eval x)).run P w' = .ok u w' := by rw [hv]; exact run_loadAt_one hT (hw' _ _ (by simpa [Addr.add] using hc))
  exact run_v e
/-- The rows that a cell holds are written no more. -/
theorem jc_frzrc {c : Code} (i : Nat) {idB tB szB verB id ver len T sz : Nat} {csB cs : List V} (rows : List (List V)) (hB : (deadAt H id)[idB]? = some ⟨tB, szB, verB, true, csB⟩) (hi : csB[i]? = some (.o id ver 0 len)) (hH : H[id]? = some ⟨T, sz, ver, true, cs⟩) (hcs : cs = rows.flatten) (hlen : rows.length = len) (hsz : ∀ r ∈ rows, r.length = sz)
    (hpu : ∀ r ∈ rows, r.all pureV = true) (h0 : 0 < sz) (hp : ∀ b, ¬ Γ.L0 b) (j : JC P c Γ F ((deadAt H id).set idB ⟨tB, szB, verB, true, csB.set i (.l true sz rows)⟩) Q) : JC P c Γ F H Q := fun a w ⟨ρ, s⟩ => by
  have h2 := (s.dead id).recell (cs := csB) (cs' := csB.set i (.l true sz rows)) hB (by simp) ?_
  · exact j a w ⟨_, h2⟩
  intro k y' hy'
  rcases set_some hy' with ⟨rfl, rfl⟩ | ⟨hne, hy⟩
  · exact ⟨_, hi, fun u _ hu => s.frozenR hH hu hcs hlen hsz hpu h0 hp⟩
  · exact ⟨y', hy, fun u _ hu => hu⟩
/-- append to an own row, in a region that draws. -/
theorem js_app {ops : Array Oper} {d T E sz bytes m id ver len : Nat} {ty : TypeId} {ps : String} {af : Array Edge} {z : Value} {x y : Operand} {yy : V} {zs cs : List V} {R : Fr → List Ob → Prop} (hT : elP P T E sz bytes z) (hx : ovO F x = some (.o id ver 0 len)) (hH : H[id]? = some ⟨E, sz, ver, true, cs⟩) (hcs : cs.length = len * sz) (hy : ovO F y = some yy) (hsrc : Src Γ H yy sz m zs)
    (hb : (len + m) * bytes ≤ 140737488355328) (h63 : len + m ≤ maxLen) (hd : d < Γ.N) (hm : mildB ⟨some d, .call { callee := .builtin .append, args := #[x, y], argTypes := #[T, T] }, ty, ps, af, none⟩ = false) (k : R ((d, .o id (ver + 1) 0 (len + m)) :: F) (H.set id ⟨E, sz, ver + 1, true, cs ++ zs⟩)) :
    JS P ops Γ ⟨some d, .call { callee := .builtin .append, args := #[x, y], argTypes := #[T, T] }, ty, ps, af, none⟩ F H Q R := fun a w ⟨ρ, s⟩ => by
  obtain ⟨v, w', ρ', r, s', hr⟩ := sy_app hT hx hH hcs hy hsrc hb h63 ρ a w s
  refine ⟨rfl, ?_⟩
  unfold Oper.wp
  rw [hr _ _ _ _ _]
  exact ⟨fun e => by rw [hm] at e; simp at e, _, _, k, ρ', s'.put hd r⟩
/-- A part of an own row of whole numbers, as what is appended. -/
theorem src_oo {id ver off len t : Nat} {k : IntKind} {C : List Int} (hH : H[id]? = some ⟨t, 1, ver, true, ints k C⟩) (hle : off + len ≤ C.length) : Src Γ H (.o id ver off len) 1 len (ints k ((C.drop off).take len)) :=
  ⟨by rw [ints_length, List.length_take, List.length_drop]; omega, fun ρ F a w s v r => by
    obtain ⟨re, o⟩ := s.own hH rfl
    obtain ⟨re', e1, hle', hp⟩ := r
    obtain rfl : re' = re := by have := e1.symm.trans o.at_; injection this
    obtain ⟨hcap, ⟨g, ad, hg, hv, had⟩ | ⟨hg, hv, ho, hl⟩⟩ := hp (o.ok.ver.symm)
    · obtain ⟨cur, c1, c2, c3, c4, c5⟩ := o.ok.blk g hg
      have key : ∀ j, j < len → ∃ x, C[off + j]? = some x ∧ w.cell? (ad.add j) = some (.int k x) := fun j hj => by
        have hlt : off + j < C.length := by omega
        have h1 : (ints k C)[off + j]? = some (.i k C[off + j]) := by rw [ints_at, List.getElem?_eq_getElem hlt]; rfl
        obtain ⟨u, d1, d2, d3⟩ := o.cell hg h1
        have hz : re'.sz = 1 := o.ok.sz
        rw [had (.inl (by rw [ints_length] at c3; have : cur.size = re'.cap * 1 := c2; omega)), hz, addr_add_plain, Nat.mul_one, d1]
        exact ⟨C[off + j], List.getElem?_eq_getElem hlt, by rw [show u = .int k C[off + j] from d3]⟩
      refine ⟨some ad, re'.cap - off, ((C.drop off).take len).map (Value.int k), hv, by rw [List.length_map, List.length_take, List.length_drop]; omega, by intro u hu; obtain ⟨x, _, rfl⟩ := List.mem_map.1 hu; rfl, fun _ => ⟨ad, rfl, fun j u hu => ?_⟩, fun j z hz => ?_⟩
      · rw [List.getElem?_map, List.getElem?_take] at hu
        by_cases hj : j < len
        · rw [if_pos hj, List.getElem?_drop] at hu
          obtain ⟨x, hx1, hx2⟩ := key j hj
          rw [hx1] at hu
          injection hu with hu
          rw [← hu]; exact hx2
        · rw [if_neg hj] at hu; cases hu
      · rw [ints_at] at hz
        rw [List.getElem?_map]
        cases hx : ((C.drop off).take len)[j]? with
        | none => rw [hx] at hz; cases hz
        | some x => rw [hx] at hz; injection hz with hz; exact ⟨_, rfl, by rw [← hz]; rfl⟩
    · subst ho; subst hl
      exact ⟨none, 0, [], hv, by simp, by simp, by simp, fun j z hz => by simp [ints] at hz⟩⟩
/-- The version of what is handed over begins anew. -/
theorem SpecM.ver0 {f : FuncId} {args : List V} {T sz len : Nat} {cs : List V} (hcs : cs.all (idB 0) = true) (h : SpecM P f args [] (fun o G => ∃ ver, o = .ret (.o 0 ver 0 len) ∧ G = [⟨T, sz, ver, true, cs⟩])) : SpecM P f args [] (fun o G => o = .ret (.o 0 0 0 len) ∧ G = [⟨T, sz, 0, true, cs⟩]) :=
  fun M w ρ vals h1 h2 h3 => (h M w ρ vals h1 h2 h3).mono fun e w' ⟨o, H', ρ', ⟨ver, ho, hH⟩, r1, r2, r3, r4, r5, ev, r8, r9⟩ => by
    subst ho; subst hH
    obtain ⟨re, rfl⟩ : ∃ re, ρ' = [re] := by
      have hl := r2.len
      match ρ', hl with
      | [re], _ => exact ⟨re, rfl⟩
    obtain ⟨re', k1, k2⟩ := r2.ob 0 _ rfl rfl
    obtain rfl : re = re' := by simpa using k1
    have hρ : ρ = [] := by
      have := h2.len
      simpa using this
    have hL : ∀ b, Lset M [{ re with ver := 0 }] [(⟨T, sz, 0, true, cs⟩ : Ob)] b ↔ Lset M [re] [(⟨T, sz, ver, true, cs⟩ : Ob)] b := fun b => by
      constructor
      · rintro (h | ⟨i, ob, r, m1, m2, m3, m4⟩)
        · exact .inl h
        · cases i with
          | zero => simp at m3; subst m3; exact .inr ⟨0, _, re, rfl, rfl, rfl, m4⟩
          | succ i => simp at m1
      · rintro (h | ⟨i, ob, r, m1, m2, m3, m4⟩)
        · exact .inl h
        · cases i with
          | zero => simp at m3; subst m3; exact .inr ⟨0, _, { re with ver := 0 }, rfl, rfl, rfl, m4⟩
          | succ i => simp at m1
    have hLe : Lset M [{ re with ver := 0 }] [(⟨T, sz, 0, true, cs⟩ : Ob)] = Lset M [re] [(⟨T, sz, ver, true, cs⟩ : Ob)] := funext fun b => propext (hL b)
    obtain ⟨v, rfl, re2, e1, e2, e3⟩ := r1
    obtain rfl : re = re2 := by simpa using e1
    refine ⟨_, _, [{ re with ver := 0 }], ⟨rfl, rfl⟩, ⟨v, rfl, { re with ver := 0 }, rfl, Nat.le_refl _, fun _ => e3 k2.ver.symm⟩, ⟨rfl, fun i ob m1 m2 => ?_, fun i j oi oj ri rj g hij m1 m2 m3 => ?_, fun i ob r g m1 m2 m3 m4 => ?_⟩, r3, r4, r5, ⟨ev.size, ev.blk, fun b hb hn => by rw [hLe]; exact ev.lv b hb hn, ev.bb, fun i r hi => by rw [hρ] at hi; simp at hi⟩, fun i ob r g m1 m2 m3 m4 => ?_, r9⟩
    · cases i with
      | zero =>
        simp at m1; subst m1
        refine ⟨_, rfl, rfl, k2.sz, k2.nob, fun g hg => ?_⟩
        obtain ⟨cur, c1, c2, c3, c4, c5⟩ := k2.blk g hg
        refine ⟨cur, c1, c2, c3, c4, fun j y hy => ?_⟩
        obtain ⟨u, d1, d2, d3⟩ := c5 j y hy
        refine ⟨u, d1, d2, ?_⟩
        have hcut := d3.cut (n := 0) y u (List.all_eq_true.1 hcs y (List.mem_of_getElem? hy))
        rw [hLe]
        exact rel_in (Nat.le_refl _) y u hcut
      | succ i => simp at m1
    · cases i with
      | zero =>
        cases j with
        | zero => exact absurd rfl hij
        | succ j => simp at m3
      | succ i => simp at m1
    · cases i with
      | zero => simp at m1 m3; subst m1; subst m3; exact r2.foreign 0 _ re g rfl rfl rfl m4
      | succ i => simp at m1
    · cases i with
      | zero => simp at m1 m3; subst m1; subst m3; exact r8 0 _ re g rfl rfl rfl m4
      | succ i => simp at m1
end
end Go.Proofs.Ytcfdclehmpfkcaa.Vc

/- The calculus: a row's bytes as a text. -/
namespace Go.Proofs.Ytcfdclehmpfkcaa.Vc
open Go Go.RowKit
section
variable {P : Program} {Γ : Ctx} {F : Fr} {H : List Ob} {Q : Exit → Fr → List Ob → Prop}
theorem ly_b2s {T E T' : TypeId} {x : Operand} {fr : Bool} {s : ByteArray} (hT : P.underlying T = some (.slice E)) (hE : P.underlying E = some (.int .u8)) (hD : P.underlying T' = some .string) (hx : ovO F x = some (.n fr .u8 (bytesI s))) : LY P Γ (.convert T T' x) F H (.s s) := fun ρ a w st => by
  obtain ⟨A, c, hv, h1, h2, h3⟩ := st.ov hx
  refine ⟨.string s, rfl, fun _ _ _ _ _ w' hw' => ?_⟩
  have e : (convert T T' (a.eval x)).run P w' = .ok (.string s) w' := by
    rw [hv, bytesI_len]
    cases A with
    | none =>
      have hn : bytesI s = [] := by
        cases hb : bytesI s with
        | nil => rfl
        | cons y ys =>
          obtain ⟨ad, e1, _⟩ := h3 (by rw [hb]; simp)
          cases e1
      have hs : s = ByteArray.empty := by
        apply ByteArray.ext
        apply Array.toList_inj.1
        have : s.data.toList = [] := by
          unfold bytesI at hn
          exact List.map_eq_nil_iff.1 hn
        rw [this]; rfl
      rw [Go.run_convert_bytes_nil (P := P) w' T E hT hE _ _ T' hD, hs]
    | some ad =>
      have h4 := Go.run_convert_bytes_back (P := P) w' T T' E ad c s.data.toList hT hE hD (fun j hj => by
        have hj' : (bytesI s)[j]? = some (((s.data.toList[j]).toNat : Nat) : Int) := by
          unfold bytesI
          rw [List.getElem?_map, List.getElem?_eq_getElem hj]; rfl
        obtain ⟨ad2, e1, hb, hc⟩ := h3 (by intro e; rw [e] at hj'; simp at hj')
        injection e1 with e1; subst e1
        exact hw' _ _ (hc j _ hj'))
      have hsz : s.data.toList.length = s.size := by simp
      rw [hsz] at h4
      exact h4
  exact run_v e
/-- The slot's variable, a closure of frozen things, is written no more. -/
theorem StA.frozenF1 {ρ : List Re} {a : Act} {w : World} (s : StA Γ ρ F H a w) {id ver T : Nat} {f : FuncId} {caps : List V} (hH : H[id]? = some ⟨T, 1, ver, true, [.f f caps]⟩) {v : Value} (r : Rel w (Lset Γ.M ρ H) Γ.w0.heap.size ρ (.p id ver 0) v)
    (hcaps : caps.all pureV = true) (hp : ∀ b, ¬ Γ.L0 b) : Rel w (Lset Γ.M ρ (deadAt H id)) Γ.w0.heap.size ρ (.q [.f f caps]) v := by
  obtain ⟨re, o⟩ := s.own hH rfl
  obtain ⟨re', e1, _, hq⟩ := r
  obtain rfl : re' = re := by have := e1.symm.trans o.at_; injection this
  obtain ⟨g, hg, hv⟩ := hq (o.ok.ver.symm)
  have hok := s.mine_dead hH rfl o.at_ hg hp false
  have ev := s.dead_ev id
  obtain ⟨u, d1, d2, d3⟩ := o.cell hg (show [V.f f caps][0]? = some _ from rfl)
  obtain ⟨us, hu, hr⟩ := d3
  rw [hv]
  exact ⟨⟨g, 0, none⟩, rfl, hok, ⟨⟨u, d1, us, hu, relL_pure _ _ hcaps (relL_ev ev _ _ hr)⟩, trivial⟩⟩
end
end Go.Proofs.Ytcfdclehmpfkcaa.Vc

/- The calculus: functions that share a map: what all its entries are; calls that may add to it. -/
namespace Go.Proofs.Ytcfdclehmpfkcaa.Vc
open Go Go.RowKit
/-- A map of whole numbers: what stands at n is c n. -/
def GoodM (M : Nat → Prop) (c : Nat → V) (g : Nat) (w : World) : Prop :=
  ∃ es ck, w.heap[g]? = some (.map es ck) ∧ ∀ e ∈ es.toList, ∃ n : Nat, e.key = .int .i64 (n : Int) ∧ Rel w M 0 [] (c n) e.val
theorem GoodM.ev {M : Nat → Prop} {c : Nat → V} {g : Nat} {w w' : World} (h : GoodM M c g w) (hg : w'.heap[g]? = w.heap[g]?) (hs : w.heap.size ≤ w'.heap.size) (hb : ∀ b, b < w.heap.size → ¬ M b → w'.heap[b]? = w.heap[b]?) : GoodM M c g w' := by
  obtain ⟨es, ck, h1, h2⟩ := h
  refine ⟨es, ck, hg.trans h1, fun e he => ?_⟩
  obtain ⟨n, h3, h4⟩ := h2 e he
  exact ⟨n, h3, h4.ev ⟨hs, hb, fun _ _ h => h, Nat.le_refl _, fun i r h => by simp at h⟩⟩
structure CtxM (Γ : Ctx) (g : Nat) : Prop where
  m : Γ.M g
  l0 : ∀ b, Γ.L0 b ↔ b = g
  lt : g < Γ.w0.heap.size
  rho : Γ.ρ0 = []
/-- A contract of a function that knows the map. -/
def SpecX (P : Program) (f : FuncId) (args : List V) (c : Nat → V) (g : Nat) (post : Out → Prop) : Prop :=
  ∀ (M : Nat → Prop) (w : World) (vals : List Value), (∀ b, M b → b < w.heap.size) → M g → GoodM M c g w → RelL w M w.heap.size [] args vals →
    Calls P f vals.toArray w fun e w' => ∃ o, post o ∧ EndRel w' M w.heap.size o e ∧ GoodM M c g w' ∧ w'.os = w.os ∧ w'.tape = w.tape ∧ w'.output = w.output ∧ w.heap.size ≤ w'.heap.size ∧ ∀ b, b < w.heap.size → b ≠ g → w'.heap[b]? = w.heap[b]?
theorem SpecX.mono {P : Program} {f : FuncId} {args : List V} {c : Nat → V} {g : Nat} {post post' : Out → Prop} (h : SpecX P f args c g post) (hp : ∀ o, post o → post' o) : SpecX P f args c g post' :=
  fun M w vals h1 h2 h3 h4 => (h M w vals h1 h2 h3 h4).mono fun e w' ⟨o, k1, k2⟩ => ⟨o, hp o k1, k2⟩
section
variable {P : Program} {Γ : Ctx} {c : Nat → V} {g : Nat} {F : Fr} {𝒬 : Exit → Act → World → Prop}
def JCM (P : Program) (x : Code) (Γ : Ctx) (c : Nat → V) (g : Nat) (F : Fr) (𝒬 : Exit → Act → World → Prop) : Prop := ∀ a w, StA Γ [] F [] a w → GoodM Γ.M c g w → x.wp P 𝒬 a w
def JOM (P : Program) (ops : Array Oper) (l : List Oper) (Γ : Ctx) (c : Nat → V) (g : Nat) (F : Fr) (𝒬 : Exit → Act → World → Prop) : Prop := ∀ a w, StA Γ [] F [] a w → GoodM Γ.M c g w → wpList P ops 𝒬 l a w
def JAM (P : Program) (ops : Array Oper) (fuel : Nat) (listed : Array Bool) (Γ : Ctx) (c : Nat → V) (g : Nat) (F : Fr) (𝒬 : Exit → Act → World → Prop) : Prop := ∀ a w, StA Γ [] F [] a w → GoodM Γ.M c g w → wpAnyX P ops 𝒬 fuel listed a w
theorem jcm_seq {x y : Code} (j : JCM P x Γ c g F (Exit.then (y.wp P 𝒬) 𝒬)) : JCM P (.seq x y) Γ c g F 𝒬 := fun a w s h => wp_seq (j a w s h)
theorem jcm_skip {y : Code} (j : JCM P y Γ c g F 𝒬) : JCM P .skip Γ c g F (Exit.then (y.wp P 𝒬) 𝒬) := fun a w s h => wp_skip (j a w s h)
theorem jcm_ret (j : ∀ a w, StA Γ [] F [] a w → GoodM Γ.M c g w → 𝒬 .ret a w) : JCM P .ret Γ c g F 𝒬 := fun a w s h => wp_ret (j a w s h)
theorem jcm_litt {x y : Code} {o : Operand} (h : ovO F o = some (.b true)) (j : JCM P x Γ c g F 𝒬) : JCM P (.cond o x y) Γ c g F 𝒬 := fun a w s hg =>
  wp_cond_split (eval_b s h) (fun _ => j a w s hg) (fun e => by simp at e)
theorem jcm_litf {x y : Code} {o : Operand} (h : ovO F o = some (.b false)) (j : JCM P y Γ c g F 𝒬) : JCM P (.cond o x y) Γ c g F 𝒬 := fun a w s hg =>
  wp_cond_split (eval_b s h) (fun e => by simp at e) (fun _ => j a w s hg)
theorem jcm_region {id : Nat} {l : List Oper} (h : JOM P l.toArray l Γ c g F 𝒬) : JCM P (.region id l.toArray false) Γ c g F 𝒬 := fun a w s hg => wp_region_lit (h a w s hg)
theorem jcm_draw {id n : Nat} (ops : Array Oper) (hn : ops.size = n) (hm : P.follows .mixedOrders = true) (h : JAM P ops n (Array.replicate n false) Γ c g F 𝒬) : JCM P (.region id ops true) Γ c g F 𝒬 := fun a w s hg => by
  subst hn
  exact wp_region_any hm (wpAny_of_X _ _ _ _ (h a { w with drawn := w.drawn + 1 } (s.below ⟨rfl, rfl, rfl, Nat.le_refl _, fun _ _ => rfl⟩) (hg.ev rfl (Nat.le_refl _) fun _ _ _ => rfl)))
theorem jom_nil {ops : Array Oper} {y : Code} (j : JCM P y Γ c g F 𝒬) : JOM P ops [] Γ c g F (Exit.then (y.wp P 𝒬) 𝒬) := fun a w s hg => j a w s hg
theorem jom_l {ops : Array Oper} {rest : List Oper} {d : Nat} {op : Op} {T : TypeId} {ps : String} {af : Array Edge} {y : V} (h : LY P Γ op F [] y) (hd : d < Γ.N) (j : JOM P ops rest Γ c g ((d, y) :: F) 𝒬) : JOM P ops (⟨some d, op, T, ps, af, none⟩ :: rest) Γ c g F 𝒬 := fun a w s hg => by
  obtain ⟨v, r, hr⟩ := h [] a w s
  refine wpList_plain rfl fun K hK => ?_
  unfold Oper.wp
  rw [hr _ _ _ _ _ w (Ext.refl w)]
  exact hK _ _ (j _ _ (s.put hd r) hg)
/-- The state behind a change of the map alone (and of what is new). -/
theorem StA.mapped (hΓ : CtxM Γ g) {a : Act} {w w' : World} (s : StA Γ [] F [] a w) (h1 : w'.os = w.os) (h2 : w'.tape = w.tape) (h3 : w'.output = w.output) (h4 : w.heap.size ≤ w'.heap.size) (h5 : ∀ b, b < w.heap.size → b ≠ g → w'.heap[b]? = w.heap[b]?) : StA Γ [] F [] a w' := by
  refine ⟨⟨rfl, fun i o h => by simp at h, fun i j oi oj ri rj g _ h => by simp at h, fun i o r g h => by simp at h⟩, s.n, s.ds, fun t => (s.fr t).ev ⟨h4, fun b hb hn => h5 b hb (fun e => hn (.inl (e ▸ hΓ.m))), fun _ _ h => h, Nat.le_refl _, fun i r h => by simp at h⟩, ⟨h1.trans s.fro.os, h2.trans s.fro.tape, h3.trans s.fro.output, Nat.le_trans s.fro.size h4, fun b hb hn => (h5 b (Nat.lt_of_lt_of_le hb s.fro.size) (fun e => hn ((hΓ.l0 b).2 e))).trans (s.fro.blk b hb hn), s.fro.old, fun i o r g h => by simp at h, s.fro.rho⟩⟩
/-- A call of a closure that knows the map. -/
theorem wp_callX (hΓ : CtxM Γ g) {f : FuncId} {fn : Func} {dst : Option Tmp} {T : TypeId} {ps : String} {af : Array Edge} {gd : Option (Nat × Bool)} {o : Operand} {args : Array Operand} {ts : Array TypeId} {ys cs zs : List V} {post : Out → Prop}
    (hs : SpecX P f zs c g post) (hc : ovO F o = some (.f f cs)) (hf : P.funcs[f]? = some fn) (hb : fn.body.isSome = true) (hn : (fn.name == "runtime.NumGoroutine") = false) (hx : ovL F args.toList ys) (ha : ArgL (ys ++ cs) zs) {a : Act} {w : World} (s : StA Γ [] F [] a w) (hg : GoodM Γ.M c g w) {K : Act → World → Prop} {R : Exit → Act → World → Prop}
    (k : ∀ y v w', post (.ret y) → Rel w' (Lset Γ.M [] []) Γ.w0.heap.size [] y v → StA Γ [] F [] a w' → GoodM Γ.M c g w' → Ext w w' → K (a.put dst v) w') (kp : ∀ ch, ¬ post (.pan ch)) :
    (⟨dst, .call { callee := .value o, args := args, argTypes := ts }, T, ps, af, gd⟩ : Oper).wp P a w K R := by
  obtain ⟨us0, hcv, hcr⟩ := s.ov hc
  have hr := relL_app _ _ _ _ (s.ovL hx) hcr
  have hargs : args.map a.eval ++ us0.toArray = (args.toList.map a.eval ++ us0).toArray := by apply Array.ext'; simp
  have hcall := hs Γ.M w (args.toList.map a.eval ++ us0) (fun b h => Nat.lt_of_lt_of_le (s.fro.old b h) s.fro.size) hΓ.m hg (by rw [← lset_nil (M := Γ.M)]; exact ha.rel _ hr)
  have hrun : (execOp a.eval ⟨dst, .call { callee := .value o, args := args, argTypes := ts }, T, ps, af, gd⟩).run P w = .ok (.enter f (args.toList.map a.eval ++ us0).toArray) w := by
    have hb' : ¬ fn.body = none := by intro h; rw [h] at hb; cases hb
    have hn' : ¬ fn.name = "runtime.NumGoroutine" := by simpa using hn
    simp [execOp, resolve, hcv, Deferred.ofValue, invoke, callFunc, program, Sem.run, hf]
    rw [if_neg hn', if_neg hb', hargs]
  unfold Oper.wp
  rw [hrun]
  show Calls P f _ w _
  refine hcall.mono fun e w' ⟨out, h1, h2, h3, h4, h5, h6, h7, h8⟩ => ?_
  have s' := s.mapped hΓ h4 h5 h6 h7 h8
  have hext : Ext w w' := fun ad v h => by
    have hlt := World.block_lt_of_cell? w ad h
    by_cases hb : ad.block = g
    · obtain ⟨es, ck, hm, _⟩ := hg
      exfalso
      unfold World.cell? at h
      rw [hb, hm] at h
      simp at h
    · exact (World.cell?_of_block (h8 _ hlt hb)).trans h
  cases out with
  | ret y =>
    obtain ⟨v, rfl, hr'⟩ := h2
    exact k y v w' h1 (by rw [lset_nil]; exact rel_Ble s.fro.size y v hr') s' h3 hext
  | pan ch => exact absurd h1 (kp ch)
theorem jom_callX {f : FuncId} (fn : Func) (hΓ : CtxM Γ g) {ops : Array Oper} {rest : List Oper} {d : Nat} {T : TypeId} {ps : String} {af : Array Edge} {o : Operand} {args : Array Operand} {ts : Array TypeId} {ys cs zs : List V} {post : Out → Prop}
    (hs : SpecX P f zs c g post) (hc : ovO F o = some (.f f cs)) (hf : P.funcs[f]? = some fn) (hb : fn.body.isSome = true) (hn : (fn.name == "runtime.NumGoroutine") = false) (hx : ovL F args.toList ys) (ha : ArgL (ys ++ cs) zs) (hd : d < Γ.N)
    (k : ∀ y, post (.ret y) → JOM P ops rest Γ c g ((d, y) :: F) 𝒬) (kp : ∀ ch, ¬ post (.pan ch)) : JOM P ops (⟨some d, .call { callee := .value o, args := args, argTypes := ts }, T, ps, af, none⟩ :: rest) Γ c g F 𝒬 := fun a w s hg =>
  wpList_plain rfl fun K hK => wp_callX hΓ hs hc hf hb hn hx ha s hg (fun y v w' h1 h2 h3 h4 _ => hK _ _ (k y h1 _ _ (h3.put hd h2) h4)) kp
/-! ### Regions that draw -/
theorem jam_nil {ops : Array Oper} {fuel : Nat} {listed : Array Bool} {y : Code} (hr : Region.ready .any ops listed = []) (j : JCM P y Γ c g F 𝒬) : JAM P ops fuel listed Γ c g F (Exit.then (y.wp P 𝒬) 𝒬) := fun a w s hg => by
  cases fuel with
  | zero => exact ⟨hr, j a w s hg⟩
  | succ n => exact ⟨fun _ => j a w s hg, by rw [hr]; simp⟩
theorem jam_l2 {ops : Array Oper} {fuel : Nat} {listed : Array Bool} (i : Nat) (D : List Nat) {st : Bool} {o : Oper} {d : Nat} {y : V} (h : LO P ops st Γ o d F [] y) (hi : ops[i]? = some o) (hs : Region.noSelect ops = true)
    (hr : (Region.ready .any ops listed).contains i = true) (hf : freeX2 st ops listed i D = true) (hdp : depX ops listed i D = true) (hQ : ∀ c a w, ¬ 𝒬 (.panic c) a w)
    (j : JAM P ops fuel (listed.setIfInBounds i true) Γ c g ((d, y) :: F) 𝒬) : JAM P ops (fuel + 1) listed Γ c g F 𝒬 := fun a w s hg => by
  obtain ⟨hdst, hd, h⟩ := h
  obtain ⟨v, r, hy⟩ := h [] a w s
  have hD : ∀ j ∈ D, listed.getD j true = false ∧ ∃ oj, ops[j]? = some oj ∧ ∃ e ∈ oj.after, Region.binds .any e = true ∧ (e.on = i ∨ e.on ∈ D) := fun j hj => by
    have := List.all_eq_true.1 hdp j hj
    simp only [Bool.and_eq_true, Bool.not_eq_true'] at this
    refine ⟨this.1, ?_⟩
    cases hoj : ops[j]? with
    | none => rw [hoj] at this; simp at this
    | some oj =>
      rw [hoj] at this
      obtain ⟨e, he, hb⟩ := Array.any_eq_true'.1 this.2
      simp only [Bool.and_eq_true, Bool.or_eq_true] at hb
      exact ⟨oj, rfl, e, he, hb.1, hb.2.imp Nat.eq_of_beq_eq_true (fun h => by simpa using h)⟩
  refine wpAnyX_first2 D hi (Region.noSelect_spec hs) (fun c a w h => absurd h (hQ c _ w)) (fun j hj => (hD j hj).2) fuel listed a w (fun j hj => (hD j hj).1) (fun j oj hoj hne hun hjD => ?_) (by simpa using hr) hy (by rw [hdst]; exact j _ _ (s.put hd r) hg)
  simp only [freeX2, hi, List.all_eq_true, List.mem_range] at hf
  have h1 := hf j (Array.getElem?_eq_some_iff.1 hoj).1
  have hb : Nat.beq j i = false := by
    cases hb : Nat.beq j i
    · rfl
    · exact absurd (Nat.eq_of_beq_eq_true hb) hne
  have hc : D.contains j = false := by simpa using hjD
  simp only [hoj, hb, hun, hc, Bool.false_or, Bool.and_eq_true, Bool.or_eq_true, Bool.not_eq_true'] at h1
  exact ⟨h1.1, fun e => h1.2.resolve_left (by simp [e])⟩
theorem jam_1X {f : FuncId} (fn : Func) (i : Nat) (hΓ : CtxM Γ g) {ops : Array Oper} {fuel : Nat} {listed : Array Bool} {d : Nat} {T : TypeId} {ps : String} {af : Array Edge} {o : Operand} {args : Array Operand} {ts : Array TypeId} {ys cs zs : List V} {post : Out → Prop}
    (hs : SpecX P f zs c g post) (hi : ops[i]? = some ⟨some d, .call { callee := .value o, args := args, argTypes := ts }, T, ps, af, none⟩) (hr : Region.ready .any ops listed = [i])
    (hc : ovO F o = some (.f f cs)) (hf : P.funcs[f]? = some fn) (hb : fn.body.isSome = true) (hn : (fn.name == "runtime.NumGoroutine") = false) (hx : ovL F args.toList ys) (ha : ArgL (ys ++ cs) zs) (hd : d < Γ.N)
    (k : ∀ y, post (.ret y) → JAM P ops fuel (listed.setIfInBounds i true) Γ c g ((d, y) :: F) 𝒬) (kp : ∀ ch, ¬ post (.pan ch)) : JAM P ops (fuel + 1) listed Γ c g F 𝒬 := fun a w s hg => by
  refine ⟨fun h0 => by rw [hr] at h0; simp at h0, fun i' hi' => ?_⟩
  rw [hr] at hi'
  simp at hi'
  subst hi'
  unfold wpOp
  rw [hi]
  simp only []
  rw [if_pos (show Region.wanted (⟨some d, .call { callee := .value o, args := args, argTypes := ts }, T, ps, af, none⟩ : Oper) (yielded ops a.tmps) = true from rfl)]
  refine .inl (wp_callX hΓ hs hc hf hb hn hx ha s hg (fun y v w' h1 h2 h3 h4 h5 => ⟨fun o' ho' hm' => h5, k y h1 _ _ (h3.put hd h2) h4⟩) kp)
/-! ### The contract from its body; the map begun -/
def qRetX (P : Program) (fn : Func) (Γ : Ctx) (c : Nat → V) (g : Nat) (post : Out → Prop) : Exit → Act → World → Prop
  | .ret, a, w | .normal, a, w => ∃ F ys, StA Γ [] F [] a w ∧ GoodM Γ.M c g w ∧ ResL P F [] fn.results.toList ys ∧ post (.ret (packV ys))
  | _, _, _ => False
theorem specX_of {f : FuncId} {fn : Func} {x : Code} {args : List V} {post : Out → Prop} (F0 : Fr) (h0 : ((args.zipIdx 0).map fun p => (p.2, p.1)) = F0) (hf : P.funcs[f]? = some fn) (hb : fn.body = some x) (hn : args.length ≤ fn.ntmps)
    (h : ∀ Γ : Ctx, Γ.N = fn.ntmps → Γ.ds = [] → CtxM Γ g → JCM P x Γ c g F0 (qRetX P fn Γ c g post)) : SpecX P f args c g post := fun M w vals hM hMg hgood hr => by
  subst h0; refine calls_of_wp hf hb ?_
  have hlen : vals.length = args.length := (relL_one args vals hr).1
  let Γ : Ctx := ⟨fn.ntmps, w, M, [], fun b => b = g, []⟩
  have Leq : ∀ b, Lset M [] [] b → M b := by
    rintro b (h | ⟨i, o, r, h1, _⟩)
    · exact h
    · simp at h1
  have s : StA Γ [] ((args.zipIdx 0).map fun p => (p.2, p.1)) [] ⟨vals.toArray ++ Array.replicate (fn.ntmps - vals.toArray.size) undef, []⟩ w := by
    refine ⟨⟨rfl, fun i o h => by simp at h, fun i j oi oj ri rj g _ h => by simp at h, fun i o r g h => by simp at h⟩, ?_, rfl, fun t => ?_, ⟨rfl, rfl, rfl, Nat.le_refl _, fun _ _ _ => rfl, hM, fun i o r g h => by simp at h, fun i r h => by have h' : ([] : List Re)[i]? = some r := h; simp at h'⟩⟩
    · show fn.ntmps ≤ (vals.toArray ++ Array.replicate (fn.ntmps - vals.toArray.size) undef).size
      simp; omega
    · have look : ∀ (ys : List V) (k t : Nat), getO ((ys.zipIdx k).map fun p => (p.2, p.1)) t = if k ≤ t then ys[t - k]? else none := by
        intro ys
        induction ys with
        | nil => intro k t; simp [getO]
        | cons y ys ih =>
          intro k t
          simp only [List.zipIdx_cons, List.map_cons, getO]
          cases hb : Nat.beq t k
          · have hne : t ≠ k := by intro e; subst e; simp at hb
            rw [ih (k + 1) t]
            by_cases h1 : k ≤ t
            · rw [if_pos h1, if_pos (by omega), show t - k = (t - (k + 1)) + 1 by omega]; rfl
            · rw [if_neg h1, if_neg (by omega)]; rfl
          · have := Nat.eq_of_beq_eq_true hb
            subst this
            simp
      unfold get
      rw [look args 0 t, if_pos (Nat.zero_le _), Nat.sub_zero]
      cases ht : args[t]? with
      | none => exact trivial
      | some y =>
        obtain ⟨u, hu, hru⟩ := relL_at args vals t y hr ht
        have hlt : t < vals.length := (List.getElem?_eq_some_iff.1 hu).1
        have e : ((vals.toArray ++ Array.replicate (fn.ntmps - vals.toArray.size) undef).getD t undef) = u := by
          rw [Array.getD_eq_getD_getElem?, Array.getElem?_append_left (by simpa using hlt)]
          simp [hu]
        show Rel w (Lset M [] []) w.heap.size [] y ((vals.toArray ++ Array.replicate (fn.ntmps - vals.toArray.size) undef).getD t undef)
        rw [e]
        exact hru.ev ⟨Nat.le_refl _, fun _ _ _ => rfl, fun b _ hn h => hn (Leq b h), Nat.le_refl _, fun i r h => by simp at h⟩
  have hΓ : CtxM Γ g := ⟨hMg, fun _ => Iff.rfl, hM g hMg, rfl⟩
  refine Code.wp_mono (fun e a w' q => ?_) (h Γ rfl rfl hΓ _ _ s hgood)
  have fin : (∃ F ys, StA Γ [] F [] a w' ∧ GoodM Γ.M c g w' ∧ ResL P F [] fn.results.toList ys ∧ post (.ret (packV ys))) → a.defers = [] ∧ ∃ v, (Go.results fn a.tmps).run P w' = .ok v w' ∧ ∃ o, post o ∧ EndRel w' M w.heap.size o (.returned v) ∧ GoodM M c g w' ∧ w'.os = w.os ∧ w'.tape = w.tape ∧ w'.output = w.output ∧ w.heap.size ≤ w'.heap.size ∧ ∀ b, b < w.heap.size → b ≠ g → w'.heap[b]? = w.heap[b]? := by
    rintro ⟨F, ys, s', hg', h1, h2⟩
    obtain ⟨v, hv, hr⟩ := s'.results h1
    refine ⟨s'.ds, v, hv, .ret (packV ys), h2, ⟨v, rfl, ?_⟩, hg', s'.fro.os, s'.fro.tape, s'.fro.output, s'.fro.size, fun b hb hne => s'.fro.blk b hb hne⟩
    rw [lset_nil] at hr
    exact hr
  cases e with
  | normal => exact fin q
  | ret => exact fin q
  | _ => exact absurd q (by simp [qRetX])
/-! ### Looking up, entering -/
theorem findNow_good {k : IntKind} {n : Int} : ∀ (es : List MapEntry) (i : Nat), (∀ e ∈ es, ∃ m : Int, e.key = .int k m) →
    (∃ j v, Instr.findNow (.int k) (.int k n) es i = some (some (j, v)) ∧ ∃ e ∈ es, e.key = .int k n ∧ e.val = v ∧ es[j - i]? = some e ∧ i ≤ j) ∨ Instr.findNow (.int k) (.int k n) es i = some none
  | [], i, _ => .inr rfl
  | e :: es, i, h => by
    obtain ⟨m, hm⟩ := h e (List.mem_cons_self ..)
    have hsn : Instr.sameNow (.int k) (.int k n) e.key = some (n == m) := by rw [hm]; simp [Instr.sameNow]
    by_cases hnm : n = m
    · subst hnm
      refine .inl ⟨i, e.val, ?_, e, List.mem_cons_self .., hm, rfl, by simp, Nat.le_refl _⟩
      unfold Instr.findNow
      rw [hsn]; simp
    · have hstep : Instr.findNow (.int k) (.int k n) (e :: es) i = Instr.findNow (.int k) (.int k n) es (i + 1) := by
        conv => lhs; unfold Instr.findNow
        rw [hsn, show (n == m) = false by simpa using hnm]
      rw [hstep]
      rcases findNow_good es (i + 1) (fun e he => h e (List.mem_cons_of_mem _ he)) with ⟨j, v, h1, e', h2, h3, h4, h5, h6⟩ | h1
      · exact .inl ⟨j, v, h1, e', List.mem_cons_of_mem _ h2, h3, h4, by rw [show j - i = (j - (i + 1)) + 1 by omega]; simpa using h5, by omega⟩
      · exact .inr h1
/-- What is asked of the map. -/
theorem jom_lookup {ops : Array Oper} {rest : List Oper} {d T kT eT : Nat} {ty : TypeId} {ps : String} {af : Array Edge} {x k : Operand} {n : Nat} {z : Value} (hT : P.underlying T = some (.map kT eT)) (hk : P.underlying kT = some (.int .i64)) (hz : ∀ w, (zeroValue eT).run P w = .ok z w) (hx : ovO F x = some (.c (.map (some g)))) (hn : ovO F k = some (.i .i64 (n : Int))) (hc : noFr (c n) = true) (hd : d < Γ.N)
    (k1 : JOM P ops rest Γ c g ((d, .t [c n, .b true]) :: F) 𝒬) (k0 : JOM P ops rest Γ c g ((d, .t [.c z, .b false]) :: F) 𝒬) : JOM P ops (⟨some d, .lookup T x k true, ty, ps, af, none⟩ :: rest) Γ c g F 𝒬 := fun a w s hg => by
  have hg0 := hg
  obtain ⟨es, ck, h1, h2⟩ := hg
  refine wpList_plain rfl fun K hK => ?_
  unfold Oper.wp
  have hkey : ∀ e ∈ es.toList, ∃ m : Int, e.key = .int .i64 m := fun e he => by obtain ⟨m, hm, _⟩ := h2 e he; exact ⟨m, hm⟩
  have hck : ∀ b, (Instr.checkKey b 10000 kT (.int .i64 (n : Int))).run P w = .ok () w := fun b => by
    unfold Instr.checkKey
    simp [run_underlying hk]
  rcases findNow_good (n := (n : Int)) es.toList 0 hkey with ⟨j, v, f1, e, f2, f3, f4, _⟩ | f1
  · obtain ⟨m, hm, hr⟩ := h2 e f2
    obtain rfl : n = m := by
      rw [f3] at hm
      have : (n : Int) = m := by injection hm
      omega
    rw [f4] at hr
    have hrun : (execOp a.eval ⟨some d, .lookup T x k true, ty, ps, af, none⟩).run P w = .ok (.value (.tuple #[v, .bool true])) w := by
      have e1 : (Instr.lookup T (a.eval x) (a.eval k) true).run P w = .ok (.tuple #[v, .bool true]) w := by
        rw [eval_c s hx, eval_i s hn]
        simp [Instr.lookup, run_underlying hT, getObj, Sem.run, h1, hck, Instr.findKey, run_underlying hk, f1]
      exact run_v e1
    rw [hrun]
    exact hK _ _ (k1 _ _ (s.put hd ⟨[v, .bool true], rfl, _, _, rfl, rel_in (Nat.le_refl _) _ _ (rel_B _ _ hc (by rw [lset_nil]; exact hr)), _, _, rfl, rfl, rfl⟩) hg0)
  · have hrun : (execOp a.eval ⟨some d, .lookup T x k true, ty, ps, af, none⟩).run P w = .ok (.value (.tuple #[z, .bool false])) w := by
      have e1 : (Instr.lookup T (a.eval x) (a.eval k) true).run P w = .ok (.tuple #[z, .bool false]) w := by
        rw [eval_c s hx, eval_i s hn]
        simp [Instr.lookup, run_underlying hT, getObj, Sem.run, h1, hck, Instr.findKey, run_underlying hk, f1, hz]
      exact run_v e1
    rw [hrun]
    exact hK _ _ (k0 _ _ (s.put hd ⟨[z, .bool false], rfl, _, _, rfl, rfl, _, _, rfl, rfl, rfl⟩) hg0)
/-- Something is entered. -/
theorem jom_enter (hΓ : CtxM Γ g) {ops : Array Oper} {rest : List Oper} {T kT eT : Nat} {ty : TypeId} {ps : String} {af : Array Edge} {x k v : Operand} {n : Nat} {y : V} (hT : P.underlying T = some (.map kT eT)) (hk : P.underlying kT = some (.int .i64)) (hx : ovO F x = some (.c (.map (some g)))) (hn : ovO F k = some (.i .i64 (n : Int))) (hv : ovO F v = some y) (hy : ∀ w u, Rel w Γ.M Γ.w0.heap.size [] y u → Rel w Γ.M 0 [] (c n) u)
    (j : JOM P ops rest Γ c g F 𝒬) : JOM P ops (⟨none, .mapUpdate T x k v, ty, ps, af, none⟩ :: rest) Γ c g F 𝒬 := fun a w s hg => by
  obtain ⟨es, ck, h1, h2⟩ := hg
  have hglt : g < w.heap.size := (Array.getElem?_eq_some_iff.1 h1).1
  have hval := s.ov hv
  rw [lset_nil] at hval
  have hval0 := hy w _ hval
  have hkey : ∀ e ∈ es.toList, ∃ m : Int, e.key = .int .i64 m := fun e he => by obtain ⟨m, hm, _⟩ := h2 e he; exact ⟨m, hm⟩
  have hck : ∀ b, (Instr.checkKey b 10000 kT (.int .i64 (n : Int))).run P w = .ok () w := fun b => by
    unfold Instr.checkKey
    simp [run_underlying hk]
  have fin : ∀ (es' : Array MapEntry) (ck' : Nat), (∀ e ∈ es'.toList, ∃ m : Nat, e.key = .int .i64 (m : Int) ∧ Rel w Γ.M 0 [] (c m) e.val) → StA Γ [] F [] a { w with heap := w.heap.setIfInBounds g (.map es' ck') } ∧ GoodM Γ.M c g { w with heap := w.heap.setIfInBounds g (.map es' ck') } := fun es' ck' hes => by
    have hsz : ({ w with heap := w.heap.setIfInBounds g (.map es' ck') } : World).heap.size = w.heap.size := Array.size_setIfInBounds ..
    have hne : ∀ b, b ≠ g → ({ w with heap := w.heap.setIfInBounds g (.map es' ck') } : World).heap[b]? = w.heap[b]? := fun b hb => by
      show (w.heap.setIfInBounds g _)[b]? = _
      rw [Array.getElem?_setIfInBounds_ne (Ne.symm hb)]
    refine ⟨s.mapped hΓ rfl rfl rfl (by rw [hsz]; exact Nat.le_refl _) (fun b _ hb => hne b hb), es', ck', ?_, fun e he => ?_⟩
    · show (w.heap.setIfInBounds g _)[g]? = _
      rw [Array.getElem?_setIfInBounds_self_of_lt hglt]
    · obtain ⟨m, m1, m2⟩ := hes e he
      exact ⟨m, m1, m2.ev ⟨by rw [hsz]; exact Nat.le_refl _, fun b hb hn => hne b (fun e => hn (e ▸ hΓ.m)), fun _ _ h => h, Nat.le_refl _, fun i r h => by simp at h⟩⟩
  refine wpList_plain rfl fun K hK => ?_
  unfold Oper.wp
  rcases findNow_good (n := (n : Int)) es.toList 0 hkey with ⟨i, u, f1, e, f2, f3, f4, f5, f6⟩ | f1
  · have hrun : (execOp a.eval ⟨none, .mapUpdate T x k v, ty, ps, af, none⟩).run P w = .ok .skip { w with heap := w.heap.setIfInBounds g (.map (es.modify i fun e => { e with key := .int .i64 (n : Int), val := a.eval v }) ck) } := by
      have hi : es[i]? = some e := by rw [← Array.getElem?_toList]; simpa using f5
      simp [execOp, eval_c s hx, eval_i s hn, Instr.mapUpdate, run_underlying hT, getObj, setObj, Sem.run, h1, hck, Instr.findKey, run_underlying hk, f1, hi, Instr.keyThatStays, f3, Instr.sameBits]
    rw [hrun]
    obtain ⟨s', g'⟩ := fin (es.modify i fun e => { e with key := .int .i64 (n : Int), val := a.eval v }) ck (fun e' he' => by
      obtain ⟨q, hq⟩ := List.getElem?_of_mem he'
      rw [Array.getElem?_toList, Array.getElem?_modify] at hq
      by_cases hqi : i = q
      · rw [if_pos hqi] at hq
        cases hes : es[q]? with
        | none => rw [hes] at hq; simp at hq
        | some e0 => rw [hes] at hq; simp at hq; subst hq; exact ⟨n, rfl, hval0⟩
      · rw [if_neg hqi] at hq
        exact h2 e' (List.mem_of_getElem? (by rw [Array.getElem?_toList]; exact hq)))
    exact hK _ _ (j _ _ s' g')
  · have hrun : (execOp a.eval ⟨none, .mapUpdate T x k v, ty, ps, af, none⟩).run P w = .ok .skip { w with heap := w.heap.setIfInBounds g (.map (es.push { key := .int .i64 (n : Int), val := a.eval v, born := ck }) (ck + 1)) } := by
      simp [execOp, eval_c s hx, eval_i s hn, Instr.mapUpdate, run_underlying hT, getObj, setObj, Sem.run, h1, hck, Instr.findKey, run_underlying hk, f1]
    rw [hrun]
    obtain ⟨s', g'⟩ := fin (es.push { key := .int .i64 (n : Int), val := a.eval v, born := ck }) (ck + 1) (fun e' he' => by
      rw [Array.toList_push] at he'
      rcases List.mem_append.1 he' with he' | he'
      · exact h2 e' he'
      · simp at he'; subst he'; exact ⟨n, rfl, hval0⟩)
    exact hK _ _ (j _ _ s' g')
end
end Go.Proofs.Ytcfdclehmpfkcaa.Vc

/- The calculus: from functions that share a map into code that does not know it, and back; contracts made weaker. -/
namespace Go.Proofs.Ytcfdclehmpfkcaa.Vc
open Go Go.RowKit
section
variable {P : Program} {Γ : Ctx} {c : Nat → V} {g : Nat} {F : Fr} {H : List Ob} {𝒬 : Exit → Act → World → Prop}
/-- As 'JC', whatever is asked behind the code. -/
def JCP (P : Program) (x : Code) (Γ : Ctx) (F : Fr) (H : List Ob) (𝒬 : Exit → Act → World → Prop) : Prop := ∀ a w, St Γ F H a w → x.wp P 𝒬 a w
def QS (Γ : Ctx) (𝒬 : Exit → Act → World → Prop) : Exit → Fr → List Ob → Prop := fun e F' H' => ∀ a w, St Γ F' H' a w → 𝒬 e a w
theorem jcp_seq {x y : Code} (j : JC P x Γ F H (qThen (fun F' H' => JCP P y Γ F' H' 𝒬) (QS Γ 𝒬))) : JCP P (.seq x y) Γ F H 𝒬 := fun a w s =>
  wp_seq (Code.wp_mono (fun e a' w' ⟨F', H', q, s'⟩ => by
    cases e <;> first | exact q a' w' s') (j a w s))
theorem jcp_keep {x : Code} {F' : Fr} (h : Sub F' F) (j : JCP P x Γ F' H 𝒬) : JCP P x Γ F H 𝒬 := fun a w s => j a w (s.sub h)
theorem jcp_frzp {x : Code} (t : Nat) {id ver off T sz : Nat} {cs zs : List V} (hx : getO F t = some (.p id ver off)) (hH : H[id]? = some ⟨T, sz, ver, true, cs⟩) (hpu : cs.all pureV = true) (hz : cs.drop off = zs) (hp : ∀ b, ¬ Γ.L0 b)
    (j : JCP P x Γ ((t, .q zs) :: F) (deadAt H id) 𝒬) : JCP P x Γ F H 𝒬 := fun a w ⟨ρ, s⟩ =>
  j a w ⟨ρ, s.frz id t hx fun v r => hz ▸ s.frozenC hH r hpu hp⟩
theorem jcp_frzF {x : Code} (t : Nat) {id ver T : Nat} {f : FuncId} {caps : List V} (hx : getO F t = some (.p id ver 0)) (hH : H[id]? = some ⟨T, 1, ver, true, [.f f caps]⟩) (hcaps : caps.all pureV = true) (hp : ∀ b, ¬ Γ.L0 b)
    (j : JCP P x Γ ((t, .q [.f f caps]) :: F) (deadAt H id) 𝒬) : JCP P x Γ F H 𝒬 := fun a w ⟨ρ, s⟩ =>
  j a w ⟨ρ, s.frz id t hx fun v r => s.frozenF1 hH r hcaps hp⟩
theorem jcp_cyc {x : Code} (t : Nat) {id ver T : Nat} {f : FuncId} (pre post : List V) (n : Nat) (hx : getO F t = some (.p id ver 0)) (hH : H[id]? = some ⟨T, 1, ver, true, [.f f (pre ++ .p id ver 0 :: post)]⟩) (hpre : pre.all pureV = true) (hpost : post.all pureV = true) (hp : ∀ b, ¬ Γ.L0 b)
    (j : JCP P x Γ ((t, .q [cyc f pre post n]) :: F) (deadAt H id) 𝒬) : JCP P x Γ F H 𝒬 := fun a w ⟨ρ, s⟩ =>
  j a w ⟨ρ, s.frz id t hx fun v r => s.frozenF hH r hpre hpost hp n⟩
theorem enterP (hΓ : CtxM Γ g) (hF : F.all (fun p => noFr p.2) = true) {a : Act} {w : World} (s : StA Γ [] F [] a w) (hg : GoodM Γ.M c g w) :
    ∃ Γ1 : Ctx, Γ1.N = Γ.N ∧ Γ1.ds = Γ.ds ∧ (∀ b, ¬ Γ1.L0 b) ∧ Γ1.ρ0 = [] ∧ St Γ1 F [] a w ∧
      ∀ (F' : Fr) (H' : List Ob) (a' : Act) (w' : World), F'.all (fun p => idB 0 p.2) = true → St Γ1 F' H' a' w' → StA Γ [] F' [] a' w' ∧ GoodM Γ.M c g w' := by
  have mem : ∀ (l : Fr) (t : Nat) (y : V), getO l t = some y → ∃ p ∈ l, p.2 = y := fun l => by
    induction l with
    | nil => intro t y h; simp [getO] at h
    | cons p l ih =>
      intro t y h
      obtain ⟨k, z⟩ := p
      simp only [getO] at h
      cases hb : Nat.beq t k with
      | true => rw [hb] at h; injection h with h; exact ⟨_, List.mem_cons_self .., h⟩
      | false => rw [hb] at h; obtain ⟨p, h1, h2⟩ := ih t y h; exact ⟨p, List.mem_cons_of_mem _ h1, h2⟩
  refine ⟨⟨Γ.N, w, Γ.M, [], fun _ => False, Γ.ds⟩, rfl, rfl, fun _ h => h, rfl, ⟨[], ⟨rfl, fun i o h => by simp at h, fun i j oi oj ri rj g _ h => by simp at h, fun i o r g h => by simp at h⟩, s.n, s.ds, fun t => ?_, ⟨rfl, rfl, rfl, Nat.le_refl _, fun _ _ _ => rfl, fun b h => Nat.lt_of_lt_of_le (s.fro.old b h) s.fro.size, fun i o r g h => by simp at h, fun i r h => by have h' : ([] : List Re)[i]? = some r := h; simp at h'⟩⟩, fun F' H' a' w' q1 ⟨ρ', s'⟩ => ?_⟩
  · have h1 := s.fr t
    unfold get at h1 ⊢
    cases e : getO F t with
    | none => trivial
    | some y =>
      rw [e] at h1
      obtain ⟨p, hp, hpy⟩ := mem F t y e
      exact rel_B y _ (by rw [← hpy]; exact List.all_eq_true.1 hF p hp) h1
  · have s2 := s'.cut 0 q1 (by rw [List.take_zero]; exact ObsId.nil) rfl
    rw [List.take_zero, List.take_zero] at s2
    have hblk : ∀ b, b < w.heap.size → w'.heap[b]? = w.heap[b]? := fun b hb => s'.fro.blk b hb (fun h => h)
    have hsz : w.heap.size ≤ w'.heap.size := s'.fro.size
    exact ⟨⟨⟨rfl, fun i o h => by simp at h, fun i j oi oj ri rj g _ h => by simp at h, fun i o r g h => by simp at h⟩, s2.n, s2.ds, fun t => rel_Ble s.fro.size _ _ (s2.fr t), ⟨s'.fro.os.trans s.fro.os, s'.fro.tape.trans s.fro.tape, s'.fro.output.trans s.fro.output, Nat.le_trans s.fro.size hsz, fun b hb hn => (hblk b (Nat.lt_of_lt_of_le hb s.fro.size)).trans (s.fro.blk b hb hn), s.fro.old, fun i o r g h => by simp at h, fun i r h => by rw [hΓ.rho] at h; simp at h⟩⟩,
      hg.ev (hblk g (Nat.lt_of_lt_of_le hΓ.lt s.fro.size)) hsz fun b hb _ => hblk b hb⟩
/-- Into code that does not know the map. -/
theorem jcm_toP {x : Code} (hΓ : CtxM Γ g) (hF : F.all (fun p => noFr p.2) = true)
    (j : ∀ Γ1 : Ctx, Γ1.N = Γ.N → Γ1.ds = Γ.ds → (∀ b, ¬ Γ1.L0 b) → Γ1.ρ0 = [] → (∀ (z : Code) (F' : Fr) (H' : List Ob) (𝒬' : Exit → Act → World → Prop), F'.all (fun p => idB 0 p.2) = true → JCM P z Γ c g F' 𝒬' → JCP P z Γ1 F' H' 𝒬') → (∀ (e : Exit) (F' : Fr) (H' : List Ob), F'.all (fun p => idB 0 p.2) = true → (∀ a w, StA Γ [] F' [] a w → GoodM Γ.M c g w → 𝒬 e a w) → QS Γ1 𝒬 e F' H') → JCP P x Γ1 F [] 𝒬) : JCM P x Γ c g F 𝒬 := fun a w s hg => by
  obtain ⟨Γ1, h1, h2, h3, h4, h5, h6⟩ := enterP hΓ hF s hg
  exact j Γ1 h1 h2 h3 h4 (fun z F' H' 𝒬' hid jz a' w' s' => by obtain ⟨k1, k2⟩ := h6 F' H' a' w' hid s'; exact jz a' w' k1 k2) (fun e F' H' hid q a' w' s' => by obtain ⟨k1, k2⟩ := h6 F' H' a' w' hid s'; exact q a' w' k1 k2) a w h5
/-- A map is made. -/
theorem mapBorn (c : Nat → V) {d : Nat} (hd : d < Γ.N) (hF : F.all (fun p => noFr p.2) = true) (hR : Γ.ρ0 = []) {a : Act} {w w1 : World} (s0 : StA Γ [] F [] a w) (hw1 : w1 = { w with heap := w.heap.push (.map #[] 0) }) :
    ∃ Γ' : Ctx, Γ'.N = Γ.N ∧ Γ'.ds = Γ.ds ∧ CtxM Γ' w.heap.size ∧ (∀ F a w2, StA Γ' [] F [] a w2 → StA Γ [] F [] a w2) ∧ StA Γ' [] ((d, .c (.map (some w.heap.size))) :: F) [] (a.put (some d) (.map (some w.heap.size))) w1 ∧ GoodM Γ'.M c w.heap.size w1 := by
  have mem : ∀ (l : Fr) (t : Nat) (y : V), getO l t = some y → ∃ p ∈ l, p.2 = y := fun l => by
    induction l with
    | nil => intro t y h; simp [getO] at h
    | cons p l ih =>
      intro t y h
      obtain ⟨k, z⟩ := p
      simp only [getO] at h
      cases hb : Nat.beq t k with
      | true => rw [hb] at h; injection h with h; exact ⟨_, List.mem_cons_self .., h⟩
      | false => rw [hb] at h; obtain ⟨p, h1, h2⟩ := ih t y h; exact ⟨p, List.mem_cons_of_mem _ h1, h2⟩
  have hsz : w1.heap.size = w.heap.size + 1 := by rw [hw1]; show (w.heap.push _).size = _; rw [Array.size_push]
  have hold : ∀ b, b < w.heap.size → w1.heap[b]? = w.heap[b]? := fun b hb => by rw [hw1]; show (w.heap.push _)[b]? = _; rw [Array.getElem?_push, if_neg (by omega)]
  let Γ' : Ctx := ⟨Γ.N, w1, fun b => Γ.M b ∨ b = w.heap.size, [], fun b => b = w.heap.size, Γ.ds⟩
  have hΓ' : CtxM Γ' w.heap.size := ⟨.inr rfl, fun _ => Iff.rfl, by show w.heap.size < w1.heap.size; omega, rfl⟩
  have s1 : StA Γ' [] F [] a w1 := by
    refine ⟨⟨rfl, fun i o h => by simp at h, fun i j oi oj ri rj g _ h => by simp at h, fun i o r g h => by simp at h⟩, s0.n, s0.ds, fun t => ?_, ⟨rfl, rfl, rfl, Nat.le_refl _, fun _ _ _ => rfl, fun b h => ?_, fun i o r g h => by simp at h, fun i r h => by have h' : ([] : List Re)[i]? = some r := h; simp at h'⟩⟩
    · have h1 := s0.fr t
      unfold get at h1 ⊢
      cases e : getO F t with
      | none => trivial
      | some y =>
        rw [e] at h1
        obtain ⟨p, hp, hpy⟩ := mem F t y e
        have h2 := rel_B (B' := w1.heap.size) y _ (by rw [← hpy]; exact List.all_eq_true.1 hF p hp) h1
        refine h2.ev ⟨by omega, fun b hb _ => hold b hb, fun b hb hn h => ?_, Nat.le_refl _, fun i r h => by simp at h⟩
        rcases h with (h | h) | ⟨i, o, r, h1, _⟩
        · exact hn (.inl h)
        · omega
        · simp at h1
    · rcases h with h | h
      · exact Nat.lt_of_lt_of_le (s0.fro.old b h) (by have := s0.fro.size; show _ ≤ w1.heap.size; omega)
      · show b < w1.heap.size; omega
  have hgood : GoodM Γ'.M c w.heap.size w1 := ⟨#[], 0, by rw [hw1]; show (w.heap.push _)[w.heap.size]? = _; rw [Array.getElem?_push, if_pos rfl], fun e he => by simp at he⟩
  have hreb : ∀ F a w2, StA Γ' [] F [] a w2 → StA Γ [] F [] a w2 := fun F a w2 s2 => by
    have hsz2 : w1.heap.size ≤ w2.heap.size := s2.fro.size
    refine ⟨⟨rfl, fun i o h => by simp at h, fun i j oi oj ri rj g _ h => by simp at h, fun i o r g h => by simp at h⟩, s2.n, s2.ds, fun t => ?_, ⟨?_, ?_, ?_, Nat.le_trans s0.fro.size (by omega), fun b hb hn => ?_, s0.fro.old, fun i o r g h => by simp at h, fun i r h => by rw [hR] at h; simp at h⟩⟩
    · refine rel_Ble (B := w1.heap.size) (by have := s0.fro.size; omega) _ _ ((s2.fr t).ev ⟨Nat.le_refl _, fun _ _ _ => rfl, fun b _ hn h => hn ?_, Nat.le_refl _, fun i r h => by simp at h⟩)
      rcases h with h | ⟨i, o, r, h1, _⟩
      · exact .inl (.inl h)
      · simp at h1
    · have : w2.os = w1.os := s2.fro.os
      rw [this, hw1]; exact s0.fro.os
    · have : w2.tape = w1.tape := s2.fro.tape
      rw [this, hw1]; exact s0.fro.tape
    · have : w2.output = w1.output := s2.fro.output
      rw [this, hw1]; exact s0.fro.output
    · have hbw : b < w.heap.size := Nat.lt_of_lt_of_le hb s0.fro.size
      have h1 : w2.heap[b]? = w1.heap[b]? := s2.fro.blk b (by show b < w1.heap.size; omega) (by show ¬ b = w.heap.size; omega)
      rw [h1, hold b hbw]
      exact s0.fro.blk b hb hn
  exact ⟨Γ', rfl, rfl, hΓ', hreb, s1.put hd (y := .c (.map (some w.heap.size))) rfl, hgood⟩
/-- A map is made; on in code that does not know it. -/
theorem jc_enterM2 (c : Nat → V) {Q : Exit → Fr → List Ob → Prop} {id d T : Nat} {ty : TypeId} {ps : String} {af : Array Edge} {rest : List Oper} {y : Code} (hd : d < Γ.N) (hF : F.all (fun p => noFr p.2) = true) (hFi : F.all (fun p => idB 0 p.2) = true) (hR : Γ.ρ0 = [])
    (j : ∀ (Γ' Γ1 : Ctx) (g : Nat), Γ1.N = Γ.N → Γ1.ds = Γ.ds → (∀ b, ¬ Γ1.L0 b) → Γ1.ρ0 = [] → Γ'.N = Γ.N → CtxM Γ' g → (∀ F a w, StA Γ' [] F [] a w → StA Γ [] F [] a w) → (∀ (z : Code) (F' : Fr) (H' : List Ob) (𝒬' : Exit → Act → World → Prop), F'.all (fun p => idB 0 p.2) = true → JCM P z Γ' c g F' 𝒬' → JCP P z Γ1 F' H' 𝒬') →
      JO P ((⟨some d, .makeMap T none, ty, ps, af, none⟩ : Oper) :: rest).toArray rest Γ1 ((d, .c (.map (some g))) :: F) [] (qThen (fun F' H' => JCP P y Γ1 F' H' (toQ Γ Q)) (QS Γ1 (toQ Γ Q)))) :
    JC P (.seq (.region id ((⟨some d, .makeMap T none, ty, ps, af, none⟩ : Oper) :: rest).toArray false) y) Γ F H Q := fun a w ⟨ρ, s⟩ => by
  have s0 := s.cut 0 hFi (by rw [List.take_zero]; exact ObsId.nil) hR
  rw [List.take_zero, List.take_zero] at s0
  obtain ⟨w1, hw1⟩ : ∃ w1 : World, w1 = { w with heap := w.heap.push (.map #[] 0) } := ⟨_, rfl⟩
  obtain ⟨Γ', k1, k2, k3, k4, k5, k6⟩ := mapBorn c hd hF hR s0 hw1
  obtain ⟨Γ1, h1, h2, h3, h4, h5, h6⟩ := enterP k3 (by rw [List.all_cons, hF]; rfl) k5 k6
  have jj := j Γ' Γ1 w.heap.size (h1.trans k1) (h2.trans k2) h3 h4 k1 k3 k4 (fun z F' H' 𝒬' hid jz a' w' s' => by obtain ⟨q1, q2⟩ := h6 F' H' a' w' hid s'; exact jz a' w' q1 q2) _ _ h5
  refine wp_seq (Code.wp_mono (Q := toQ Γ1 (qThen (fun F' H' => JCP P y Γ1 F' H' (toQ Γ Q)) (QS Γ1 (toQ Γ Q)))) ?_ (wp_region_lit (wpList_plain rfl fun K hK => ?_)))
  · rintro e a' w' ⟨F', H', q, s'⟩
    cases e <;> first | exact q a' w' s'
  · unfold Oper.wp
    rw [show (execOp a.eval ⟨some d, .makeMap T none, ty, ps, af, none⟩).run P w = .ok (.value (.map (some w.heap.size))) w1 by rw [hw1]; simp [execOp, Instr.makeMap, newObj, Sem.run]]
    exact hK _ _ jj
theorem zvOk {T : Nat} {z : Value} (h : (P.info? T).bind (·.zero) = some z) : ∀ w, (zeroValue T).run P w = .ok z w := fun w => by
  cases hi : P.info? T with
  | none => rw [hi] at h; cases h
  | some i =>
    rw [hi] at h
    have hz : i.zero = some z := h
    simp [zeroValue, typeInfo, hi, hz]
end
theorem Spec.weak {P : Program} {f : FuncId} {args : List V} {post post' : Out → Prop} (h : Spec P f args post) (hw : ∀ o, post o → ∃ o', post' o' ∧ ∀ (w : World) (M : Nat → Prop) (B : Nat) (e : Ending), EndRel w M B o e → EndRel w M B o' e) : Spec P f args post' := fun M w vals h1 h2 =>
  (h M w vals h1 h2).mono fun e w' ⟨o, k1, k2, k3⟩ => by
    obtain ⟨o', q1, q2⟩ := hw o k1
    exact ⟨o', q1, q2 _ _ _ _ k2, k3⟩
theorem end_nn {w : World} {M : Nat → Prop} {B : Nat} {e : Ending} {fr : Bool} {k : IntKind} {l : List Int} (h : EndRel w M B (.ret (.n fr k l)) e) : EndRel w M B (.ret (.n false k l)) e := by
  obtain ⟨v, h1, A, c, e, h3, h4, h5⟩ := h
  exact ⟨v, h1, A, c, e, h3, h4, fun hl => by obtain ⟨ad, e1, hb, hc⟩ := h5 hl; exact ⟨ad, e1, ⟨hb.1, hb.2.1, by simp⟩, hc⟩⟩
theorem end_nnT {w : World} {M : Nat → Prop} {B : Nat} {e : Ending} {fr : Bool} {k : IntKind} {l : List Int} {ys : List V} (h : EndRel w M B (.ret (.t (.n fr k l :: ys))) e) : EndRel w M B (.ret (.t (.n false k l :: ys))) e := by
  obtain ⟨v, h1, us, h2, u, us', h3, ⟨A, c, e, h6, h4, h5⟩, h7⟩ := h
  exact ⟨v, h1, us, h2, u, us', h3, ⟨A, c, e, h6, h4, fun hl => by obtain ⟨ad, e1, hb, hc⟩ := h5 hl; exact ⟨ad, e1, ⟨hb.1, hb.2.1, by simp⟩, hc⟩⟩, h7⟩
theorem Spec.nn {P : Program} {f : FuncId} {args : List V} {fr : Bool} {k : IntKind} {l : List Int} (h : Spec P f args (fun o => o = .ret (.n fr k l))) : Spec P f args (fun o => o = .ret (.n false k l)) :=
  h.weak fun o ho => by subst ho; exact ⟨_, rfl, fun _ _ _ _ h => end_nn h⟩
/-- A contract that says nothing of the map. -/
theorem specX_of_spec {P : Program} {f : FuncId} {args : List V} {c : Nat → V} {g : Nat} {post : Out → Prop} (h : Spec P f args post) : SpecX P f args c g post := fun M w vals h1 h2 h3 h4 =>
  (h M w vals h1 h4).mono fun e w' ⟨o, k1, k2, k3⟩ => by
    have hlt : g < w.heap.size := h1 g h2
    exact ⟨o, k1, k2, h3.ev (k3.block g hlt) k3.size (fun b hb _ => k3.block b hb), k3.os, k3.tape, k3.output, k3.size, fun b hb _ => k3.block b hb⟩
end Go.Proofs.Ytcfdclehmpfkcaa.Vc

/- The calculus: functions that share a map and hand own rows back. -/
namespace Go.Proofs.Ytcfdclehmpfkcaa.Vc
open Go Go.RowKit
section
variable {P : Program} {Γ : Ctx} {c : Nat → V} {g : Nat} {F : Fr} {H : List Ob} {𝒬 : Exit → Act → World → Prop}
/-- A contract of a function that knows the map and hands own rows back. -/
def SpecXN (P : Program) (f : FuncId) (args : List V) (c : Nat → V) (g : Nat) (post : Out → List Ob → Prop) : Prop :=
  ∀ (M : Nat → Prop) (w : World) (vals : List Value), (∀ b, M b → b < w.heap.size) → M g → GoodM M c g w → RelL w M w.heap.size [] args vals →
    Calls P f vals.toArray w fun e w' => ∃ o H' ρ', post o H' ∧ EndRelM w' (Lset M ρ' H') w.heap.size ρ' o e ∧ HR M w' w.heap.size ρ' H' ∧ w'.os = w.os ∧ w'.tape = w.tape ∧ w'.output = w.output ∧ w.heap.size ≤ w'.heap.size ∧
      (∀ (id : Nat) (ob : Ob) (re : Re) (gg : Nat), H'[id]? = some ob → ob.live = true → ρ'[id]? = some re → re.g = some gg → w.heap.size ≤ gg) ∧ (∀ b, b < w.heap.size → b ≠ g → w'.heap[b]? = w.heap[b]?)
def qRetXN (P : Program) (fn : Func) (Γ : Ctx) (post : Out → List Ob → Prop) : Exit → Act → World → Prop
  | .ret, a, w => ∃ F H ρ sel ys y, StA Γ ρ F H a w ∧ ResL P F H fn.results.toList ys ∧ ren sel y = packV ys ∧ idB sel.length y = true ∧ sel.Nodup ∧ idless (selL noOb sel H) ∧ post (.ret y) (selL noOb sel H)
  | _, _, _ => False
/-! ### An own row made shorter -/
end
end Go.Proofs.Ytcfdclehmpfkcaa.Vc

/- The calculus: rows of rows frozen within a region. -/
namespace Go.Proofs.Ytcfdclehmpfkcaa.Vc
open Go Go.RowKit
section
variable {P : Program} {Γ : Ctx} {F : Fr} {H : List Ob} {Q : Exit → Fr → List Ob → Prop}
theorem jo_frzr {ops : Array Oper} {rest : List Oper} (t : Nat) {id ver len T sz : Nat} {cs : List V} (rows : List (List V)) (hx : getO F t = some (.o id ver 0 len)) (hH : H[id]? = some ⟨T, sz, ver, true, cs⟩) (hcs : cs = rows.flatten) (hlen : rows.length = len) (hsz : ∀ r ∈ rows, r.length = sz) (hpu : ∀ r ∈ rows, r.all pureV = true) (h0 : 0 < sz) (hp : ∀ b, ¬ Γ.L0 b)
    (j : JO P ops rest Γ ((t, .l true sz rows) :: F) (deadAt H id) Q) : JO P ops rest Γ F H Q := fun a w ⟨ρ, s⟩ =>
  j a w ⟨ρ, s.frz id t hx fun v r => s.frozenR hH r hcs hlen hsz hpu h0 hp⟩
end
/-- Rows of limbs as cells. -/
def rowsV (rows : List (List Int)) : List (List V) := rows.map fun l => [V.n false .u64 l]
theorem rowsV_at {rows : List (List Int)} {i : Nat} (h : i < rows.length) : (rowsV rows)[i]? = some [V.n false .u64 (rows.getD i [])] := by
  unfold rowsV
  rw [List.getElem?_map, List.getElem?_eq_getElem h, List.getD_eq_getElem?_getD, List.getElem?_eq_getElem h]
  rfl
theorem rowsV_len {rows : List (List Int)} : (rowsV rows).length = rows.length := by unfold rowsV; simp
end Go.Proofs.Ytcfdclehmpfkcaa.Vc

/- What the functions over limbs compute, in plain Lean. -/
namespace Go.Proofs.Ytcfdclehmpfkcaa.Vc
open Go Go.RowKit

/-- How many of the first k limbs stay, without noughts at the top. -/
def tN (l : List Int) : Nat → Nat
  | 0 => 0
  | k + 1 => if l.getD k 0 = 0 then tN l k else k + 1
def trm (l : List Int) : List Int := l.take (tN l l.length)
theorem tN_le (l : List Int) : ∀ k, tN l k ≤ k
  | 0 => Nat.le_refl _
  | k + 1 => by simp only [tN]; split <;> have := tN_le l k <;> omega
theorem tN_down {l : List Int} {k : Nat} (h0 : 0 < k) (h : l.getD (k - 1) 0 = 0) : tN l (k - 1) = tN l k := by
  obtain ⟨j, rfl⟩ : ∃ j, k = j + 1 := ⟨k - 1, by omega⟩
  simp only [Nat.add_sub_cancel] at h ⊢
  simp only [tN]
  rw [if_pos h]
theorem tN_stop {l : List Int} {k : Nat} (h0 : 0 < k) (h : ¬ l.getD (k - 1) 0 = 0) : tN l k = k := by
  obtain ⟨j, rfl⟩ : ∃ j, k = j + 1 := ⟨k - 1, by omega⟩
  simp only [Nat.add_sub_cancel] at h
  simp only [tN]
  rw [if_neg h]
theorem tN_0 {l : List Int} {k : Nat} (h : ¬ 0 < k) : tN l k = k := by
  have : k = 0 := by omega
  subst this; rfl
theorem trm_len (l : List Int) : (trm l).length ≤ l.length := by unfold trm; rw [List.length_take]; omega
theorem getD_take {l : List Int} {k i : Nat} (h : i < k) : (l.take k).getD i 0 = l.getD i 0 := by
  rw [List.getD_eq_getElem?_getD, List.getD_eq_getElem?_getD, List.getElem?_take, if_pos h]
def u64s (l : List Int) : Prop := ∀ x ∈ l, 0 ≤ x ∧ x < 18446744073709551616
theorem u64s_trm {l : List Int} (h : u64s l) : u64s (trm l) := fun x hx => h x (List.mem_of_mem_take hx)
theorem u64s_at {l : List Int} (h : u64s l) {i : Nat} (hi : i < l.length) : 0 ≤ l.getD i 0 ∧ l.getD i 0 < 18446744073709551616 := by
  rw [List.getD_eq_getElem?_getD, List.getElem?_eq_getElem hi]; exact h _ (List.getElem_mem hi)
theorem u64s_getD {l : List Int} (h : u64s l) (i : Nat) : 0 ≤ l.getD i 0 ∧ l.getD i 0 < 18446744073709551616 := by
  by_cases hi : i < l.length
  · exact u64s_at h hi
  · rw [List.getD_eq_getElem?_getD, List.getElem?_eq_none (by omega)]; exact ⟨by decide, by decide⟩
/-- How many binary digits, with fuel. -/
def bl : Nat → Nat → Nat
  | 0, _ => 0
  | f + 1, n => if n = 0 then 0 else 1 + bl f (n / 2)
theorem bl_le : ∀ f n, bl f n ≤ f
  | 0, _ => Nat.le_refl _
  | f + 1, n => by simp only [bl]; split <;> have := bl_le f (n / 2) <;> omega
theorem bl_fuel : ∀ (f d n : Nat), n < 2 ^ f → bl (f + d) n = bl f n
  | 0, d, n, h => by
    have : n = 0 := by simpa using h
    subst this
    cases d <;> simp [bl]
  | f + 1, d, n, h => by
    rw [show f + 1 + d = (f + d) + 1 by omega]
    simp only [bl]
    split
    · rfl
    · rw [bl_fuel f d (n / 2) (by rw [Nat.pow_succ] at h; omega)]
theorem bl_shift : ∀ (k f n : Nat), 2 ^ k ≤ n → bl (k + f) n = k + bl f (n / 2 ^ k)
  | 0, f, n, _ => by simp
  | k + 1, f, n, h => by
    have h2 : 2 ^ (k + 1) = 2 ^ k * 2 := Nat.pow_succ ..
    have hp : 0 < 2 ^ k := Nat.two_pow_pos k
    rw [show k + 1 + f = (k + f) + 1 by omega]
    simp only [bl]
    rw [if_neg (by omega), bl_shift k f (n / 2) (by omega), h2, Nat.mul_comm, ← Nat.div_div_eq_div_mul]
    omega
theorem bl64_shift {k n : Nat} (hk : k ≤ 64) (h : 2 ^ k ≤ n) (hn : n < 2 ^ 64) : bl 64 n = k + bl 64 (n / 2 ^ k) := by
  have h1 := bl_shift k (64 - k) n h
  rw [show k + (64 - k) = 64 by omega] at h1
  rw [h1]
  have h2 : n / 2 ^ k < 2 ^ (64 - k) := by
    rw [Nat.div_lt_iff_lt_mul (Nat.two_pow_pos k), ← Nat.pow_add, show 64 - k + k = 64 by omega]; exact hn
  have h3 := bl_fuel (64 - k) k _ h2
  rw [show 64 - k + k = 64 by omega] at h3
  rw [h3]
def lenTab : ByteArray := ⟨((List.range 256).map fun i => (bl 8 i).toUInt8).toArray⟩
theorem lenTab_at {i : Nat} (h : i < 256) : byteAt lenTab i = (bl 64 i : Int) := by
  have key : ∀ j : Fin 256, byteAt lenTab j.val = (bl 64 j.val : Int) := by decide +kernel
  exact key ⟨i, h⟩
theorem shr_nat {n k b : Nat} {kk : Int} (h : 2 ^ min kk.toNat b = k) : ((n : Int)).fdiv (2 ^ min kk.toNat b) = ((n / k : Nat) : Int) := by
  have : ((2 : Int) ^ min kk.toNat b) = ((k : Nat) : Int) := by rw [← h]; norm_cast
  rw [this]
  exact (Int.ofNat_fdiv n k).symm
/-- How many binary digits a number has. -/
def lenN (l : List Int) : Nat := if (trm l).length = 0 then 0 else 64 * ((trm l).length - 1) + bl 64 ((trm l).getD ((trm l).length - 1) 0).toNat
theorem lenN_le (l : List Int) : lenN l ≤ 64 * l.length := by
  unfold lenN
  have h1 := trm_len l
  split
  · omega
  · have := bl_le 64 ((trm l).getD ((trm l).length - 1) 0).toNat
    omega
/-- Which is greater, of the first k limbs. -/
def cmpN (a b : List Int) : Nat → Int
  | 0 => 0
  | k + 1 => if a.getD k 0 < b.getD k 0 then -1 else if b.getD k 0 < a.getD k 0 then 1 else cmpN a b k
def cmpL (a b : List Int) : Int := if a.length < b.length then -1 else if b.length < a.length then 1 else cmpN a b a.length
/-- Sums with a carry: the first i limbs. -/
def adN (a b : List Int) : Nat → List Int × Int
  | 0 => ([], 0)
  | i + 1 => ((adN a b i).1 ++ [(a.getD i 0 + b.getD i 0 + (adN a b i).2) % 18446744073709551616], (a.getD i 0 + b.getD i 0 + (adN a b i).2) / 18446744073709551616)
theorem adN_len (a b : List Int) : ∀ i, (adN a b i).1.length = i
  | 0 => rfl
  | i + 1 => by simp only [adN, List.length_append, adN_len a b i]; rfl
theorem adN_c {a b : List Int} (ha : u64s a) (hb : u64s b) : ∀ i, 0 ≤ (adN a b i).2 ∧ (adN a b i).2 ≤ 1
  | 0 => ⟨Int.le_refl 0, (by decide : (0 : Int) ≤ 1)⟩
  | i + 1 => by
    have h1 := u64s_getD ha i
    have h2 := u64s_getD hb i
    have h3 := adN_c ha hb i
    simp only [adN]
    omega
theorem adN_u {a b : List Int} : ∀ i, u64s (adN a b i).1
  | 0 => by intro x hx; cases hx
  | i + 1 => by
    intro x hx
    simp only [adN, List.mem_append, List.mem_singleton] at hx
    rcases hx with hx | hx
    · exact adN_u i x hx
    · subst hx; omega
/-- Differences with a borrow: the first i limbs. -/
def sbN (a b : List Int) : Nat → List Int × Int
  | 0 => ([], 0)
  | i + 1 => ((sbN a b i).1 ++ [if a.getD i 0 < b.getD i 0 + (sbN a b i).2 then a.getD i 0 - b.getD i 0 - (sbN a b i).2 + 18446744073709551616 else a.getD i 0 - b.getD i 0 - (sbN a b i).2], if a.getD i 0 < b.getD i 0 + (sbN a b i).2 then 1 else 0)
theorem sbN_len (a b : List Int) : ∀ i, (sbN a b i).1.length = i
  | 0 => rfl
  | i + 1 => by simp only [sbN, List.length_append, sbN_len a b i]; rfl
theorem sbN_c (a b : List Int) : ∀ i, 0 ≤ (sbN a b i).2 ∧ (sbN a b i).2 ≤ 1
  | 0 => ⟨Int.le_refl 0, (by decide : (0 : Int) ≤ 1)⟩
  | i + 1 => by simp only [sbN]; split <;> decide
theorem sbN_u {a b : List Int} (ha : u64s a) (hb : u64s b) : ∀ i, u64s (sbN a b i).1
  | 0 => by intro x hx; cases hx
  | i + 1 => by
    have h1 := u64s_getD ha i
    have h2 := u64s_getD hb i
    have h3 := sbN_c a b i
    intro x hx
    simp only [sbN, List.mem_append, List.mem_singleton] at hx
    rcases hx with hx | hx
    · exact sbN_u ha hb i x hx
    · subst hx; split <;> omega
/-- What is filled so far, noughts behind. -/
def fillI (l : List Int) (n : Nat) : List Int := l ++ List.replicate (n - l.length) 0
theorem fillI_len {l : List Int} {n : Nat} (h : l.length ≤ n) : (fillI l n).length = n := by unfold fillI; rw [List.length_append, List.length_replicate]; omega
theorem fillI_set {l : List Int} {n : Nat} {v : Int} (h : l.length < n) : (fillI l n).set l.length v = fillI (l ++ [v]) n := by
  unfold fillI
  obtain ⟨m, hm⟩ : ∃ m, n - l.length = m + 1 := ⟨n - l.length - 1, by omega⟩
  rw [hm, List.replicate_succ, List.set_append_right _ _ (Nat.le_refl _), Nat.sub_self, List.set_cons_zero, List.length_append, List.length_singleton, show n - (l.length + 1) = m by omega]
  simp
theorem fillI_full {l : List Int} {n : Nat} (h : l.length = n) : fillI l n = l := by unfold fillI; rw [h, Nat.sub_self]; simp
theorem getD_ge {l : List Int} {i : Nat} (h : l.length ≤ i) : l.getD i 0 = 0 := by rw [List.getD_eq_getElem?_getD, List.getElem?_eq_none h]; rfl
theorem cmpN_lt {a b : List Int} {k : Nat} (h0 : 0 < k) (h : a.getD (k - 1) 0 < b.getD (k - 1) 0) : cmpN a b k = -1 := by
  obtain ⟨j, rfl⟩ : ∃ j, k = j + 1 := ⟨k - 1, by omega⟩
  simp only [Nat.add_sub_cancel] at h
  simp only [cmpN]; rw [if_pos h]
theorem cmpN_gt {a b : List Int} {k : Nat} (h0 : 0 < k) (h : b.getD (k - 1) 0 < a.getD (k - 1) 0) : cmpN a b k = 1 := by
  obtain ⟨j, rfl⟩ : ∃ j, k = j + 1 := ⟨k - 1, by omega⟩
  simp only [Nat.add_sub_cancel] at h
  simp only [cmpN]; rw [if_neg (by omega), if_pos h]
theorem cmpN_eq {a b : List Int} {k : Nat} (h0 : 0 < k) (h1 : ¬ a.getD (k - 1) 0 < b.getD (k - 1) 0) (h2 : ¬ b.getD (k - 1) 0 < a.getD (k - 1) 0) : cmpN a b (k - 1) = cmpN a b k := by
  obtain ⟨j, rfl⟩ : ∃ j, k = j + 1 := ⟨k - 1, by omega⟩
  simp only [Nat.add_sub_cancel] at h1 h2 ⊢
  simp only [cmpN]; rw [if_neg h1, if_neg h2]
theorem fill_ad {X Y : List Int} {i n : Nat} (h : i < n) : (fillI (adN X Y i).1 n).set ((0 + i) * 1) ((X.getD i 0 + Y.getD i 0 + (adN X Y i).2) % 18446744073709551616) = fillI (adN X Y (i + 1)).1 n := by
  rw [Nat.zero_add, Nat.mul_one]
  have := fillI_set (l := (adN X Y i).1) (n := n) (v := (X.getD i 0 + Y.getD i 0 + (adN X Y i).2) % 18446744073709551616) (by rw [adN_len]; exact h)
  rw [adN_len] at this
  exact this
theorem fill_sb {X Y : List Int} {i n : Nat} (h : i < n) : (fillI (sbN X Y i).1 n).set ((0 + i) * 1) (if X.getD i 0 < Y.getD i 0 + (sbN X Y i).2 then X.getD i 0 - Y.getD i 0 - (sbN X Y i).2 + 18446744073709551616 else X.getD i 0 - Y.getD i 0 - (sbN X Y i).2) = fillI (sbN X Y (i + 1)).1 n := by
  rw [Nat.zero_add, Nat.mul_one]
  have := fillI_set (l := (sbN X Y i).1) (n := n) (v := if X.getD i 0 < Y.getD i 0 + (sbN X Y i).2 then X.getD i 0 - Y.getD i 0 - (sbN X Y i).2 + 18446744073709551616 else X.getD i 0 - Y.getD i 0 - (sbN X Y i).2) (by rw [sbN_len]; exact h)
  rw [sbN_len] at this
  exact this
theorem fill_last {l : List Int} {n : Nat} {v : Int} (h : l.length = n) : (fillI l (n + 1)).set ((0 + n) * 1) v = l ++ [v] := by
  rw [Nat.zero_add, Nat.mul_one]
  subst h
  rw [fillI_set (by omega), fillI_full (by simp)]
/-- The longer one first. -/
def swL (a b : List Int) : List Int × List Int := if a.length < b.length then (b, a) else (a, b)
def sumL (a b : List Int) : List Int := (adN (swL (trm a) (trm b)).1 (swL (trm a) (trm b)).2 (swL (trm a) (trm b)).1.length).1 ++ [(adN (swL (trm a) (trm b)).1 (swL (trm a) (trm b)).2 (swL (trm a) (trm b)).1.length).2]
def difL (a b : List Int) : List Int := (sbN (trm a) (trm b) (trm a).length).1
theorem u64s_app1 {l : List Int} {v : Int} (h : u64s l) (h0 : 0 ≤ v) (h1 : v < 18446744073709551616) : u64s (l ++ [v]) := fun x hx => by
  rcases List.mem_append.1 hx with hx | hx
  · exact h x hx
  · rw [List.mem_singleton] at hx; subst hx; exact ⟨h0, h1⟩
/-- The document's digits of limbs: two of 32 bits each. -/
def dig (l : List Int) : List Int := l.flatMap fun v => [v % 4294967296, v / 4294967296]
theorem dig_len (l : List Int) : (dig l).length = 2 * l.length := by
  induction l with
  | nil => rfl
  | cons v l ih => simp only [dig, List.flatMap_cons, List.length_append, List.length_cons, List.length_nil] at ih ⊢; omega
theorem dig_snoc {l : List Int} {i : Nat} (h : i < l.length) : dig (l.take (i + 1)) = dig (l.take i) ++ [l.getD i 0 % 4294967296, l.getD i 0 / 4294967296] := by
  rw [List.take_succ_eq_append_getElem h, List.getD_eq_getElem?_getD, List.getElem?_eq_getElem h]
  unfold dig
  rw [List.flatMap_append]
  rfl
/-- Digits put together to limbs again. -/
def lims : List Int → List Int
  | [] => []
  | [x] => [x]
  | x :: y :: r => IntKind.u64.wrap (x + IntKind.u64.wrap (y * 4294967296)) :: lims r
theorem drop_cons' {l : List Int} {i : Nat} (h : i < l.length) : l.drop i = l.getD i 0 :: l.drop (i + 1) := by
  rw [List.drop_eq_getElem_cons h, List.getD_eq_getElem?_getD, List.getElem?_eq_getElem h]; rfl
theorem u64s1 {v : Int} (h0 : 0 ≤ v) (h1 : v < 18446744073709551616) : u64s [v] := fun x hx => by rw [List.mem_singleton] at hx; subst hx; exact ⟨h0, h1⟩
end Go.Proofs.Ytcfdclehmpfkcaa.Vc

/- What lists of limbs say as numbers, in plain Lean. -/
namespace Go.Proofs.Ytcfdclehmpfkcaa.Vc
open Go Go.RowKit

def Bs : Int := 18446744073709551616
def vl : List Int → Int
  | [] => 0
  | x :: l => x + Bs * vl l
def pB : Nat → Int
  | 0 => 1
  | k + 1 => Bs * pB k
theorem pB_pos : ∀ k, 0 < pB k
  | 0 => by decide
  | k + 1 => by simp only [pB]; exact Int.mul_pos (by decide) (pB_pos k)
theorem pB_add : ∀ a b, pB (a + b) = pB a * pB b
  | 0, b => by simp [pB]
  | a + 1, b => by rw [show a + 1 + b = (a + b) + 1 by omega]; simp only [pB]; rw [pB_add a b, Int.mul_assoc]
theorem vl_app : ∀ a b : List Int, vl (a ++ b) = vl a + pB a.length * vl b
  | [], b => by simp [vl, pB]
  | x :: a, b => by
    simp only [List.cons_append, vl, List.length_cons, pB]
    rw [vl_app a b, Int.mul_add, Int.mul_assoc, Int.add_assoc]
theorem vl_nonneg : ∀ {l : List Int}, u64s l → 0 ≤ vl l
  | [], _ => Int.le_refl _
  | x :: l, h => by
    have h1 := (h x (List.mem_cons_self ..)).1
    have h2 := vl_nonneg (l := l) fun y hy => h y (List.mem_cons_of_mem _ hy)
    simp only [vl]
    have := Int.mul_nonneg (show (0 : Int) ≤ Bs by decide) h2
    omega
theorem vl_lt : ∀ {l : List Int}, u64s l → vl l < pB l.length
  | [], _ => by decide
  | x :: l, h => by
    have h1 := (h x (List.mem_cons_self ..)).2
    have h2 := vl_lt (l := l) fun y hy => h y (List.mem_cons_of_mem _ hy)
    simp only [vl, List.length_cons, pB]
    have h3 : vl l + 1 ≤ pB l.length := h2
    have h4 := Int.mul_le_mul_of_nonneg_left h3 (show (0 : Int) ≤ Bs by decide)
    rw [Int.mul_add, Int.mul_one] at h4
    have h5 : x < Bs := h1
    omega
theorem vl_zeros (n : Nat) : vl (List.replicate n 0) = 0 := by
  induction n with
  | zero => rfl
  | succ n ih => rw [List.replicate_succ]; simp [vl, ih]
/-- The value of the first k limbs. -/
def vk (l : List Int) (k : Nat) : Int := vl (l.take k)
theorem vk_0 (l : List Int) : vk l 0 = 0 := by unfold vk; simp [vl]
theorem vk_all {l : List Int} {k : Nat} (h : l.length ≤ k) : vk l k = vl l := by unfold vk; rw [List.take_of_length_le h]
theorem vk_succ (l : List Int) (k : Nat) : vk l (k + 1) = vk l k + pB k * l.getD k 0 := by
  unfold vk
  by_cases h : k < l.length
  · rw [List.take_succ_eq_append_getElem h, vl_app, List.length_take, Nat.min_eq_left (by omega), List.getD_eq_getElem?_getD, List.getElem?_eq_getElem h]
    simp [vl]
  · rw [List.take_of_length_le (by omega), List.take_of_length_le (by omega), getD_ge (by omega)]
    simp
theorem vk_tN (l : List Int) : ∀ k, k ≤ l.length → vk l (tN l k) = vk l k
  | 0, _ => rfl
  | k + 1, h => by
    simp only [tN]
    split
    · rename_i h0
      rw [vk_tN l k (by omega), vk_succ, h0, Int.mul_zero, Int.add_zero]
    · rfl
theorem vl_trm (l : List Int) : vl (trm l) = vl l := by
  have := vk_tN l l.length (Nat.le_refl _)
  rw [vk_all (Nat.le_refl _)] at this
  exact this
theorem adN_val (a b : List Int) : ∀ i, vl (adN a b i).1 + pB i * (adN a b i).2 = vk a i + vk b i
  | 0 => by simp [adN, vl, vk_0, pB]
  | i + 1 => by
    have ih := adN_val a b i
    simp only [adN]
    rw [vl_app, adN_len, vk_succ, vk_succ]
    simp only [vl, pB]
    have e := Int.emod_add_mul_ediv (a.getD i 0 + b.getD i 0 + (adN a b i).2) 18446744073709551616
    generalize hs : a.getD i 0 + b.getD i 0 + (adN a b i).2 = s at *
    generalize hq : s / 18446744073709551616 = q at *
    generalize hr : s % 18446744073709551616 = r at *
    have hB : Bs = 18446744073709551616 := rfl
    rw [Int.mul_zero, Int.add_zero, hB, Int.mul_comm 18446744073709551616 (pB i), Int.mul_assoc]
    have e2 : pB i * r + pB i * (18446744073709551616 * q) = pB i * s := by rw [← Int.mul_add, e]
    have e3 : pB i * s = pB i * a.getD i 0 + pB i * b.getD i 0 + pB i * (adN a b i).2 := by rw [← hs, Int.mul_add, Int.mul_add]
    omega
theorem sbN_val (a b : List Int) : ∀ i, vl (sbN a b i).1 - pB i * (sbN a b i).2 = vk a i - vk b i
  | 0 => by simp [sbN, vl, vk_0, pB]
  | i + 1 => by
    have ih := sbN_val a b i
    simp only [sbN]
    rw [vl_app, sbN_len, vk_succ, vk_succ]
    simp only [vl, pB]
    have hB : Bs = 18446744073709551616 := rfl
    rw [Int.mul_zero, Int.add_zero, hB, Int.mul_comm 18446744073709551616 (pB i), Int.mul_assoc]
    split
    · rw [Int.mul_one, Int.mul_add, Int.mul_sub, Int.mul_sub]; omega
    · rw [Int.mul_sub, Int.mul_sub]; simp; omega
theorem vl_swL (a b : List Int) : (swL a b).2.length ≤ (swL a b).1.length ∧ vl (swL a b).1 + vl (swL a b).2 = vl a + vl b := by
  unfold swL
  split
  · exact ⟨by show a.length ≤ b.length; omega, by show vl b + vl a = _; omega⟩
  · exact ⟨by show b.length ≤ a.length; omega, rfl⟩
theorem vl_sumL (a b : List Int) : vl (sumL a b) = vl a + vl b := by
  have h := adN_val (swL (trm a) (trm b)).1 (swL (trm a) (trm b)).2 (swL (trm a) (trm b)).1.length
  obtain ⟨h1, h2⟩ := vl_swL (trm a) (trm b)
  rw [vk_all (Nat.le_refl _), vk_all h1, h2, vl_trm, vl_trm] at h
  unfold sumL
  rw [vl_app, adN_len]
  simp only [vl]
  rw [Int.mul_zero, Int.add_zero]
  exact h
/-- No nought at the top. -/
def tpd (l : List Int) : Prop := l ≠ [] → l.getD (l.length - 1) 0 ≠ 0
theorem tN_top (l : List Int) : ∀ k, 0 < tN l k → l.getD (tN l k - 1) 0 ≠ 0
  | 0, h => by simp [tN] at h
  | k + 1, h => by
    simp only [tN] at h ⊢
    split
    · rename_i h0; rw [if_pos h0] at h; exact tN_top l k h
    · rename_i h0; exact h0
theorem trm_length (l : List Int) : (trm l).length = tN l l.length := by unfold trm; rw [List.length_take, Nat.min_eq_left (tN_le _ _)]
theorem tpd_trm (l : List Int) : tpd (trm l) := fun hne => by
  have hl := trm_length l
  have hpos : 0 < tN l l.length := by
    rcases Nat.eq_zero_or_pos (tN l l.length) with h | h
    · exact absurd (List.eq_nil_of_length_eq_zero (hl.trans h)) hne
    · exact h
  rw [hl]
  unfold trm
  rw [getD_take (by omega)]
  exact tN_top l _ hpos
theorem trm_id {l : List Int} (h : tpd l) : trm l = l := by
  unfold trm
  by_cases h0 : l = []
  · subst h0; rfl
  · have hp : 0 < l.length := List.length_pos_iff.2 h0
    rw [tN_stop hp (h h0), List.take_length]
theorem vl_ge {l : List Int} (hu : u64s l) (ht : tpd l) (h0 : l ≠ []) : pB (l.length - 1) ≤ vl l := by
  have hp : 0 < l.length := List.length_pos_iff.2 h0
  obtain ⟨k, hk⟩ : ∃ k, l.length = k + 1 := ⟨l.length - 1, by omega⟩
  have h1 : vl l = vk l (k + 1) := by rw [vk_all (by omega)]
  rw [h1, vk_succ, hk, Nat.add_sub_cancel]
  have h2 := ht h0
  rw [hk, Nat.add_sub_cancel] at h2
  have h3 := u64s_at hu (i := k) (by omega)
  have h4 : 0 ≤ vk l k := vl_nonneg fun x hx => hu x (List.mem_of_mem_take hx)
  have h5 : pB k * 1 ≤ pB k * l.getD k 0 := Int.mul_le_mul_of_nonneg_left (by omega) (Int.le_of_lt (pB_pos k))
  omega
theorem pB_mono {a b : Nat} (h : a ≤ b) : pB a ≤ pB b := by
  obtain ⟨c, rfl⟩ : ∃ c, b = a + c := ⟨b - a, by omega⟩
  rw [pB_add]
  have h1 := pB_pos c
  have h2 := Int.mul_le_mul_of_nonneg_left (show 1 ≤ pB c by omega) (Int.le_of_lt (pB_pos a))
  omega
/-- The lists' comparison is the numbers'. -/
theorem cmpN_val {a b : List Int} (ha : u64s a) (hb : u64s b) : ∀ k, (cmpN a b k = 0 ∧ vk a k = vk b k) ∨ (cmpN a b k = -1 ∧ vk a k < vk b k) ∨ (cmpN a b k = 1 ∧ vk b k < vk a k)
  | 0 => .inl ⟨rfl, by rw [vk_0, vk_0]⟩
  | k + 1 => by
    have ih := cmpN_val ha hb k
    simp only [cmpN]
    rw [vk_succ, vk_succ]
    have a1 : 0 ≤ vk a k := vl_nonneg fun x hx => ha x (List.mem_of_mem_take hx)
    have b1 : 0 ≤ vk b k := vl_nonneg fun x hx => hb x (List.mem_of_mem_take hx)
    have a2 : vk a k < pB k := Int.lt_of_lt_of_le (vl_lt fun x hx => ha x (List.mem_of_mem_take hx)) (pB_mono (by rw [List.length_take]; omega))
    have b2 : vk b k < pB k := Int.lt_of_lt_of_le (vl_lt fun x hx => hb x (List.mem_of_mem_take hx)) (pB_mono (by rw [List.length_take]; omega))
    have hp := pB_pos k
    split
    · rename_i h
      have := Int.mul_le_mul_of_nonneg_left (show a.getD k 0 + 1 ≤ b.getD k 0 by omega) (Int.le_of_lt hp)
      rw [Int.mul_add, Int.mul_one] at this
      exact .inr (.inl ⟨rfl, by omega⟩)
    · split
      · rename_i h1 h
        have := Int.mul_le_mul_of_nonneg_left (show b.getD k 0 + 1 ≤ a.getD k 0 by omega) (Int.le_of_lt hp)
        rw [Int.mul_add, Int.mul_one] at this
        exact .inr (.inr ⟨rfl, by omega⟩)
      · rename_i h1 h2
        rw [show a.getD k 0 = b.getD k 0 by omega]
        rcases ih with ⟨h, h'⟩ | ⟨h, h'⟩ | ⟨h, h'⟩
        · exact .inl ⟨h, by omega⟩
        · exact .inr (.inl ⟨h, by omega⟩)
        · exact .inr (.inr ⟨h, by omega⟩)
theorem cmpL_val {a b : List Int} (ha : u64s a) (hb : u64s b) : (cmpL (trm a) (trm b) = 0 ∧ vl a = vl b) ∨ (cmpL (trm a) (trm b) = -1 ∧ vl a < vl b) ∨ (cmpL (trm a) (trm b) = 1 ∧ vl b < vl a) := by
  have ua := u64s_trm ha
  have ub := u64s_trm hb
  rw [← vl_trm a, ← vl_trm b]
  have less : ∀ {x y : List Int}, u64s x → u64s y → tpd y → x.length < y.length → vl x < vl y := fun {x y} hx hy ht hlt => by
    have h1 := vl_lt hx
    have h2 := vl_ge hy ht (by intro e; rw [e] at hlt; simp at hlt)
    have h3 := pB_mono (show x.length ≤ y.length - 1 by omega)
    omega
  unfold cmpL
  split
  · rename_i h; exact .inr (.inl ⟨rfl, less ua ub (tpd_trm b) h⟩)
  · split
    · rename_i h; exact .inr (.inr ⟨rfl, less ub ua (tpd_trm a) h⟩)
    · rename_i h1 h2
      have := cmpN_val ua ub (trm a).length
      rw [vk_all (Nat.le_refl _), vk_all (by omega : (trm b).length ≤ (trm a).length)] at this
      exact this
theorem vl_difL {a b : List Int} (ha : u64s a) (hb : u64s b) (h : vl b ≤ vl a) : vl (difL a b) = vl a - vl b := by
  have ua := u64s_trm ha
  have ub := u64s_trm hb
  have hv := sbN_val (trm a) (trm b) (trm a).length
  rw [vk_all (Nat.le_refl _), vl_trm] at hv
  have hlen : (trm b).length ≤ (trm a).length := by
    rcases Nat.lt_or_ge (trm a).length (trm b).length with hlt | hge
    · have h1 := vl_lt ua
      have h2 := vl_ge ub (tpd_trm b) (by intro e; rw [e] at hlt; simp at hlt)
      have h3 := pB_mono (show (trm a).length ≤ (trm b).length - 1 by omega)
      rw [vl_trm] at h1 h2
      omega
    · exact hge
  rw [vk_all hlen, vl_trm] at hv
  have hc := sbN_c (trm a) (trm b) (trm a).length
  have hs := vl_lt (sbN_u ua ub (trm a).length)
  rw [sbN_len] at hs
  unfold difL
  rcases (show (sbN (trm a) (trm b) (trm a).length).2 = 0 ∨ (sbN (trm a) (trm b) (trm a).length).2 = 1 by omega) with h0 | h0
  · rw [h0, Int.mul_zero] at hv; omega
  · rw [h0, Int.mul_one] at hv; omega
end Go.Proofs.Ytcfdclehmpfkcaa.Vc

/- Products of limbs, in plain Lean. -/
namespace Go.Proofs.Ytcfdclehmpfkcaa.Vc
open Go Go.RowKit

theorem shr32 {x : Int} (h : 0 ≤ x) : x.fdiv (2 ^ min (32 : Int).toNat 64) = x / 4294967296 := by
  obtain ⟨n, rfl⟩ := Int.eq_ofNat_of_zero_le h
  exact shr_nat (k := 4294967296) (by decide)
theorem and32 {x : Int} (h0 : 0 ≤ x) (h1 : x < 18446744073709551616) : bitop .and .u64 x 4294967295 = x % 4294967296 := by
  obtain ⟨n, rfl⟩ := Int.eq_ofNat_of_zero_le h0
  unfold bitop
  simp only [IntKind.bits]
  have e1 : (BitVec.ofInt 64 (n : Int)).toNat = n := by
    rw [BitVec.toNat_ofInt]; simp; omega
  have e2 : (BitVec.ofInt 64 4294967295).toNat = 4294967295 := by decide
  have e3 : (BitVec.ofInt 64 (n : Int) &&& BitVec.ofInt 64 4294967295).toNat = n % 4294967296 := by
    rw [BitVec.toNat_and, e1, e2]
    have := Nat.and_two_pow_sub_one_eq_mod n 32
    simpa using this
  show IntKind.u64.wrap (((BitVec.ofInt 64 (n : Int) &&& BitVec.ofInt 64 4294967295).toNat : Nat) : Int) = _
  rw [e3, wrap_u64 (by omega) (by omega)]
  omega
theorem mul_bd {a b m : Int} (ha : 0 ≤ a) (hb : 0 ≤ b) (ham : a ≤ m) (hbm : b ≤ m) : 0 ≤ a * b ∧ a * b ≤ m * m := by
  refine ⟨Int.mul_nonneg ha hb, ?_⟩
  exact Int.mul_le_mul ham hbm hb (by omega)
theorem mul_parts (x y : Int) : x * y = (x / 4294967296) * (y / 4294967296) * 18446744073709551616 + ((x / 4294967296) * (y % 4294967296) + (x % 4294967296) * (y / 4294967296)) * 4294967296 + (x % 4294967296) * (y % 4294967296) := by
  have hx := Int.emod_add_mul_ediv x 4294967296
  have hy := Int.emod_add_mul_ediv y 4294967296
  generalize x / 4294967296 = x1 at *
  generalize x % 4294967296 = x0 at *
  generalize y / 4294967296 = y1 at *
  generalize y % 4294967296 = y0 at *
  rw [← hx, ← hy, Int.add_mul, Int.mul_add, Int.mul_add]
  have e1 : x0 * (4294967296 * y1) = 4294967296 * (x0 * y1) := by rw [Int.mul_left_comm]
  have e2 : 4294967296 * x1 * y0 = 4294967296 * (x1 * y0) := Int.mul_assoc _ _ _
  have e3 : 4294967296 * x1 * (4294967296 * y1) = 18446744073709551616 * (x1 * y1) := by
    rw [Int.mul_assoc, Int.mul_left_comm x1, ← Int.mul_assoc 4294967296 4294967296]; rfl
  rw [e1, e2, e3]
  omega
/-- Both halves of a product of two limbs, from four products of halves. -/
theorem mul64_val {x y : Int} (hx0 : 0 ≤ x) (hx : x < 18446744073709551616) (hy0 : 0 ≤ y) (hy : y < 18446744073709551616) :
    let p00 := x % 4294967296 * (y % 4294967296)
    let p10 := x / 4294967296 * (y % 4294967296)
    let p01 := x % 4294967296 * (y / 4294967296)
    let p11 := x / 4294967296 * (y / 4294967296)
    let t := p10 + p00 / 4294967296
    let u := t % 4294967296 + p01
    (0 ≤ p00 ∧ p00 ≤ 18446744065119617025) ∧ (0 ≤ p10 ∧ p10 ≤ 18446744065119617025) ∧ (0 ≤ p01 ∧ p01 ≤ 18446744065119617025) ∧ (0 ≤ p11 ∧ p11 ≤ 18446744065119617025) ∧ p11 + t / 4294967296 + u / 4294967296 = x * y / 18446744073709551616 := by
  intro p00 p10 p01 p11 t u
  have b00 := mul_bd (a := x % 4294967296) (b := y % 4294967296) (m := 4294967295) (by omega) (by omega) (by omega) (by omega)
  have b10 := mul_bd (a := x / 4294967296) (b := y % 4294967296) (m := 4294967295) (by omega) (by omega) (by omega) (by omega)
  have b01 := mul_bd (a := x % 4294967296) (b := y / 4294967296) (m := 4294967295) (by omega) (by omega) (by omega) (by omega)
  have b11 := mul_bd (a := x / 4294967296) (b := y / 4294967296) (m := 4294967295) (by omega) (by omega) (by omega) (by omega)
  have hp := mul_parts x y
  have em : (4294967295 : Int) * 4294967295 = 18446744065119617025 := by decide
  rw [em] at b00 b10 b01 b11
  refine ⟨b00, b10, b01, b11, ?_⟩
  show x / 4294967296 * (y / 4294967296) + (x / 4294967296 * (y % 4294967296) + x % 4294967296 * (y % 4294967296) / 4294967296) / 4294967296 + ((x / 4294967296 * (y % 4294967296) + x % 4294967296 * (y % 4294967296) / 4294967296) % 4294967296 + x % 4294967296 * (y / 4294967296)) / 4294967296 = x * y / 18446744073709551616
  generalize x / 4294967296 * (y / 4294967296) = q11 at *
  generalize x / 4294967296 * (y % 4294967296) = q10 at *
  generalize x % 4294967296 * (y / 4294967296) = q01 at *
  generalize x % 4294967296 * (y % 4294967296) = q00 at *
  rw [hp]
  omega
theorem u64_wrap_mod {m : Int} : IntKind.u64.wrap m = m % 18446744073709551616 := by
  simp only [IntKind.wrap, IntKind.bits, IntKind.signed] <;> simp
theorem vl_set : ∀ (l : List Int) (j : Nat) (v : Int), j < l.length → vl (l.set j v) = vl l + pB j * (v - l.getD j 0)
  | [], j, v, h => by simp at h
  | x :: l, 0, v, _ => by
    have e : (x :: l).getD 0 0 = x := rfl
    simp only [List.set_cons_zero, vl, pB, e]; omega
  | x :: l, j + 1, v, h => by
    have ih := vl_set l j v (by simpa using h)
    have e : (x :: l).getD (j + 1) 0 = l.getD j 0 := rfl
    simp only [List.set_cons_succ, vl, pB, e]
    rw [ih, Int.mul_add, Int.mul_assoc]; omega
theorem getD_set {l : List Int} {j k : Nat} {v : Int} (hne : k ≠ j) : (l.set j v).getD k 0 = l.getD k 0 := by
  rw [List.getD_eq_getElem?_getD, List.getD_eq_getElem?_getD, List.getElem?_set_ne (Ne.symm hne)]
theorem u64s_set {l : List Int} {j : Nat} {v : Int} (h : u64s l) (h0 : 0 ≤ v) (h1 : v < 18446744073709551616) : u64s (l.set j v) := fun x hx => by
  rcases List.mem_or_eq_of_mem_set hx with hx | hx
  · exact h x hx
  · subst hx; exact ⟨h0, h1⟩
/-- One step of a row of the school's product. -/
theorem school_step {P c t : Int} (hP0 : 0 ≤ P) (hP : P ≤ 340282366920938463426481119284349108225) (hc0 : 0 ≤ c) (hc : c < 18446744073709551616) (ht0 : 0 ≤ t) (ht : t < 18446744073709551616) :
    0 ≤ P / 18446744073709551616 + (P % 18446744073709551616 + c + 0) / 18446744073709551616 ∧ P / 18446744073709551616 + (P % 18446744073709551616 + c + 0) / 18446744073709551616 < 18446744073709551616 ∧
    0 ≤ P / 18446744073709551616 + (P % 18446744073709551616 + c + 0) / 18446744073709551616 + (t + (P % 18446744073709551616 + c + 0) % 18446744073709551616 + 0) / 18446744073709551616 ∧
    P / 18446744073709551616 + (P % 18446744073709551616 + c + 0) / 18446744073709551616 + (t + (P % 18446744073709551616 + c + 0) % 18446744073709551616 + 0) / 18446744073709551616 < 18446744073709551616 ∧
    (t + (P % 18446744073709551616 + c + 0) % 18446744073709551616 + 0) % 18446744073709551616 + 18446744073709551616 * (P / 18446744073709551616 + (P % 18446744073709551616 + c + 0) / 18446744073709551616 + (t + (P % 18446744073709551616 + c + 0) % 18446744073709551616 + 0) / 18446744073709551616) = t + P + c := by
  omega
/-- What is left of a number behind its first k limbs. -/
theorem vl_rest {b : List Int} (hb : u64s b) (k : Nat) : ∃ r, 0 ≤ r ∧ vl b = vk b k + pB k * r := by
  refine ⟨vl (b.drop k), vl_nonneg fun x hx => hb x (List.mem_of_mem_drop hx), ?_⟩
  by_cases h : k ≤ b.length
  · have := vl_app (b.take k) (b.drop k)
    rw [List.take_append_drop, List.length_take, Nat.min_eq_left h] at this
    exact this
  · rw [List.drop_eq_nil_of_le (by omega), vk_all (by omega)]; simp [vl]
theorem vk_nonneg {b : List Int} (hb : u64s b) (k : Nat) : 0 ≤ vk b k := vl_nonneg fun x hx => hb x (List.mem_of_mem_take hx)
/-- A number below n limbs, moved up by 'at', has no limb above. -/
theorem no_rest {b : List Int} (hb : u64s b) {at_ k n : Nat} (hn : n ≤ at_ + k) (h : pB at_ * vl b < pB n) : vk b k = vl b := by
  obtain ⟨r, h0, h1⟩ := vl_rest hb k
  rcases Int.lt_or_le 0 r with hr | hr
  · exfalso
    have h2 := Int.mul_le_mul_of_nonneg_left (show 1 ≤ r by omega) (Int.le_of_lt (pB_pos k))
    have h3 := vk_nonneg hb k
    have h4 := Int.mul_le_mul_of_nonneg_left (show pB k ≤ vl b by omega) (Int.le_of_lt (pB_pos at_))
    rw [← pB_add] at h4
    have h5 := pB_mono hn
    omega
  · have : r = 0 := by omega
    rw [this, Int.mul_zero, Int.add_zero] at h1
    exact h1.symm
theorem school_in {o o2 b : List Int} {i k : Nat} {c c2 x t s : Int} (hj : i + k < o.length) (ho2 : o2 = o.set (i + k) s) (ht : o.getD (i + k) 0 = t) {V : Int}
    (hv : vl o + c * pB (i + k) = V + x * pB i * vk b k) (hs : s + 18446744073709551616 * c2 = t + x * b.getD k 0 + c) : vl o2 + c2 * pB (i + (k + 1)) = V + x * pB i * vk b (k + 1) := by
  subst ho2
  rw [vl_set _ _ _ hj, ht, vk_succ, show i + (k + 1) = (i + k) + 1 by omega]
  simp only [pB]
  have hB : Bs = 18446744073709551616 := rfl
  have e1 : c2 * (Bs * pB (i + k)) = pB (i + k) * (18446744073709551616 * c2) := by rw [hB, ← Int.mul_assoc, Int.mul_comm (c2 * 18446744073709551616), Int.mul_comm c2]
  have e2 : x * pB i * (vk b k + pB k * b.getD k 0) = x * pB i * vk b k + pB (i + k) * (x * b.getD k 0) := by
    rw [Int.mul_add, pB_add]
    congr 1
    rw [Int.mul_assoc, Int.mul_left_comm (pB i * pB k), Int.mul_assoc (pB i)]
  have e3 : pB (i + k) * (s - t) + pB (i + k) * (18446744073709551616 * c2) = pB (i + k) * (x * b.getD k 0) + pB (i + k) * c := by
    rw [← Int.mul_add, ← Int.mul_add]; congr 1; omega
  rw [e1, e2]
  have e4 : c * pB (i + k) = pB (i + k) * c := Int.mul_comm _ _
  omega
theorem school_row {o o2 a b : List Int} {i : Nat} {c : Int} (hj : i + b.length < o.length) (h0 : o.getD (i + b.length) 0 = 0) (ho2 : o2 = o.set (i + b.length) c)
    (hv : vl o + c * pB (i + b.length) = vk a i * vl b + a.getD i 0 * pB i * vk b b.length) : vl o2 = vk a (i + 1) * vl b := by
  subst ho2
  rw [vl_set _ _ _ hj, h0, vk_succ, Int.add_mul]
  rw [vk_all (Nat.le_refl _)] at hv
  have e : pB i * a.getD i 0 * vl b = a.getD i 0 * pB i * vl b := by rw [Int.mul_comm (pB i)]
  have e4 : c * pB (i + b.length) = pB (i + b.length) * c := Int.mul_comm _ _
  rw [e, Int.sub_zero]
  omega
end Go.Proofs.Ytcfdclehmpfkcaa.Vc

/- Sums at a place, differences in place, parts of a number, Karatsuba's way: plain Lean. -/
namespace Go.Proofs.Ytcfdclehmpfkcaa.Vc
open Go Go.RowKit

theorem u64s_zeros (n : Nat) : u64s (List.replicate n 0) := fun x hx => by rw [List.eq_of_mem_replicate hx]; exact ⟨by decide, by decide⟩
theorem getD_zeros (n j : Nat) : (List.replicate n (0 : Int)).getD j 0 = 0 := by
  rw [List.getD_eq_getElem?_getD, List.getElem?_replicate]; split <;> rfl
theorem u64s_app {a b : List Int} (ha : u64s a) (hb : u64s b) : u64s (a ++ b) := fun x hx => by
  rcases List.mem_append.1 hx with hx | hx
  · exact ha x hx
  · exact hb x hx
theorem u64s_drop {a : List Int} (ha : u64s a) (k : Nat) : u64s (a.drop k) := fun x hx => ha x (List.mem_of_mem_drop hx)
theorem u64s_take {a : List Int} (ha : u64s a) (k : Nat) : u64s (a.take k) := fun x hx => ha x (List.mem_of_mem_take hx)
/-- One step of a sum at a place. -/
theorem add_in {q q2 b : List Int} {i at_ : Nat} {c c2 s V : Int} (hj : i < q.length) (hi : at_ ≤ i) (hq2 : q2 = q.set i s)
    (hv : vl q + c * pB i = V + pB at_ * vk b (i - at_)) (hs : s + 18446744073709551616 * c2 = q.getD i 0 + b.getD (i - at_) 0 + c) : vl q2 + c2 * pB (i + 1) = V + pB at_ * vk b (i + 1 - at_) := by
  subst hq2
  rw [vl_set _ _ _ hj, show i + 1 - at_ = (i - at_) + 1 by omega, vk_succ]
  simp only [pB]
  have hB : Bs = 18446744073709551616 := rfl
  have e1 : c2 * (Bs * pB i) = pB i * (18446744073709551616 * c2) := by rw [hB, ← Int.mul_assoc, Int.mul_comm (c2 * 18446744073709551616), Int.mul_comm c2]
  have e2 : pB at_ * (vk b (i - at_) + pB (i - at_) * b.getD (i - at_) 0) = pB at_ * vk b (i - at_) + pB i * b.getD (i - at_) 0 := by
    rw [Int.mul_add, ← Int.mul_assoc, ← pB_add, show at_ + (i - at_) = i by omega]
  have e3 : pB i * (s - q.getD i 0) + pB i * (18446744073709551616 * c2) = pB i * b.getD (i - at_) 0 + pB i * c := by
    rw [← Int.mul_add, ← Int.mul_add]; congr 1; omega
  have e4 : c * pB i = pB i * c := Int.mul_comm _ _
  rw [e1, e2]
  omega
theorem add_end {q r b : List Int} {i at_ n : Nat} {c : Int} (hq : u64s q) (hr : u64s r) (hb : u64s b) (hc0 : 0 ≤ c) (hi : at_ ≤ i) (hfit : vl r + pB at_ * vl b < pB n) (h : n ≤ i ∨ (b.length ≤ i - at_ ∧ c ≤ 0))
    (hv : vl q + c * pB i = vl r + pB at_ * vk b (i - at_)) : vl q = vl r + pB at_ * vl b := by
  have hr0 := vl_nonneg hr
  have hq0 := vl_nonneg hq
  rcases h with h | ⟨h1, h2⟩
  · have e := no_rest hb (at_ := at_) (k := i - at_) (n := n) (by omega) (by omega)
    rw [e] at hv
    have hp := pB_mono h
    rcases Int.lt_or_le 0 c with hc | hc
    · have := Int.mul_le_mul_of_nonneg_right (show 1 ≤ c by omega) (Int.le_of_lt (pB_pos i))
      omega
    · have : c = 0 := by omega
      rw [this, Int.zero_mul, Int.add_zero] at hv; exact hv
  · have : c = 0 := by omega
    rw [this, Int.zero_mul, Int.add_zero, vk_all h1] at hv; exact hv
/-- A difference in place. -/
theorem sub_at {a b : List Int} {i : Nat} (h : i < a.length) : ((sbN a b i).1 ++ a.drop i).getD i 0 = a.getD i 0 := by
  rw [List.getD_eq_getElem?_getD, List.getElem?_append_right (by rw [sbN_len]; exact Nat.le_refl _), sbN_len, Nat.sub_self, List.getElem?_drop, Nat.add_zero, ← List.getD_eq_getElem?_getD]
theorem sub_len {a b : List Int} {i : Nat} (h : i ≤ a.length) : ((sbN a b i).1 ++ a.drop i).length = a.length := by rw [List.length_append, sbN_len, List.length_drop]; omega
theorem sub_fill {a b : List Int} {i : Nat} (h : i < a.length) : ((sbN a b i).1 ++ a.drop i).set ((0 + i) * 1) (if a.getD i 0 < b.getD i 0 + (sbN a b i).2 then a.getD i 0 - b.getD i 0 - (sbN a b i).2 + 18446744073709551616 else a.getD i 0 - b.getD i 0 - (sbN a b i).2) = (sbN a b (i + 1)).1 ++ a.drop (i + 1) := by
  rw [Nat.zero_add, Nat.mul_one, List.set_append_right _ _ (by rw [sbN_len]; exact Nat.le_refl _), sbN_len, Nat.sub_self, drop_cons' h, List.set_cons_zero]
  simp only [sbN]
  rw [List.append_assoc]; rfl
theorem vl_sub {a b : List Int} (ha : u64s a) (hb : u64s b) (h : vl b ≤ vl a) : vl (sbN a b a.length).1 = vl a - vl b := by
  have hv := sbN_val a b a.length
  have hlt := vl_lt ha
  have e := no_rest hb (at_ := 0) (k := a.length) (n := a.length) (by omega) (by simp only [pB, Int.one_mul]; omega)
  rw [vk_all (Nat.le_refl _), e] at hv
  have hc := sbN_c a b a.length
  have hs := vl_lt (sbN_u ha hb a.length)
  rw [sbN_len] at hs
  rcases (show (sbN a b a.length).2 = 0 ∨ (sbN a b a.length).2 = 1 by omega) with h0 | h0
  · rw [h0, Int.mul_zero] at hv; omega
  · rw [h0, Int.mul_one] at hv; omega
/-- A nought at a part's top. -/
theorem part_step {l : List Int} {F k : Nat} (hF : F < k) (hk : k ≤ l.length) (h : l.getD (k - 1) 0 = 0) : vl ((l.take (k - 1)).drop F) = vl ((l.take k).drop F) := by
  obtain ⟨j, rfl⟩ : ∃ j, k = j + 1 := ⟨k - 1, by omega⟩
  rw [Nat.add_sub_cancel] at h ⊢
  have e : l.take (j + 1) = l.take j ++ [l.getD j 0] := by
    rw [List.take_succ_eq_append_getElem (by omega), List.getD_eq_getElem?_getD, List.getElem?_eq_getElem (by omega)]; rfl
  rw [e, h, List.drop_append, vl_app]
  have : F - (l.take j).length = 0 := by rw [List.length_take]; omega
  rw [this]
  simp [vl]
theorem min_take {l : List Int} {t : Nat} : l.take (min t l.length) = l.take t := by
  rcases Nat.le_total t l.length with h | h
  · rw [Nat.min_eq_left h]
  · rw [Nat.min_eq_right h, List.take_length, List.take_of_length_le h]
theorem part_all {l : List Int} {f t : Nat} (h : f ≤ t) : (l.take (min t l.length)).drop (min f l.length) = (l.take t).drop f := by
  rw [min_take]
  rcases Nat.le_total f l.length with h1 | h1
  · rw [Nat.min_eq_left h1]
  · rw [Nat.min_eq_right h1, List.drop_eq_nil_of_le (by rw [List.length_take]; omega), List.drop_eq_nil_of_le (by rw [List.length_take]; omega)]
theorem split_val {l : List Int} (k : Nat) : vl ((l.take k).drop 0) + pB k * vl ((l.take l.length).drop k) = vl l := by
  rw [List.drop_zero, List.take_length]
  by_cases h : k ≤ l.length
  · have := vl_app (l.take k) (l.drop k)
    rw [List.take_append_drop, List.length_take, Nat.min_eq_left h] at this
    exact this.symm
  · rw [List.take_of_length_le (by omega), List.drop_eq_nil_of_le (by omega)]; simp [vl]
/-- Karatsuba's identity. -/
theorem kara {al ah bl bh K A B lo hi mid : Int} (hA : al + K * ah = A) (hB : bl + K * bh = B) (hlo : lo = al * bl) (hhi : hi = ah * bh) (hmid : mid = (al + ah) * (bl + bh) - lo - hi) : lo + K * mid + (K * K) * hi = A * B := by
  subst hA; subst hB; subst hlo; subst hhi; subst hmid
  have e1 : (al + ah) * (bl + bh) = al * bl + al * bh + (ah * bl + ah * bh) := by rw [Int.add_mul, Int.mul_add, Int.mul_add]
  have e2 : (al + K * ah) * (bl + K * bh) = al * bl + K * (al * bh) + (K * (ah * bl) + K * K * (ah * bh)) := by
    rw [Int.add_mul, Int.mul_add, Int.mul_add]
    congr 1
    · congr 1; rw [Int.mul_left_comm]
    · congr 1
      · rw [Int.mul_assoc]
      · rw [Int.mul_assoc, Int.mul_left_comm ah, ← Int.mul_assoc]
  rw [e1, e2]
  have e3 : K * (al * bl + al * bh + (ah * bl + ah * bh) - al * bl - ah * bh) = K * (al * bh) + K * (ah * bl) := by
    rw [← Int.mul_add K]; congr 1; omega
  rw [e3]
  omega
theorem kara_le {al ah bl bh : Int} (h1 : 0 ≤ al) (h2 : 0 ≤ ah) (h3 : 0 ≤ bl) (h4 : 0 ≤ bh) : al * bl ≤ (al + ah) * (bl + bh) ∧ ah * bh ≤ (al + ah) * (bl + bh) - al * bl := by
  have e1 : (al + ah) * (bl + bh) = al * bl + al * bh + (ah * bl + ah * bh) := by rw [Int.add_mul, Int.mul_add, Int.mul_add]
  have a1 := Int.mul_nonneg h1 h4
  have a2 := Int.mul_nonneg h2 h3
  have a3 := Int.mul_nonneg h2 h4
  omega
theorem vl_mul_lt {a b : List Int} (ha : u64s a) (hb : u64s b) : vl a * vl b < pB (a.length + b.length) := by
  have h1 := vl_lt ha
  have h2 := vl_lt hb
  have h3 := vl_nonneg ha
  have h4 := vl_nonneg hb
  rw [pB_add]
  rcases Int.lt_or_le 0 (vl b) with h | h
  · have := Int.mul_lt_mul_of_pos_right h1 h
    have := Int.mul_le_mul_of_nonneg_left (Int.le_of_lt h2) (Int.le_of_lt (pB_pos a.length))
    omega
  · have : vl b = 0 := by omega
    rw [this, Int.mul_zero]; exact Int.mul_pos (pB_pos _) (pB_pos _)
theorem half_k {n : Nat} (h : n < 4611686018427387904) : IntKind.i64.wrap (Int.tdiv (n : Int) 2) = ((n / 2 : Nat) : Int) := by
  rw [Int.tdiv_eq_ediv_of_nonneg (by omega), wrap_i64 (by omega) (by omega)]; omega
end Go.Proofs.Ytcfdclehmpfkcaa.Vc

/- Numbers with a sign, in plain Lean. -/
namespace Go.Proofs.Ytcfdclehmpfkcaa.Vc
open Go Go.RowKit

def sv (s : Bool) (l : List Int) : Int := if s = true then -(vl l) else vl l
def good (l : List Int) : Prop := u64s l ∧ l.length ≤ 1048576
theorem bl_pos {f n : Nat} (hf : 0 < f) (h : 0 < n) : 0 < bl f n := by
  obtain ⟨g, rfl⟩ : ∃ g, f = g + 1 := ⟨f - 1, by omega⟩
  simp only [bl]
  rw [if_neg (by omega)]; omega
theorem len_bd {l : List Int} (hu : u64s l) (h : lenN l ≤ 67108864) : (trm l).length ≤ 1048576 := by
  unfold lenN at h
  split at h
  · omega
  · rename_i h0
    have ht := tpd_trm l (by intro e; rw [e] at h0; exact h0 rfl)
    have hb := u64s_getD (u64s_trm hu) ((trm l).length - 1)
    have := bl_pos (f := 64) (n := ((trm l).getD ((trm l).length - 1) 0).toNat) (by decide) (by omega)
    omega
theorem trm_trm (l : List Int) : trm (trm l) = trm l := trm_id (tpd_trm l)
theorem lenN_trm (l : List Int) : lenN (trm l) = lenN l := by unfold lenN; rw [trm_trm]
theorem vl_pos {l : List Int} (hu : u64s l) (ht : tpd l) (h : l ≠ []) : 0 < vl l := by
  have h1 := vl_ge hu ht h
  have h2 := pB_pos (l.length - 1)
  omega
theorem trm_zero {l : List Int} (hu : u64s l) : (trm l).length = 0 ↔ vl l = 0 := by
  constructor
  · intro h
    rw [← vl_trm, List.eq_nil_of_length_eq_zero h]; rfl
  · intro h
    rcases Nat.eq_zero_or_pos (trm l).length with h0 | h0
    · exact h0
    · have := vl_pos (u64s_trm hu) (tpd_trm l) (by intro e; rw [e] at h0; simp at h0)
      rw [vl_trm] at this; omega
theorem lenN_zero {l : List Int} (hu : u64s l) : lenN l = 0 ↔ vl l = 0 := by
  rw [← trm_zero hu]
  unfold lenN
  constructor
  · intro h
    split at h
    · assumption
    · rename_i h0
      have ht := tpd_trm l (by intro e; rw [e] at h0; exact absurd rfl h0)
      have hb := u64s_getD (u64s_trm hu) ((trm l).length - 1)
      have := bl_pos (f := 64) (n := ((trm l).getD ((trm l).length - 1) 0).toNat) (by decide) (by omega)
      omega
  · intro h; rw [if_pos h]
def sgnI (x : Int) : Int := if x = 0 then 0 else if x < 0 then -1 else 1
def cmpI (x y : Int) : Int := if x < y then -1 else if y < x then 1 else 0
theorem sgn_sv {s : Bool} {l : List Int} (hu : u64s l) : sgnI (sv s l) = if lenN l = 0 then 0 else if s = true then -1 else 1 := by
  have h := lenN_zero hu
  have h0 := vl_nonneg hu
  unfold sgnI sv
  by_cases hz : vl l = 0
  · rw [if_pos (h.2 hz)]; cases s <;> simp [hz]
  · rw [if_neg (fun e => hz (h.1 e))]
    cases s
    · simp only [Bool.false_eq_true, if_false]; rw [if_neg hz, if_neg (by omega)]
    · simp only [if_true]; rw [if_neg (by omega), if_pos (by omega)]
theorem cmpI_0 {x y : Int} : cmpI x y = 0 ↔ x = y := by unfold cmpI; (repeat' split) <;> constructor <;> intro h <;> omega
end Go.Proofs.Ytcfdclehmpfkcaa.Vc

/- Numbers as canonical lists of digits; how many bits they have. Plain Lean. -/
namespace Go.Proofs.Ytcfdclehmpfkcaa.Vc
open Go Go.RowKit

def digs (b n : Nat) : List Int := if h : n = 0 ∨ b < 2 then [] else ((n % b : Nat) : Int) :: digs b (n / b)
termination_by n
decreasing_by exact Nat.div_lt_self (by omega) (by omega)
theorem digs_0 {b : Nat} : digs b 0 = [] := by rw [digs, dif_pos (.inl rfl)]
theorem digs_pos {b n : Nat} (hb : 2 ≤ b) (hn : n ≠ 0) : digs b n = ((n % b : Nat) : Int) :: digs b (n / b) := by rw [digs, dif_neg (by omega)]
def vb (b : Nat) : List Int → Int
  | [] => 0
  | x :: l => x + (b : Int) * vb b l
def rng (b : Nat) (l : List Int) : Prop := ∀ x ∈ l, 0 ≤ x ∧ x < (b : Int)
theorem rng_tail {b : Nat} {x : Int} {l : List Int} (h : rng b (x :: l)) : rng b l := fun y hy => h y (List.mem_cons_of_mem _ hy)
theorem vb_vl : ∀ l, vb 18446744073709551616 l = vl l
  | [] => rfl
  | x :: l => by simp only [vb, vl, vb_vl l]; rfl
theorem vb_nonneg {b : Nat} : ∀ {l : List Int}, rng b l → 0 ≤ vb b l
  | [], _ => Int.le_refl _
  | x :: l, h => by
    have h1 := (h x (List.mem_cons_self ..)).1
    have h2 := Int.mul_nonneg (Int.natCast_nonneg b) (vb_nonneg (rng_tail h))
    simp only [vb]; omega
theorem tpd_tail {x : Int} {l : List Int} (h : tpd (x :: l)) : tpd l := fun hne => by
  have := h (by simp)
  have hp : 0 < l.length := List.length_pos_iff.2 hne
  rw [List.length_cons, Nat.add_sub_cancel] at this
  obtain ⟨k, hk⟩ : ∃ k, l.length = k + 1 := ⟨l.length - 1, by omega⟩
  rw [hk] at this ⊢
  simpa using this
theorem tpd_one {x : Int} (h : tpd [x]) : x ≠ 0 := by simpa using h (by simp)
theorem digs_of {b : Nat} (hb : 2 ≤ b) : ∀ {l : List Int}, rng b l → tpd l → digs b (vb b l).toNat = l
  | [], _, _ => digs_0
  | x :: t, h, ht => by
    have ih := digs_of hb (rng_tail h) (tpd_tail ht)
    have h1 := h x (List.mem_cons_self ..)
    have h2 := vb_nonneg (rng_tail h)
    obtain ⟨m, hm⟩ : ∃ m : Nat, vb b t = m := ⟨(vb b t).toNat, by omega⟩
    obtain ⟨y, hy⟩ : ∃ y : Nat, x = y := ⟨x.toNat, by omega⟩
    subst hy
    have e : (vb b ((y : Int) :: t)).toNat = y + b * m := by
      simp only [vb]; rw [hm, ← Int.natCast_mul]; omega
    have hyb : y < b := by omega
    rw [e]
    rw [hm] at ih
    rw [show ((m : Int)).toNat = m from rfl] at ih
    have hne : y + b * m ≠ 0 := by
      intro h0
      have hy0 : y = 0 := by omega
      have hm0 : b * m = 0 := by omega
      have hm1 : m = 0 := by
        rcases Nat.mul_eq_zero.1 hm0 with h | h
        · omega
        · exact h
      subst hm1
      rw [digs_0] at ih
      subst ih
      exact tpd_one ht (by rw [hy0]; rfl)
    rw [digs_pos hb hne, Nat.add_mul_mod_self_left, Nat.mod_eq_of_lt hyb, Nat.add_mul_div_left _ _ (by omega), Nat.div_eq_of_lt hyb, Nat.zero_add, ih]
theorem vb_digs {b : Nat} (hb : 2 ≤ b) (n : Nat) : vb b (digs b n) = n := by
  induction n using Nat.strongRecOn with
  | _ n ih =>
    by_cases h : n = 0
    · subst h; rw [digs_0]; rfl
    · rw [digs_pos hb h]
      simp only [vb]
      rw [ih (n / b) (Nat.div_lt_self (by omega) (by omega)), ← Int.natCast_mul, ← Int.natCast_add, Nat.mod_add_div]
theorem rng_digs {b : Nat} (hb : 2 ≤ b) (n : Nat) : rng b (digs b n) := by
  induction n using Nat.strongRecOn with
  | _ n ih =>
    by_cases h : n = 0
    · subst h; rw [digs_0]; intro x hx; simp at hx
    · rw [digs_pos hb h]
      intro x hx
      rcases List.mem_cons.1 hx with rfl | hx
      · have := Nat.mod_lt n (show 0 < b by omega); omega
      · exact ih (n / b) (Nat.div_lt_self (by omega) (by omega)) x hx
theorem tpd_digs {b : Nat} (hb : 2 ≤ b) (n : Nat) : tpd (digs b n) := by
  induction n using Nat.strongRecOn with
  | _ n ih =>
    by_cases h : n = 0
    · subst h; rw [digs_0]; intro hx; simp at hx
    · rw [digs_pos hb h]
      intro _
      rw [List.length_cons, Nat.add_sub_cancel]
      by_cases h1 : n / b = 0
      · rw [h1, digs_0]
        have : n < b := by
          rcases Nat.lt_or_ge n b with h2 | h2
          · exact h2
          · have := Nat.div_pos h2 (by omega); omega
        simp [Nat.mod_eq_of_lt this, h]
      · have h2 := ih (n / b) (Nat.div_lt_self (by omega) (by omega))
        have hne : digs b (n / b) ≠ [] := by rw [digs_pos hb h1]; simp
        have h3 := h2 hne
        have hp : 0 < (digs b (n / b)).length := List.length_pos_iff.2 hne
        obtain ⟨k, hk⟩ : ∃ k, (digs b (n / b)).length = k + 1 := ⟨(digs b (n / b)).length - 1, by omega⟩
        rw [hk] at h3 ⊢
        simpa using h3
/-- Two canonical lists of one number. -/
theorem cano {b : Nat} (hb : 2 ≤ b) {l : List Int} {n : Nat} (hr : rng b l) (ht : tpd l) (hv : vb b l = n) : l = digs b n := by
  have := digs_of hb hr ht
  rw [hv] at this
  exact this.symm
def nbits (n : Nat) : Nat := if n = 0 then 0 else n.log2 + 1
theorem nbits_le {n k : Nat} : nbits n ≤ k ↔ n < 2 ^ k := by
  unfold nbits
  split
  · rename_i h; subst h; exact ⟨fun _ => Nat.two_pow_pos k, fun _ => Nat.zero_le _⟩
  · rename_i h
    rw [← Nat.log2_lt h]
    omega
theorem nbits_0 : nbits 0 = 0 := rfl
theorem nbits_pos {n : Nat} (h : n ≠ 0) : 0 < nbits n := by unfold nbits; rw [if_neg h]; omega
theorem nbits_mono {m n : Nat} (h : m ≤ n) : nbits m ≤ nbits n := nbits_le.2 (Nat.lt_of_le_of_lt h (nbits_le.1 (Nat.le_refl _)))
theorem nbits_add {w x m : Nat} (hx : x < 2 ^ w) (hm : m ≠ 0) : nbits (x + 2 ^ w * m) = w + nbits m := by
  refine Nat.le_antisymm (nbits_le.2 ?_) ?_
  · have h1 : m < 2 ^ nbits m := nbits_le.1 (Nat.le_refl _)
    rw [Nat.pow_add]
    have h2 : 2 ^ w * (m + 1) ≤ 2 ^ w * 2 ^ nbits m := Nat.mul_le_mul_left _ h1
    rw [Nat.mul_add, Nat.mul_one] at h2
    omega
  · rcases Nat.lt_or_ge (nbits (x + 2 ^ w * m)) (w + nbits m) with h | h
    · exfalso
      have hp := nbits_pos hm
      have h1 : x + 2 ^ w * m < 2 ^ (w + (nbits m - 1)) := nbits_le.1 (by omega)
      rw [Nat.pow_add] at h1
      have h2 : 2 ^ w * m < 2 ^ w * 2 ^ (nbits m - 1) := by omega
      have h3 := nbits_le.2 (Nat.lt_of_mul_lt_mul_left h2)
      omega
    · exact h
theorem bl_nbits : ∀ f n, n < 2 ^ f → bl f n = nbits n
  | 0, n, h => by
    have : n = 0 := by simpa using h
    subst this; rfl
  | f + 1, n, h => by
    simp only [bl]
    split
    · rename_i h0; rw [h0]; rfl
    · rename_i h0
      rw [bl_nbits f (n / 2) (by rw [Nat.pow_succ] at h; omega)]
      by_cases h1 : n / 2 = 0
      · have : n = 1 := by omega
        subst this; rfl
      · have := nbits_add (w := 1) (x := n % 2) (m := n / 2) (by have := Nat.mod_lt n (show 0 < 2 by decide); simpa using this) h1
        rw [Nat.pow_one, Nat.mod_add_div] at this
        rw [this]
theorem nbits_mul {x y : Nat} (hx : x ≠ 0) (hy : y ≠ 0) : nbits x + nbits y ≤ nbits (x * y) + 1 := by
  have h1 := nbits_pos hx
  have h2 := nbits_pos hy
  have h3 : 2 ^ (nbits x - 1) ≤ x := by
    rcases Nat.lt_or_ge x (2 ^ (nbits x - 1)) with h | h
    · have := nbits_le.2 h; omega
    · exact h
  have h4 : 2 ^ (nbits y - 1) ≤ y := by
    rcases Nat.lt_or_ge y (2 ^ (nbits y - 1)) with h | h
    · have := nbits_le.2 h; omega
    · exact h
  rcases Nat.lt_or_ge (nbits (x * y) + 1) (nbits x + nbits y) with h | h
  · exfalso
    have h5 : x * y < 2 ^ ((nbits x - 1) + (nbits y - 1)) := nbits_le.1 (by omega)
    rw [Nat.pow_add] at h5
    have := Nat.mul_le_mul h3 h4
    omega
  · exact h
theorem len_digs {w : Nat} (hw : 1 ≤ w) : ∀ {l : List Int}, rng (2 ^ w) l → tpd l → l ≠ [] → w * (l.length - 1) + nbits (l.getD (l.length - 1) 0).toNat = nbits (vb (2 ^ w) l).toNat
  | [], _, _, h => absurd rfl h
  | [x], _, _, _ => by simp [vb]
  | x :: y :: t, h, ht, _ => by
    have ih := len_digs hw (rng_tail h) (tpd_tail ht) (by simp)
    have h1 := h x (List.mem_cons_self ..)
    have h2 := vb_nonneg (rng_tail h)
    have hb2 : 2 ≤ 2 ^ w := by
      have := Nat.pow_le_pow_right (show 0 < 2 by decide) hw
      simpa using this
    have hc := digs_of hb2 (rng_tail h) (tpd_tail ht)
    obtain ⟨m, hm⟩ : ∃ m : Nat, vb (2 ^ w) (y :: t) = m := ⟨(vb (2 ^ w) (y :: t)).toNat, by omega⟩
    obtain ⟨q, hq⟩ : ∃ q : Nat, x = q := ⟨x.toNat, by omega⟩
    rw [hm] at ih hc
    rw [show ((m : Int)).toNat = m from rfl] at ih hc
    have hm0 : m ≠ 0 := by intro e; rw [e, digs_0] at hc; simp at hc
    have e : (vb (2 ^ w) (x :: y :: t)).toNat = q + 2 ^ w * m := by
      show (x + ((2 ^ w : Nat) : Int) * vb (2 ^ w) (y :: t)).toNat = _
      rw [hm, hq, ← Int.natCast_mul]; omega
    rw [e, nbits_add (by omega) hm0, ← ih]
    simp only [List.length_cons, Nat.add_sub_cancel, List.getD_cons_succ]
    rw [Nat.mul_add, Nat.mul_one]
    omega
theorem u64_rng {l : List Int} (h : u64s l) : rng 18446744073709551616 l := h
theorem trm_app (l : List Int) : ∃ k, l = trm l ++ List.replicate k 0 := by
  have : ∀ k, k ≤ l.length → l.take k = l.take (tN l k) ++ List.replicate (k - tN l k) 0 := by
    intro k
    induction k with
    | zero => intro _; simp [tN]
    | succ k ih =>
      intro hk
      have h1 := ih (by omega)
      have hle := tN_le l k
      simp only [tN]
      split
      · rename_i h0
        rw [List.take_succ_eq_append_getElem (by omega), h1, List.append_assoc, show k + 1 - tN l k = (k - tN l k) + 1 by omega, List.replicate_succ']
        congr 2
        rw [List.getD_eq_getElem?_getD, List.getElem?_eq_getElem (by omega)] at h0
        rw [← h0]; rfl
      · simp
  have h := this l.length (Nat.le_refl _)
  rw [List.take_length] at h
  exact ⟨_, h⟩
theorem vb_app (b : Nat) : ∀ (l : List Int) (k : Nat), vb b (l ++ List.replicate k 0) = vb b l
  | [], 0 => rfl
  | [], k + 1 => by
    rw [List.nil_append, List.replicate_succ]
    simp only [vb]
    have := vb_app b [] k
    rw [List.nil_append] at this
    rw [this]; simp [vb]
  | x :: l, k => by simp only [List.cons_append, vb, vb_app b l k]
theorem vb_trm (b : Nat) (l : List Int) : vb b (trm l) = vb b l := by
  obtain ⟨k, hk⟩ := trm_app l
  have := vb_app b (trm l) k
  rw [← hk] at this
  exact this.symm
theorem rng_trm {b : Nat} {l : List Int} (h : rng b l) : rng b (trm l) := fun x hx => h x (List.mem_of_mem_take hx)
theorem trm_digs {b : Nat} (hb : 2 ≤ b) {l : List Int} {n : Nat} (h : rng b l) (hv : vb b l = n) : trm l = digs b n := cano hb (rng_trm h) (tpd_trm l) (by rw [vb_trm, hv])
/-- A number's size in limbs, in the document's digits; its bits. -/
def lm (v : Int) : List Int := digs 18446744073709551616 v.natAbs
def dg (v : Int) : List Int := digs 4294967296 v.natAbs
def lenV (v : Int) : Nat := nbits v.natAbs
theorem lm_u (v : Int) : u64s (lm v) := rng_digs (by decide) _
theorem lm_t (v : Int) : tpd (lm v) := tpd_digs (by decide) _
theorem lm_v (v : Int) : vl (lm v) = v.natAbs := by rw [← vb_vl]; exact vb_digs (by decide) _
theorem dg_r (v : Int) : rng 4294967296 (dg v) := rng_digs (by decide) _
theorem dg_t (v : Int) : tpd (dg v) := tpd_digs (by decide) _
theorem dg_v (v : Int) : vb 4294967296 (dg v) = v.natAbs := vb_digs (by decide) _
theorem lenN_nbits {l : List Int} (h : u64s l) : lenN l = nbits (vl l).toNat := by
  rw [← vl_trm]
  unfold lenN
  split
  · rename_i h0; rw [List.eq_nil_of_length_eq_zero h0]; rfl
  · rename_i h0
    have h1 := len_digs (w := 64) (by decide) (rng_trm (u64_rng h)) (tpd_trm l) (fun e => h0 (by rw [e]; rfl))
    rw [show (2 ^ 64 : Nat) = 18446744073709551616 by decide, vb_vl] at h1
    rw [← h1, bl_nbits 64]
    have := u64s_getD (u64s_trm h) ((trm l).length - 1)
    omega
theorem dig_rng : ∀ {l : List Int}, u64s l → rng 4294967296 (dig l)
  | [], _ => fun x hx => by simp [dig] at hx
  | y :: l, h => fun x hx => by
    have h1 := h y (List.mem_cons_self ..)
    have h2 := dig_rng (l := l) fun z hz => h z (List.mem_cons_of_mem _ hz)
    have e : dig (y :: l) = y % 4294967296 :: y / 4294967296 :: dig l := rfl
    rw [e] at hx
    rcases List.mem_cons.1 hx with rfl | hx
    · show 0 ≤ y % 4294967296 ∧ y % 4294967296 < ((4294967296 : Nat) : Int); omega
    · rcases List.mem_cons.1 hx with rfl | hx
      · show 0 ≤ y / 4294967296 ∧ y / 4294967296 < ((4294967296 : Nat) : Int); omega
      · exact h2 x hx
theorem vb_dig : ∀ l : List Int, vb 4294967296 (dig l) = vl l
  | [] => rfl
  | y :: l => by
    have e : dig (y :: l) = y % 4294967296 :: y / 4294967296 :: dig l := rfl
    rw [e]
    simp only [vb, vl]
    rw [vb_dig l]
    have : Bs = 18446744073709551616 := rfl
    rw [this]
    omega
theorem sv_abs {s : Bool} {l : List Int} (h : u64s l) : ((sv s l).natAbs : Int) = vl l := by
  have := vl_nonneg h
  unfold sv; split <;> omega
theorem raw_res {s : Bool} {l : List Int} {v : Int} (h : u64s l) (hv : sv s l = v) : (s && decide (0 < ((trm l).length : Int))) = decide (v < 0) ∧ trm l = lm v ∧ lenN l = lenV v := by
  have ha := sv_abs (s := s) h
  rw [hv] at ha
  refine ⟨?_, ?_, ?_⟩
  · have h0 := vl_nonneg h
    have hz := trm_zero h
    unfold sv at hv
    cases s
    · simp at hv ⊢; omega
    · simp only [Bool.true_and, if_true] at hv ⊢
      rw [decide_eq_decide]
      constructor
      · intro h1
        have : vl l ≠ 0 := fun e => by have := hz.2 e; omega
        omega
      · intro h1
        have : (trm l).length ≠ 0 := fun e => by have := hz.1 e; omega
        omega
  · exact trm_digs (by decide) (u64_rng h) (by rw [vb_vl, ← ha])
  · rw [lenN_nbits h]; unfold lenV; congr 1; omega
theorem trm_dig {s : Bool} {l : List Int} {v : Int} (h : u64s l) (hv : sv s l = v) : trm (dig l) = dg v :=
  trm_digs (by decide) (dig_rng h) (by have ha := sv_abs (s := s) h; rw [vb_dig, ← ha, hv])
theorem lenD_eq (v : Int) (h : dg v ≠ []) : 32 * ((dg v).length - 1) + nbits ((dg v).getD ((dg v).length - 1) 0).toNat = lenV v := by
  have := len_digs (w := 32) (by decide) (dg_r v) (dg_t v) h
  rw [show (2 ^ 32 : Nat) = 4294967296 by decide, dg_v] at this
  exact this
theorem dg_nil {v : Int} : dg v = [] ↔ v = 0 := by
  constructor
  · intro h; have := dg_v v; rw [h] at this; simp only [vb] at this; omega
  · rintro rfl; exact digs_0
theorem digs_len {b : Nat} (hb : 2 ≤ b) : ∀ (k n : Nat), n < b ^ k → (digs b n).length ≤ k
  | 0, n, h => by
    have : n = 0 := by simpa using h
    subst this; rw [digs_0]; exact Nat.le_refl _
  | k + 1, n, h => by
    by_cases h0 : n = 0
    · subst h0; rw [digs_0]; exact Nat.zero_le _
    · rw [digs_pos hb h0, List.length_cons]
      have := digs_len hb k (n / b) (Nat.div_lt_of_lt_mul (by rw [Nat.mul_comm, ← Nat.pow_succ]; exact h))
      omega
end Go.Proofs.Ytcfdclehmpfkcaa.Vc

/- Memory that is lent: what lies around a list. Bits counted one by one. Plain Lean. -/
namespace Go.Proofs.Ytcfdclehmpfkcaa.Vc
open Go Go.RowKit

def wrapP (l : List Int) : List Int := 10855845 :: 10855845 :: (l ++ [10855845, 10855845])
def lendA (n i : Nat) : List Int := fillI (List.replicate i 10855845) n
def lendB (l : List Int) (i : Nat) : List Int := 10855845 :: 10855845 :: (l.take i ++ List.replicate (l.length + 2 - i) 10855845)
theorem nbits_half {m : Nat} (h : m ≠ 0) : nbits m = 1 + nbits (m / 2) := by
  by_cases h1 : m / 2 = 0
  · have : m = 1 := by omega
    subst this; rfl
  · have := nbits_add (w := 1) (x := m % 2) (m := m / 2) (by have := Nat.mod_lt m (show 0 < 2 by decide); simpa using this) h1
    rw [Nat.pow_one, Nat.mod_add_div] at this
    exact this
theorem dg_top (v : Int) (i : Nat) : 0 ≤ (dg v).getD i 0 ∧ (dg v).getD i 0 < 4294967296 := by
  by_cases hi : i < (dg v).length
  · rw [List.getD_eq_getElem?_getD, List.getElem?_eq_getElem hi]; exact dg_r v _ (List.getElem_mem hi)
  · rw [List.getD_eq_getElem?_getD, List.getElem?_eq_none (by omega)]; exact ⟨by decide, by decide⟩
theorem lenV_le (v : Int) : lenV v ≤ 32 * (dg v).length := by
  by_cases h : dg v = []
  · rw [dg_nil.1 h]; exact Nat.zero_le _
  · have h1 := lenD_eq v h
    have h2 := dg_top v ((dg v).length - 1)
    have h3 : nbits ((dg v).getD ((dg v).length - 1) 0).toNat ≤ 32 := nbits_le.2 (by rw [show (2 ^ 32 : Nat) = 4294967296 by decide]; omega)
    have : 0 < (dg v).length := List.length_pos_iff.2 h
    omega
/-- What an answer has to be: the number, or the error 'too great'. -/
def Res (v : Int) (s : Bool) (r : List Int) (e : Int) : Prop := (lenV v ≤ 67108864 ∧ s = decide (v < 0) ∧ r = lm v ∧ e = 0) ∨ (67108864 < lenV v ∧ s = false ∧ r = [] ∧ e = 3)
theorem lenV_lm {v : Int} (h : lenV v ≤ 67108864) : (lm v).length ≤ 1048576 := by
  have h1 := (raw_res (s := decide (v < 0)) (v := v) (lm_u v) (by unfold sv; rw [lm_v]; by_cases h : v < 0 <;> simp [h] <;> omega)).2
  have := len_bd (lm_u v) (by rw [h1.2]; exact h)
  rwa [h1.1] at this
theorem Res.len {v : Int} {s : Bool} {r : List Int} {e : Int} (h : Res v s r e) : r.length ≤ 1048576 := by
  rcases h with ⟨h1, _, rfl, _⟩ | ⟨_, _, rfl, _⟩
  · exact lenV_lm h1
  · exact Nat.zero_le _
end Go.Proofs.Ytcfdclehmpfkcaa.Vc

/- Answers with their error, on the way. Plain Lean. -/
namespace Go.Proofs.Ytcfdclehmpfkcaa.Vc
open Go Go.RowKit

def ErrN (x : Int) (r : List Int) (e : Int) : Prop := (e = 0 ∧ good r ∧ vl r = x) ∨ (e = 3 ∧ 67108864 < lenV x)
def ResN (v : Int) (s : Bool) (l : List Int) (e : Int) : Prop := (e = 0 ∧ u64s l ∧ l.length < 1099511627776 ∧ sv s l = v) ∨ (e = 3 ∧ 67108864 < lenV v)
theorem lenN_lenV {l : List Int} {x : Int} (u : u64s l) (hv : vl l = x) : lenN l = lenV x := by
  have := vl_nonneg u
  rw [lenN_nbits u, hv]; unfold lenV; congr 1; omega
theorem errN_great {a b r : List Int} (ua : u64s a) (ub : u64s b) (h1 : 0 < lenN a) (h2 : 0 < lenN b) (h3 : 67108864 < lenN a + lenN b - 1) : ErrN (vl a * vl b) r 3 := by
  refine .inr ⟨rfl, ?_⟩
  have ha := vl_nonneg ua
  have hb := vl_nonneg ub
  have ea := lenN_nbits ua
  have eb := lenN_nbits ub
  obtain ⟨x, hx⟩ : ∃ x : Nat, vl a = x := ⟨(vl a).toNat, by omega⟩
  obtain ⟨y, hy⟩ : ∃ y : Nat, vl b = y := ⟨(vl b).toNat, by omega⟩
  rw [hx] at ea
  rw [hy] at eb
  rw [show ((x : Int)).toNat = x from rfl] at ea
  rw [show ((y : Int)).toNat = y from rfl] at eb
  have hx0 : x ≠ 0 := fun e => by rw [e, nbits_0] at ea; omega
  have hy0 : y ≠ 0 := fun e => by rw [e, nbits_0] at eb; omega
  have := nbits_mul hx0 hy0
  rw [hx, hy, ← Int.natCast_mul]
  unfold lenV
  rw [Int.natAbs_natCast]
  omega
theorem dg_lenN {l : List Int} {v : Int} {s : Bool} (u : u64s l) (hv : sv s l = v) : (dg v).length ≤ 2 * l.length := by
  rw [← trm_dig u hv]
  have := trm_len (dig l)
  rw [dig_len] at this
  exact this
end Go.Proofs.Ytcfdclehmpfkcaa.Vc

/- The document's naturals: digits of 32 bits. Plain Lean. -/
namespace Go.Proofs.Ytcfdclehmpfkcaa.Vc
open Go Go.RowKit
namespace D
def r32 (l : List Int) : Prop := ∀ x ∈ l, 0 ≤ x ∧ x < 4294967296
def Bs : Int := 4294967296
def vl : List Int → Int
  | [] => 0
  | x :: l => x + Bs * vl l
def pB : Nat → Int
  | 0 => 1
  | k + 1 => Bs * pB k
theorem pB_pos : ∀ k, 0 < pB k
  | 0 => by decide
  | k + 1 => by simp only [pB]; exact Int.mul_pos (by decide) (pB_pos k)
theorem pB_add : ∀ a b, pB (a + b) = pB a * pB b
  | 0, b => by simp [pB]
  | a + 1, b => by rw [show a + 1 + b = (a + b) + 1 by omega]; simp only [pB]; rw [pB_add a b, Int.mul_assoc]
theorem vl_app : ∀ a b : List Int, vl (a ++ b) = vl a + pB a.length * vl b
  | [], b => by simp [vl, pB]
  | x :: a, b => by
    simp only [List.cons_append, vl, List.length_cons, pB]
    rw [vl_app a b, Int.mul_add, Int.mul_assoc, Int.add_assoc]
theorem vl_nonneg : ∀ {l : List Int}, r32 l → 0 ≤ vl l
  | [], _ => Int.le_refl _
  | x :: l, h => by
    have h1 := (h x (List.mem_cons_self ..)).1
    have h2 := vl_nonneg (l := l) fun y hy => h y (List.mem_cons_of_mem _ hy)
    simp only [vl]
    have := Int.mul_nonneg (show (0 : Int) ≤ Bs by decide) h2
    omega
theorem vl_lt : ∀ {l : List Int}, r32 l → vl l < pB l.length
  | [], _ => by decide
  | x :: l, h => by
    have h1 := (h x (List.mem_cons_self ..)).2
    have h2 := vl_lt (l := l) fun y hy => h y (List.mem_cons_of_mem _ hy)
    simp only [vl, List.length_cons, pB]
    have h3 : vl l + 1 ≤ pB l.length := h2
    have h4 := Int.mul_le_mul_of_nonneg_left h3 (show (0 : Int) ≤ Bs by decide)
    rw [Int.mul_add, Int.mul_one] at h4
    have h5 : x < Bs := h1
    omega
def vk (l : List Int) (k : Nat) : Int := vl (l.take k)
theorem vk_0 (l : List Int) : vk l 0 = 0 := by unfold vk; simp [vl]
theorem vk_all {l : List Int} {k : Nat} (h : l.length ≤ k) : vk l k = vl l := by unfold vk; rw [List.take_of_length_le h]
theorem vk_succ (l : List Int) (k : Nat) : vk l (k + 1) = vk l k + pB k * l.getD k 0 := by
  unfold vk
  by_cases h : k < l.length
  · rw [List.take_succ_eq_append_getElem h, vl_app, List.length_take, Nat.min_eq_left (by omega), List.getD_eq_getElem?_getD, List.getElem?_eq_getElem h]
    simp [vl]
  · rw [List.take_of_length_le (by omega), List.take_of_length_le (by omega), getD_ge (by omega)]
    simp
theorem vl_set : ∀ (l : List Int) (j : Nat) (v : Int), j < l.length → vl (l.set j v) = vl l + pB j * (v - l.getD j 0)
  | [], j, v, h => by simp at h
  | x :: l, 0, v, _ => by
    have e : (x :: l).getD 0 0 = x := rfl
    simp only [List.set_cons_zero, vl, pB, e]; omega
  | x :: l, j + 1, v, h => by
    have ih := vl_set l j v (by simpa using h)
    have e : (x :: l).getD (j + 1) 0 = l.getD j 0 := rfl
    simp only [List.set_cons_succ, vl, pB, e]
    rw [ih, Int.mul_add, Int.mul_assoc]; omega
theorem school_in {o o2 b : List Int} {i k : Nat} {c c2 x t s : Int} (hj : i + k < o.length) (ho2 : o2 = o.set (i + k) s) (ht : o.getD (i + k) 0 = t) {V : Int}
    (hv : vl o + c * pB (i + k) = V + x * pB i * vk b k) (hs : s + 4294967296 * c2 = t + x * b.getD k 0 + c) : vl o2 + c2 * pB (i + (k + 1)) = V + x * pB i * vk b (k + 1) := by
  subst ho2
  rw [vl_set _ _ _ hj, ht, vk_succ, show i + (k + 1) = (i + k) + 1 by omega]
  simp only [pB]
  have hB : Bs = 4294967296 := rfl
  have e1 : c2 * (Bs * pB (i + k)) = pB (i + k) * (4294967296 * c2) := by rw [hB, ← Int.mul_assoc, Int.mul_comm (c2 * 4294967296), Int.mul_comm c2]
  have e2 : x * pB i * (vk b k + pB k * b.getD k 0) = x * pB i * vk b k + pB (i + k) * (x * b.getD k 0) := by
    rw [Int.mul_add, pB_add]
    congr 1
    rw [Int.mul_assoc, Int.mul_left_comm (pB i * pB k), Int.mul_assoc (pB i)]
  have e3 : pB (i + k) * (s - t) + pB (i + k) * (4294967296 * c2) = pB (i + k) * (x * b.getD k 0) + pB (i + k) * c := by
    rw [← Int.mul_add, ← Int.mul_add]; congr 1; omega
  rw [e1, e2]
  have e4 : c * pB (i + k) = pB (i + k) * c := Int.mul_comm _ _
  omega
theorem school_row {o o2 a b : List Int} {i : Nat} {c : Int} (hj : i + b.length < o.length) (h0 : o.getD (i + b.length) 0 = 0) (ho2 : o2 = o.set (i + b.length) c)
    (hv : vl o + c * pB (i + b.length) = vk a i * vl b + a.getD i 0 * pB i * vk b b.length) : vl o2 = vk a (i + 1) * vl b := by
  subst ho2
  rw [vl_set _ _ _ hj, h0, vk_succ, Int.add_mul]
  rw [vk_all (Nat.le_refl _)] at hv
  have e : pB i * a.getD i 0 * vl b = a.getD i 0 * pB i * vl b := by rw [Int.mul_comm (pB i)]
  have e4 : c * pB (i + b.length) = pB (i + b.length) * c := Int.mul_comm _ _
  rw [e, Int.sub_zero]
  omega
end D
theorem rng_getD {b : Nat} (hb : 0 < b) {l : List Int} (h : rng b l) (i : Nat) : 0 ≤ l.getD i 0 ∧ l.getD i 0 < (b : Int) := by
  by_cases hi : i < l.length
  · rw [List.getD_eq_getElem?_getD, List.getElem?_eq_getElem hi]; exact h _ (List.getElem_mem hi)
  · rw [List.getD_eq_getElem?_getD, List.getElem?_eq_none (by omega)]; exact ⟨Int.le_refl _, by show (0 : Int) < b; omega⟩
abbrev B32 : Nat := 4294967296
def dgt (z j : Nat) : Int := ((z / B32 ^ j % B32 : Nat) : Int)
def dvl (z m : Nat) : List Int := (List.range m).map (dgt z)
/-- The carry into a digit of a sum. -/
def cry (x y i : Nat) : Nat := (x % B32 ^ i + y % B32 ^ i) / B32 ^ i
/-- The borrow into a digit of a difference. -/
def brw (x y i : Nat) : Nat := if x % B32 ^ i < y % B32 ^ i then 1 else 0
end Go.Proofs.Ytcfdclehmpfkcaa.Vc

/- The document's numbers with a sign. Plain Lean. -/
namespace Go.Proofs.Ytcfdclehmpfkcaa.Vc
open Go Go.RowKit
def zs (s : Bool) (n : Nat) : Int := if s = true then -(n : Int) else n
theorem cmp_le {x y : Nat} (hc : 0 ≤ cmpI (x : Int) y) : y ≤ x := by
  rcases Nat.lt_or_ge x y with h1 | h1
  · have : cmpI (x : Int) y = -1 := if_pos (by omega)
    omega
  · exact h1
end Go.Proofs.Ytcfdclehmpfkcaa.Vc

/- What is fixed about the types: sizes, parts, zeros. -/
namespace Go.Proofs.Ytcfdclehmpfkcaa.Vc
open Go Go.RowKit
theorem mixed : Try.prog.follows .mixedOrders = true := by kernel_rfl
theorem sl28 : slB Try.prog 24 90 1 = true := by kernel_rfl
theorem one82 : oneB Try.prog 90 = true := by kernel_rfl
theorem undS28 : Try.prog.underlying 24 = some (.slice 90) := by kernel_rfl
theorem el28 : elP Try.prog 24 90 1 8 (.int .u64 0) := elP_of undS28 (by kernel_rfl) rfl (by decide)
theorem und9 : Try.prog.underlying 9 = some .string := by kernel_rfl
theorem und82 : Try.prog.underlying 90 = some (.int .u64) := by kernel_rfl
theorem und5 : Try.prog.underlying 5 = some (.int .u8) := by kernel_rfl
theorem und3 : Try.prog.underlying 3 = some (.int .i64) := by kernel_rfl
theorem sl33 : slB Try.prog 28 90 1 = true := by kernel_rfl
theorem sl25 : slB Try.prog 23 90 1 = true := by kernel_rfl
theorem undS33 : Try.prog.underlying 28 = some (.slice 90) := by kernel_rfl
theorem el33 : elP Try.prog 28 90 1 8 (.int .u64 0) := elP_of undS33 (by kernel_rfl) rfl (by decide)
theorem one4 : oneB Try.prog 4 = true := by kernel_rfl
theorem zero30 : ((Try.prog.info? 66).bind (·.zero)).map (·.cells.toList) = some [(.bool false), (.slice none 0 0)] := by kernel_rfl
theorem fld30_1 : fldB Try.prog 66 1 1 1 = true := by kernel_rfl
theorem one28 : oneB Try.prog 24 = true := by kernel_rfl
theorem fld30_0 : fldB Try.prog 66 0 0 1 = true := by kernel_rfl
theorem pls30_0_1 : plsB Try.prog 66 [0, 1] [(0, 1), (1, 1)] = true := by kernel_rfl
theorem siz82m : (Try.prog.info? 90).map (·.size) = some 1 := by kernel_rfl
theorem one25 : oneB Try.prog 23 = true := by kernel_rfl
end Go.Proofs.Ytcfdclehmpfkcaa.Vc

/- More that is fixed about the types. -/
namespace Go.Proofs.Ytcfdclehmpfkcaa.Vc
open Go Go.RowKit
theorem sl81 : slB Try.prog 103 23 1 = true := by kernel_rfl
end Go.Proofs.Ytcfdclehmpfkcaa.Vc

/- Still more that is fixed about the types. -/
namespace Go.Proofs.Ytcfdclehmpfkcaa.Vc
open Go Go.RowKit
theorem und116 : Try.prog.underlying 57 = some (.int .u64) := by kernel_rfl
end Go.Proofs.Ytcfdclehmpfkcaa.Vc

/- What is fixed about the types: Tq. -/
namespace Go.Proofs.Ytcfdclehmpfkcaa.Vc
open Go Go.RowKit
theorem undS81 : Try.prog.underlying 103 = some (.slice 23) := by kernel_rfl
theorem el81 : elP Try.prog 103 23 1 24 (.slice none 0 0) := elP_of undS81 (by kernel_rfl) rfl (by decide)
end Go.Proofs.Ytcfdclehmpfkcaa.Vc

/- What is fixed about the types: Tr. -/
namespace Go.Proofs.Ytcfdclehmpfkcaa.Vc
open Go Go.RowKit
theorem undS1039 : Try.prog.underlying 39 = some (.slice 3) := by kernel_rfl
theorem el1039 : elP Try.prog 39 3 1 8 (.int .i64 0) := elP_of undS1039 (by kernel_rfl) rfl (by decide)
theorem sl1039 : slB Try.prog 39 3 1 = true := by kernel_rfl
theorem one3 : oneB Try.prog 3 = true := by kernel_rfl
theorem one1146 : oneB Try.prog 146 = true := by kernel_rfl
theorem sl1146 : slB Try.prog 146 24 1 = true := by kernel_rfl
theorem one1106 : oneB Try.prog 106 = true := by kernel_rfl
theorem undS1146 : Try.prog.underlying 146 = some (.slice 24) := by kernel_rfl
theorem el1146 : elP Try.prog 146 24 1 24 (.slice none 0 0) := elP_of undS1146 (by kernel_rfl) rfl (by decide)
theorem zero1146 : ((Try.prog.info? 146).bind (·.zero)).map (·.cells.toList) = some [(.slice none 0 0)] := by kernel_rfl
theorem siz1146 : (Try.prog.info? 146).any (·.size == 1) = true := by kernel_rfl
theorem zero1106 : ((Try.prog.info? 106).bind (·.zero)).map (·.cells.toList) = some [.nilFunc] := by kernel_rfl
theorem siz1106 : (Try.prog.info? 106).any (·.size == 1) = true := by kernel_rfl
theorem undS1104 : Try.prog.underlying 104 = some (.slice 5) := by kernel_rfl
theorem el1104 : elP Try.prog 104 5 1 1 (.int .u8 0) := elP_of undS1104 (by kernel_rfl) rfl (by decide)
theorem sl1104 : slB Try.prog 104 5 1 = true := by kernel_rfl
theorem one5 : oneB Try.prog 5 = true := by kernel_rfl
theorem zero1138 : ((Try.prog.info? 138).bind (·.zero)).map (·.cells.toList) = some [(.map none)] := by kernel_rfl
theorem siz1138 : (Try.prog.info? 138).any (·.size == 1) = true := by kernel_rfl
theorem zero1139 : ((Try.prog.info? 139).bind (·.zero)).map (·.cells.toList) = some [.nilFunc] := by kernel_rfl
theorem siz1139 : (Try.prog.info? 139).any (·.size == 1) = true := by kernel_rfl
theorem zero1143 : ((Try.prog.info? 143).bind (·.zero)).map (·.cells.toList) = some [.nilFunc] := by kernel_rfl
theorem siz1143 : (Try.prog.info? 143).any (·.size == 1) = true := by kernel_rfl
theorem one1143 : oneB Try.prog 143 = true := by kernel_rfl
theorem one1138 : oneB Try.prog 138 = true := by kernel_rfl
theorem undm1138 : Try.prog.underlying 138 = some (.map 3 24) := by kernel_rfl
theorem undki3 : Try.prog.underlying 3 = some (.int .i64) := by kernel_rfl
theorem zv28 : (Try.prog.info? 24).bind (·.zero) = some (.slice none 0 0) := by kernel_rfl
theorem one1139 : oneB Try.prog 139 = true := by kernel_rfl
end Go.Proofs.Ytcfdclehmpfkcaa.Vc

/- Rows that are written over, and grow: how the objects look on the way. -/
namespace Go.Proofs.Ytcfdclehmpfkcaa.Vc
open Go Go.RowKit
def rowsJ (n : Nat) (L : Ob) (f : Nat → Ob) (J : List Ob) : List Ob := L :: ((List.range n).map f ++ J)
def upd (f : Nat → Ob) (i : Nat) (o : Ob) : Nat → Ob := fun j => if j = i then o else f j
section
variable {n : Nat} {L : Ob} {f : Nat → Ob} {J : List Ob}
end
def owC (j : Nat) : Int := ((j % 251 + 1 : Nat) : Int)
def owB (j : Nat) : List Int := [((300 + 5 * j : Nat) : Int), ((300 + 5 * j + 1 : Nat) : Int), ((300 + 5 * j + 2 : Nat) : Int), ((300 + 5 * j + 3 : Nat) : Int), ((300 + 5 * j + 4 : Nat) : Int)]
def owL (n : Nat) (rs : Nat → List Int) (i : Nat) : Ob := ⟨23, 1, 0, true, (List.range n).map fun j => if j < i then .o (j + 1) 1 0 ((rs j).length + 5) else .o (j + 1) 0 0 (rs j).length⟩
def owL0 (n : Nat) (rs : Nat → List Int) : Ob := ⟨23, 1, 0, true, (List.range n).map fun j => .o (j + 1) 0 0 (rs j).length⟩
def owR (rs : Nat → List Int) (j : Nat) : Ob := ⟨90, 1, 0, true, ints .u64 (rs j)⟩
def owF (rs : Nat → List Int) (i j : Nat) : Ob := ⟨90, 1, 0, true, ints .u64 (if j < i then List.replicate (rs j).length (owC j) else rs j)⟩
def owK (rs : Nat → List Int) (i k : Nat) : Ob := ⟨90, 1, 0, true, ints .u64 (List.replicate k (owC i) ++ (rs i).drop k)⟩
def owE (rs : Nat → List Int) (j : Nat) : Ob := ⟨90, 1, 1, true, ints .u64 (List.replicate (rs j).length (owC j) ++ owB j)⟩
def owG (rs : Nat → List Int) (i j : Nat) : Ob := if j < i then owE rs j else ⟨90, 1, 0, true, ints .u64 (List.replicate (rs j).length (owC j))⟩
section
variable {n : Nat} {rs : Nat → List Int} {J : List Ob}
end
end Go.Proofs.Ytcfdclehmpfkcaa.Vc

/- How long the document's numbers are; rows for Own. Plain Lean. -/
namespace Go.Proofs.Ytcfdclehmpfkcaa.Vc
open Go Go.RowKit
section
variable {n : Nat} {rs : Nat → List Int}
end
def rsOf (l : List (List Int)) (j : Nat) : List Int := l.getD j []
end Go.Proofs.Ytcfdclehmpfkcaa.Vc

/- Bits of the document's numbers; ints. Plain Lean. -/
namespace Go.Proofs.Ytcfdclehmpfkcaa.Vc
open Go Go.RowKit
/-- The noughts at the end. -/
def Tz (x t : Nat) : Prop := 2 ^ t ∣ x ∧ x / 2 ^ t % 2 = 1
def inI (v : Int) : Prop := -9223372036854775808 ≤ v ∧ v < 9223372036854775808
instance (v : Int) : Decidable (inI v) := by unfold inI; infer_instance
theorem len64 {v : Int} : lenV v ≤ 64 ↔ v.natAbs < 18446744073709551616 := by
  unfold lenV
  rw [nbits_le]
def fl (v : Int) : List Int := if v = 0 then [] else [v]
theorem lm_small {v : Int} (h : v.natAbs < 18446744073709551616) : lm v = fl ((v.natAbs : Nat) : Int) := by
  unfold lm fl
  by_cases h0 : v.natAbs = 0
  · rw [h0, digs_0]; rfl
  · rw [digs_pos (by decide) h0, Nat.mod_eq_of_lt h, Nat.div_eq_of_lt h, digs_0, if_neg (by omega)]
end Go.Proofs.Ytcfdclehmpfkcaa.Vc

/- Division of limbs and of naturals by Knuth's way, in plain Lean. -/
namespace Go.Proofs.Ytcfdclehmpfkcaa.Vc
open Go Go.RowKit

theorem p2pos (s : Nat) : (0 : Int) < 2 ^ s := Int.pow_pos (by decide)
theorem p2split {s : Nat} (h : s ≤ 64) : (2 : Int) ^ (64 - s) * 2 ^ s = 18446744073709551616 := by
  rw [← Int.pow_add, show 64 - s + s = 64 by omega]; rfl
theorem p2succ {s : Nat} (h : s < 64) : (2 : Int) * 2 ^ (63 - s) = 2 ^ (64 - s) := by
  rw [show 64 - s = (63 - s) + 1 by omega, Int.pow_succ, Int.mul_comm]
theorem p2le {s : Nat} (h : s < 64) : (2 : Int) ^ s ≤ 9223372036854775808 := by
  have h1 : (2 : Nat) ^ s ≤ 2 ^ 63 := Nat.pow_le_pow_right (by decide) (by omega)
  have h2 : ((2 ^ s : Nat) : Int) ≤ ((2 ^ 63 : Nat) : Int) := Int.ofNat_le.2 h1
  rw [Int.natCast_pow] at h2
  simpa using h2
theorem sh_min {s : Nat} (h : s ≤ 64) : min ((s : Int)).toNat 64 = s := by omega
theorem shr_sym {x : Int} {s : Nat} (h : s ≤ 64) : x.fdiv (2 ^ min ((s : Int)).toNat 64) = x / 2 ^ s := by
  rw [sh_min h]; exact Int.fdiv_eq_ediv_of_nonneg _ (Int.le_of_lt (p2pos s))
theorem shl_sym {x : Int} {s : Nat} (h : s ≤ 64) : IntKind.u64.wrap (x * 2 ^ min ((s : Int)).toNat 64) = x * 2 ^ s % 18446744073709551616 := by
  rw [sh_min h]; exact u64_wrap_mod
/-- The low and the high part of a limb that is shifted to the left. -/
def loS (x : Int) (s : Nat) : Int := x * 2 ^ s % 18446744073709551616
def hiS (x : Int) (s : Nat) : Int := x / 2 ^ (64 - s)
theorem loS_eq {x : Int} {s : Nat} (h : s ≤ 64) : loS x s = 2 ^ s * (x % 2 ^ (64 - s)) := by
  unfold loS
  rw [← p2split h, Int.mul_comm x, Int.mul_comm (2 ^ (64 - s)) (2 ^ s), Int.mul_emod_mul_of_pos _ _ (p2pos s)]
theorem lohi {x : Int} {s : Nat} (h : s ≤ 64) : x * 2 ^ s = 18446744073709551616 * hiS x s + loS x s := by
  rw [loS_eq h, ← p2split h]
  unfold hiS
  have e := Int.emod_add_mul_ediv x (2 ^ (64 - s))
  generalize hk : x / 2 ^ (64 - s) = k at e ⊢
  generalize hr : x % 2 ^ (64 - s) = r at e ⊢
  rw [← e, Int.add_mul, Int.mul_comm r]
  rw [Int.mul_right_comm]
  omega
theorem hiS_bd {x : Int} {s : Nat} (h : s ≤ 64) (h0 : 0 ≤ x) (h1 : x < 18446744073709551616) : 0 ≤ hiS x s ∧ hiS x s < 2 ^ s := by
  unfold hiS
  refine ⟨Int.ediv_nonneg h0 (Int.le_of_lt (p2pos _)), ?_⟩
  refine Int.ediv_lt_of_lt_mul (p2pos _) ?_
  rw [Int.mul_comm, p2split h]; exact h1
theorem loS_bd {x : Int} {s : Nat} : 0 ≤ loS x s ∧ loS x s < 18446744073709551616 := by unfold loS; omega
theorem shr_two {x : Int} {s : Nat} (h : s < 64) : x / 2 / 2 ^ (63 - s) = hiS x s := by
  unfold hiS; rw [Int.ediv_ediv_of_nonneg (by decide), p2succ h]
theorem shl_two {x : Int} {s : Nat} (h : s < 64) : x * 2 % 18446744073709551616 * 2 ^ (63 - s) % 18446744073709551616 = loS x (64 - s) := by
  unfold loS
  rw [Int.mul_emod, Int.emod_emod, ← Int.mul_emod, Int.mul_assoc, p2succ h]
theorem or_add {x y : Int} {k : Nat} (hx0 : 0 ≤ x) (hx : x < 2 ^ k) (hy0 : 0 ≤ y) (hy : 2 ^ k * y < 18446744073709551616) (hk : k ≤ 64) : bitop .or .u64 x (2 ^ k * y) = x + 2 ^ k * y := by
  obtain ⟨m, rfl⟩ := Int.eq_ofNat_of_zero_le hx0
  obtain ⟨n, rfl⟩ := Int.eq_ofNat_of_zero_le hy0
  have hp : ((2 ^ k : Nat) : Int) = (2 : Int) ^ k := by rw [Int.natCast_pow]; rfl
  rw [← hp] at hx hy ⊢
  rw [← Int.natCast_mul] at hy ⊢
  have hm : m < 2 ^ k := Int.ofNat_lt.1 hx
  have hn : 2 ^ k * n < 18446744073709551616 := by omega
  have hm2 : m < 18446744073709551616 := Nat.lt_of_lt_of_le hm (Nat.pow_le_pow_right (by decide) hk)
  unfold bitop
  simp only [IntKind.bits]
  have e1 : (BitVec.ofInt 64 (m : Int)).toNat = m := by rw [BitVec.toNat_ofInt]; simp; omega
  have e2 : (BitVec.ofInt 64 ((2 ^ k * n : Nat) : Int)).toNat = 2 ^ k * n := by
    generalize 2 ^ k * n = t at hn
    rw [BitVec.toNat_ofInt]; simp; omega
  have e3 : (BitVec.ofInt 64 (m : Int) ||| BitVec.ofInt 64 ((2 ^ k * n : Nat) : Int)).toNat = m + 2 ^ k * n := by
    rw [BitVec.toNat_or, e1, e2, Nat.or_comm, ← Nat.two_pow_add_eq_or_of_lt hm, Nat.add_comm]
  show IntKind.u64.wrap (((BitVec.ofInt 64 (m : Int) ||| BitVec.ofInt 64 ((2 ^ k * n : Nat) : Int)).toNat : Nat) : Int) = _
  rw [e3]
  have hs : m + 2 ^ k * n < 18446744073709551616 := by
    have := (BitVec.ofInt 64 (m : Int) ||| BitVec.ofInt 64 ((2 ^ k * n : Nat) : Int)).isLt
    rw [e3] at this; simpa using this
  generalize 2 ^ k * n = t at hs ⊢
  rw [wrap_u64 (by omega) (by omega)]
  omega
theorem or_lo {c x : Int} {s : Nat} (h : s ≤ 64) (hc0 : 0 ≤ c) (hc : c < 2 ^ s) (hx0 : 0 ≤ x) : bitop .or .u64 c (loS x s) = c + loS x s ∧ c + loS x s < 18446744073709551616 := by
  have hb := @loS_bd x s
  rw [loS_eq h] at hb ⊢
  have hx : 0 ≤ x % 2 ^ (64 - s) := Int.emod_nonneg _ (Int.ne_of_gt (p2pos _))
  have hx2 : x % 2 ^ (64 - s) < 2 ^ (64 - s) := Int.emod_lt_of_pos _ (p2pos _)
  refine ⟨or_add hc0 hc hx hb.2 h, ?_⟩
  have e := p2split h
  have h3 : 2 ^ s * (x % 2 ^ (64 - s)) ≤ 2 ^ s * (2 ^ (64 - s) - 1) := Int.mul_le_mul_of_nonneg_left (by omega) (Int.le_of_lt (p2pos s))
  rw [Int.mul_sub, Int.mul_comm (2 ^ s) (2 ^ (64 - s)), e] at h3
  omega
/-- A number shifted to the left by less than a limb. -/
def upN (a : List Int) (s : Nat) : Nat → List Int × Int
  | 0 => ([], 0)
  | i + 1 => ((upN a s i).1 ++ [(upN a s i).2 + loS (a.getD i 0) s], hiS (a.getD i 0) s)
theorem upN_len (a : List Int) (s : Nat) : ∀ i, (upN a s i).1.length = i
  | 0 => rfl
  | i + 1 => by simp [upN, upN_len a s i]
theorem upN_c {a : List Int} {s : Nat} (hs : s ≤ 64) (ha : u64s a) : ∀ i, 0 ≤ (upN a s i).2 ∧ (upN a s i).2 < 2 ^ s
  | 0 => ⟨Int.le_refl 0, p2pos s⟩
  | i + 1 => hiS_bd hs (u64s_getD ha i).1 (u64s_getD ha i).2
theorem upN_u {a : List Int} {s : Nat} (hs : s ≤ 64) (ha : u64s a) : ∀ i, u64s (upN a s i).1
  | 0 => fun x hx => by simp [upN] at hx
  | i + 1 => by
    have hc := upN_c hs ha i
    have hl := @loS_bd (a.getD i 0) s
    exact u64s_app1 (upN_u hs ha i) (by omega) (or_lo hs hc.1 hc.2 (u64s_getD ha i).1).2
theorem upN_val {a : List Int} {s : Nat} (hs : s ≤ 64) : ∀ i, vl (upN a s i).1 + pB i * (upN a s i).2 = vk a i * 2 ^ s
  | 0 => by rw [vk_0]; simp [upN, vl]
  | i + 1 => by
    have h := upN_val (a := a) hs i
    have e := lohi (x := a.getD i 0) hs
    rw [vk_succ, Int.add_mul, ← h]
    simp only [upN]
    rw [vl_app, upN_len, Int.mul_assoc (pB i) (a.getD i 0), e]
    simp only [vl, pB]
    have hB : Bs = 18446744073709551616 := rfl
    rw [hB]
    generalize (upN a s i).2 = c
    generalize loS (a.getD i 0) s = lo
    generalize hiS (a.getD i 0) s = hi
    generalize pB i = p
    have e1 : p * (18446744073709551616 * hi + lo) = 18446744073709551616 * p * hi + p * lo := by rw [Int.mul_add, ← Int.mul_assoc, Int.mul_comm p]
    have e2 : p * (c + lo + 18446744073709551616 * 0) = p * c + p * lo := by rw [Int.mul_zero, Int.add_zero, Int.mul_add]
    rw [e1, e2]
    omega
def upL (a : List Int) (s : Nat) : List Int := (upN a s a.length).1 ++ [(upN a s a.length).2]
theorem upL_len (a : List Int) (s : Nat) : (upL a s).length = a.length + 1 := by simp [upL, upN_len]
theorem upL_u {a : List Int} {s : Nat} (hs : s < 64) (ha : u64s a) : u64s (upL a s) := by
  have hc := upN_c (Nat.le_of_lt hs) ha a.length
  have := p2le hs
  exact u64s_app1 (upN_u (Nat.le_of_lt hs) ha _) hc.1 (by omega)
theorem upL_val {a : List Int} {s : Nat} (hs : s ≤ 64) : vl (upL a s) = vl a * 2 ^ s := by
  unfold upL
  rw [vl_app, upN_len]
  have h := upN_val (a := a) hs a.length
  rw [vk_all (Nat.le_refl _)] at h
  rw [← h]; simp [vl]
theorem set_mid2 {l : List Int} {c v : Int} {n : Nat} : (fillI (l ++ [c]) n).set ((0 + l.length) * 1) v = fillI (l ++ [v]) n := by
  rw [Nat.zero_add, Nat.mul_one]
  unfold fillI
  rw [List.append_assoc, List.append_assoc, List.set_append_right _ _ (Nat.le_refl _), Nat.sub_self]
  simp
theorem get_mid2 {l : List Int} {c : Int} {n : Nat} : (fillI (l ++ [c]) n).getD ((0 + l.length) * 1) 0 = c := by
  rw [Nat.zero_add, Nat.mul_one]
  unfold fillI
  rw [List.append_assoc, List.getD_eq_getElem?_getD, List.getElem?_append_right (Nat.le_refl _), Nat.sub_self]
  simp
/-- The row that nat up fills. -/
def upR (a : List Int) (s i : Nat) : List Int := fillI ((upN a s i).1 ++ [(upN a s i).2]) (a.length + 1)
theorem upR_len {a : List Int} {s i : Nat} (h : i ≤ a.length) : (upR a s i).length = a.length + 1 := fillI_len (by simp [upN_len]; omega)
theorem upR_0 {a : List Int} {s : Nat} : List.replicate (a.length + 1) (0 : Int) = upR a s 0 := by
  unfold upR fillI; simp [upN, List.replicate_succ]
theorem upR_get {a : List Int} {s i : Nat} : (upR a s i).getD ((0 + i) * 1) 0 = (upN a s i).2 := by
  have h := @get_mid2 (upN a s i).1 (upN a s i).2 (a.length + 1)
  rw [upN_len] at h; exact h
theorem upR_set {a : List Int} {s i : Nat} (h : i < a.length) : ((upR a s i).set ((0 + i) * 1) ((upN a s i).2 + loS (a.getD i 0) s)).set ((0 + (i + 1)) * 1) (hiS (a.getD i 0) s) = upR a s (i + 1) := by
  have h1 := @set_mid2 (upN a s i).1 (upN a s i).2 ((upN a s i).2 + loS (a.getD i 0) s) (a.length + 1)
  rw [upN_len] at h1
  unfold upR
  rw [h1]
  have hl : (upN a s (i + 1)).1.length = i + 1 := upN_len a s (i + 1)
  have h2 := @fillI_set (upN a s (i + 1)).1 (a.length + 1) (hiS (a.getD i 0) s) (by omega)
  rw [hl] at h2
  rw [Nat.zero_add, Nat.mul_one]
  exact h2
theorem upR_end {a : List Int} {s : Nat} : upR a s a.length = upL a s := fillI_full (by simp [upN_len])
/-- A number shifted back. -/
def dnD (a : List Int) (s i : Nat) : Int := a.getD i 0 / 2 ^ s + loS (a.getD (i + 1) 0) (64 - s)
def dnN (a : List Int) (s : Nat) : Nat → List Int
  | 0 => []
  | i + 1 => dnN a s i ++ [dnD a s i]
theorem dnN_len (a : List Int) (s : Nat) : ∀ i, (dnN a s i).length = i
  | 0 => rfl
  | i + 1 => by simp [dnN, dnN_len a s i]
theorem sr_bd {x : Int} {s : Nat} (h : s ≤ 64) (h0 : 0 ≤ x) (h1 : x < 18446744073709551616) : 0 ≤ x / 2 ^ s ∧ x / 2 ^ s < 2 ^ (64 - s) := by
  have := hiS_bd (x := x) (s := 64 - s) (by omega) h0 h1
  unfold hiS at this
  rwa [show 64 - (64 - s) = s by omega] at this
theorem dn_or {x y : Int} {s : Nat} (h : s ≤ 64) (h0 : 0 ≤ x) (h1 : x < 18446744073709551616) (hy : 0 ≤ y) : bitop .or .u64 (x / 2 ^ s) (loS y (64 - s)) = x / 2 ^ s + loS y (64 - s) ∧ x / 2 ^ s + loS y (64 - s) < 18446744073709551616 := by
  have hb := sr_bd h h0 h1
  exact or_lo (by omega) hb.1 hb.2 hy
theorem dnD_bd {a : List Int} {s i : Nat} (h : s ≤ 64) (ha : u64s a) : 0 ≤ dnD a s i ∧ dnD a s i < 18446744073709551616 := by
  have hx := u64s_getD ha i
  have hb := sr_bd h hx.1 hx.2
  have hl := @loS_bd (a.getD (i + 1) 0) (64 - s)
  exact ⟨by unfold dnD; omega, (dn_or h hx.1 hx.2 (u64s_getD ha (i + 1)).1).2⟩
theorem dnN_u {a : List Int} {s : Nat} (hs : s ≤ 64) (ha : u64s a) : ∀ i, u64s (dnN a s i)
  | 0 => fun x hx => by simp [dnN] at hx
  | i + 1 => u64s_app1 (dnN_u hs ha i) (dnD_bd hs ha).1 (dnD_bd hs ha).2
theorem dnD_val {a : List Int} {s i : Nat} (hs : s ≤ 64) : 2 ^ s * dnD a s i = a.getD i 0 - a.getD i 0 % 2 ^ s + 18446744073709551616 * (a.getD (i + 1) 0 % 2 ^ s) := by
  unfold dnD
  rw [loS_eq (show 64 - s ≤ 64 by omega), show 64 - (64 - s) = s by omega]
  have e := Int.emod_add_mul_ediv (a.getD i 0) (2 ^ s)
  rw [Int.mul_add, ← Int.mul_assoc, Int.mul_comm (2 ^ s) (2 ^ (64 - s)), p2split hs]
  omega
theorem dnN_val {a : List Int} {s : Nat} (hs : s ≤ 64) : ∀ i, 2 ^ s * vl (dnN a s i) = vk a i - a.getD 0 0 % 2 ^ s + pB i * (a.getD i 0 % 2 ^ s)
  | 0 => by rw [vk_0]; simp [dnN, vl, pB]; omega
  | i + 1 => by
    have h := dnN_val (a := a) hs i
    have e := dnD_val (a := a) (i := i) hs
    rw [vk_succ]
    simp only [dnN]
    rw [vl_app, dnN_len, Int.mul_add, h, Int.mul_left_comm]
    have : vl [dnD a s i] = dnD a s i := by simp [vl]
    rw [this, e, Int.mul_add, Int.mul_sub]
    simp only [pB]
    have hB : Bs = 18446744073709551616 := rfl
    rw [hB, ← Int.mul_assoc (pB i), Int.mul_comm (pB i) 18446744073709551616]
    omega
theorem low_mod {a : List Int} {s : Nat} (hs : s ≤ 64) {x : Int} (h : vl a = 2 ^ s * x) : a.getD 0 0 % 2 ^ s = 0 := by
  cases a with
  | nil => simp
  | cons y l =>
    simp only [vl] at h
    show y % 2 ^ s = 0
    have hB : Bs = 2 ^ s * 2 ^ (64 - s) := by rw [Int.mul_comm, p2split hs]; rfl
    rw [hB, Int.mul_assoc] at h
    have : y = 2 ^ s * (x - 2 ^ (64 - s) * vl l) := by rw [Int.mul_sub]; omega
    rw [this, Int.mul_emod_right]
theorem dn_end {a : List Int} {s : Nat} (hs : s ≤ 64) {x : Int} (h : vl a = 2 ^ s * x) : vl (dnN a s a.length) = x := by
  have h1 := dnN_val (a := a) hs a.length
  rw [low_mod hs h, vk_all (Nat.le_refl _), getD_ge (Nat.le_refl _), Int.zero_emod, Int.mul_zero, h] at h1
  exact Int.eq_of_mul_eq_mul_left (Int.ne_of_gt (p2pos s)) (by omega)
end Go.Proofs.Ytcfdclehmpfkcaa.Vc

/- One limb of a quotient, by Knuth's way, in plain Lean. -/
namespace Go.Proofs.Ytcfdclehmpfkcaa.Vc
open Go Go.RowKit

/-- A row from j on written over by l. -/
def rwJ (U : List Int) (j : Nat) (l : List Int) : List Int := U.take j ++ (l ++ U.drop (j + l.length))
theorem rwJ_0 {U : List Int} {j : Nat} : rwJ U j [] = U := by unfold rwJ; simp
theorem rwJ_len {U : List Int} {j : Nat} {l : List Int} (h : j + l.length ≤ U.length) : (rwJ U j l).length = U.length := by
  unfold rwJ; simp only [List.length_append, List.length_take, List.length_drop]; omega
theorem rwJ_at {U : List Int} {j k : Nat} {l : List Int} (h : l.length ≤ k) (hU : j + l.length ≤ U.length) : (rwJ U j l).getD ((j + k) * 1) 0 = U.getD (j + k) 0 := by
  unfold rwJ
  rw [Nat.mul_one, List.getD_eq_getElem?_getD, List.getElem?_append_right (by rw [List.length_take]; omega), List.length_take, Nat.min_eq_left (by omega), List.getElem?_append_right (by omega), List.getElem?_drop, List.getD_eq_getElem?_getD]
  congr 2; omega
theorem rwJ_in {U : List Int} {j k : Nat} {l : List Int} (h : k < l.length) (hU : j + l.length ≤ U.length) : (rwJ U j l).getD ((j + k) * 1) 0 = l.getD k 0 := by
  unfold rwJ
  rw [Nat.mul_one, List.getD_eq_getElem?_getD, List.getElem?_append_right (by rw [List.length_take]; omega), List.length_take, Nat.min_eq_left (by omega), List.getElem?_append_left (by omega), List.getD_eq_getElem?_getD]
  congr 2; omega
theorem rwJ_set {U : List Int} {j : Nat} {l : List Int} {v : Int} (hU : j + l.length < U.length) : (rwJ U j l).set ((j + l.length) * 1) v = rwJ U j (l ++ [v]) := by
  unfold rwJ
  rw [Nat.mul_one, List.set_append_right _ _ (by rw [List.length_take]; omega), List.length_take, Nat.min_eq_left (by omega), List.set_append_right _ _ (by omega),
    show j + l.length - j - l.length = 0 by omega, List.drop_eq_getElem_cons hU, List.set_cons_zero, List.length_append, List.length_singleton, List.append_assoc]
  rfl
theorem rwJ_two {U : List Int} {j : Nat} {l m : List Int} (h : m.length ≤ l.length) (hU : j + l.length ≤ U.length) : rwJ (rwJ U j l) j m = rwJ U j (m ++ l.drop m.length) := by
  unfold rwJ
  have hl : (U.take j).length = j := by rw [List.length_take]; omega
  rw [List.take_append_of_le_length (by omega), List.take_of_length_le (l := U.take j) (by omega), List.drop_append, hl, List.drop_of_length_le (l := U.take j) (by omega), List.nil_append,
    show j + m.length - j = m.length by omega, List.drop_append_of_le_length h]
  simp only [List.append_assoc, List.length_append, List.length_drop]
  rw [show m.length + (l.length - m.length) = l.length by omega]
/-- The slice of a row. -/
def slJ (U : List Int) (j n : Nat) : List Int := (U.drop j).take n
theorem slJ_len {U : List Int} {j n : Nat} (h : j + n ≤ U.length) : (slJ U j n).length = n := by unfold slJ; rw [List.length_take, List.length_drop]; omega
theorem slJ_at {U : List Int} {j n k : Nat} (h : k < n) : (slJ U j n).getD k 0 = U.getD (j + k) 0 := by
  unfold slJ
  rw [getD_take h, List.getD_eq_getElem?_getD, List.getElem?_drop, List.getD_eq_getElem?_getD]
theorem slJ_u {U : List Int} {j n : Nat} (h : u64s U) : u64s (slJ U j n) := u64s_take (u64s_drop h _) _
theorem rwJ_u {U : List Int} {j : Nat} {l : List Int} (h : u64s U) (hl : u64s l) : u64s (rwJ U j l) := u64s_app (u64s_take h _) (u64s_app hl (u64s_drop h _))
theorem slJ_val (U : List Int) {j n : Nat} (h : j + n ≤ U.length) : vl U = vk U j + pB j * (vl (slJ U j n) + pB n * vl (U.drop (j + n))) := by
  have e1 : U = U.take j ++ ((U.drop j).take n ++ (U.drop j).drop n) := by rw [List.take_append_drop, List.take_append_drop]
  have hl1 : (U.take j).length = j := by rw [List.length_take]; omega
  have hl2 : ((U.drop j).take n).length = n := slJ_len h
  rw [List.drop_drop] at e1
  calc vl U = vl (U.take j ++ ((U.drop j).take n ++ U.drop (j + n))) := by rw [← e1]
    _ = _ := by rw [vl_app, vl_app, hl1, hl2]; rfl
theorem rwJ_val {U : List Int} {j : Nat} {l : List Int} (h : j + l.length ≤ U.length) : vl (rwJ U j l) = vk U j + pB j * (vl l + pB l.length * vl (U.drop (j + l.length))) := by
  unfold rwJ
  have hl1 : (U.take j).length = j := by rw [List.length_take]; omega
  rw [vl_app, vl_app, hl1]; rfl
/-- u less q v, limb by limb: the limbs, the carry, the borrow. -/
def msS (u v : List Int) (q : Int) (i : Nat) (c : Int) : Int := (v.getD i 0 * q % 18446744073709551616 + c) % 18446744073709551616
def msC (v : List Int) (q : Int) (i : Nat) (c : Int) : Int := v.getD i 0 * q / 18446744073709551616 + (v.getD i 0 * q % 18446744073709551616 + c) / 18446744073709551616
def sbD (u s b : Int) : Int := if u < s + b then u - s - b + 18446744073709551616 else u - s - b
def sbB (u s b : Int) : Int := if u < s + b then 1 else 0
theorem sb_eq (u s b : Int) : sbD u s b = u - s - b + 18446744073709551616 * sbB u s b := by unfold sbD sbB; split <;> omega
theorem sbB_bd (u s b : Int) : 0 ≤ sbB u s b ∧ sbB u s b ≤ 1 := by unfold sbB; split <;> omega
theorem sbD_bd {u s b : Int} (hu0 : 0 ≤ u) (hu : u < 18446744073709551616) (hs0 : 0 ≤ s) (hs : s < 18446744073709551616) (hb0 : 0 ≤ b) (hb : b ≤ 1) : 0 ≤ sbD u s b ∧ sbD u s b < 18446744073709551616 := by unfold sbD; split <;> omega
def msN (u v : List Int) (q : Int) : Nat → List Int × Int × Int
  | 0 => ([], 0, 0)
  | i + 1 => ((msN u v q i).1 ++ [sbD (u.getD i 0) (msS u v q i (msN u v q i).2.1) (msN u v q i).2.2], msC v q i (msN u v q i).2.1, sbB (u.getD i 0) (msS u v q i (msN u v q i).2.1) (msN u v q i).2.2)
theorem msN_len (u v : List Int) (q : Int) : ∀ i, (msN u v q i).1.length = i
  | 0 => rfl
  | i + 1 => by simp [msN, msN_len u v q i]
theorem mul_lt {x y : Int} (hx0 : 0 ≤ x) (hx : x < 18446744073709551616) (hy0 : 0 ≤ y) (hy : y < 18446744073709551616) : 0 ≤ x * y ∧ x * y ≤ 340282366920938463426481119284349108225 := by
  have := mul_bd (m := 18446744073709551615) hx0 hy0 (by omega) (by omega)
  exact this
theorem msN_c {u v : List Int} {q : Int} (hv : u64s v) (hq0 : 0 ≤ q) (hq : q < 18446744073709551616) : ∀ i, 0 ≤ (msN u v q i).2.1 ∧ (msN u v q i).2.1 < 18446744073709551616
  | 0 => by simp [msN]
  | i + 1 => by
    have h := msN_c (u := u) hv hq0 hq i
    have hx := u64s_getD hv i
    have hp := mul_lt hx.1 hx.2 hq0 hq
    show 0 ≤ msC v q i (msN u v q i).2.1 ∧ msC v q i (msN u v q i).2.1 < _
    unfold msC
    generalize v.getD i 0 * q = P at hp ⊢
    generalize (msN u v q i).2.1 = c at h ⊢
    omega
theorem msN_b (u v : List Int) (q : Int) : ∀ i, 0 ≤ (msN u v q i).2.2 ∧ (msN u v q i).2.2 ≤ 1
  | 0 => by simp [msN]
  | i + 1 => sbB_bd _ _ _
theorem msN_u {u v : List Int} {q : Int} (hu : u64s u) (hv : u64s v) (hq0 : 0 ≤ q) (hq : q < 18446744073709551616) : ∀ i, u64s (msN u v q i).1
  | 0 => fun x hx => by simp [msN] at hx
  | i + 1 => by
    have hx := u64s_getD hu i
    have hb := msN_b u v q i
    have h := sbD_bd hx.1 hx.2 (s := msS u v q i (msN u v q i).2.1) (b := (msN u v q i).2.2) (by unfold msS; omega) (by unfold msS; omega) hb.1 hb.2
    exact u64s_app1 (msN_u hu hv hq0 hq i) h.1 h.2
theorem msN_val (u v : List Int) (q : Int) : ∀ i, vl (msN u v q i).1 = vk u i - q * vk v i + pB i * ((msN u v q i).2.1 + (msN u v q i).2.2)
  | 0 => by rw [vk_0, vk_0]; simp [msN, vl]
  | i + 1 => by
    have h := msN_val u v q i
    rw [vk_succ, vk_succ]
    simp only [msN]
    rw [vl_app, msN_len, h, sb_eq]
    have e1 : vl [u.getD i 0 - msS u v q i (msN u v q i).2.1 - (msN u v q i).2.2 + 18446744073709551616 * sbB (u.getD i 0) (msS u v q i (msN u v q i).2.1) (msN u v q i).2.2] = u.getD i 0 - msS u v q i (msN u v q i).2.1 - (msN u v q i).2.2 + 18446744073709551616 * sbB (u.getD i 0) (msS u v q i (msN u v q i).2.1) (msN u v q i).2.2 := by simp [vl]
    rw [e1]
    generalize sbB (u.getD i 0) (msS u v q i (msN u v q i).2.1) (msN u v q i).2.2 = b2
    have e2 : msS u v q i (msN u v q i).2.1 + 18446744073709551616 * msC v q i (msN u v q i).2.1 = v.getD i 0 * q + (msN u v q i).2.1 := by
      unfold msS msC
      generalize v.getD i 0 * q = P
      generalize (msN u v q i).2.1 = c
      omega
    generalize hs : msS u v q i (msN u v q i).2.1 = s at e2 ⊢
    generalize hc : msC v q i (msN u v q i).2.1 = c2 at e2 ⊢
    generalize (msN u v q i).2.1 = c at e2 ⊢
    generalize (msN u v q i).2.2 = b
    obtain rfl : s = v.getD i 0 * q + c - 18446744073709551616 * c2 := by omega
    simp only [pB]
    have hB : Bs = 18446744073709551616 := rfl
    rw [hB]
    generalize u.getD i 0 = x
    generalize v.getD i 0 = y
    have e3 : q * (vk v i + pB i * y) = q * vk v i + pB i * (y * q) := by rw [Int.mul_add, Int.mul_left_comm, Int.mul_comm q y]
    rw [e3]
    generalize pB i = p
    generalize y * q = z
    generalize q * vk v i = t
    have e4 : p * (x - (z + c - 18446744073709551616 * c2) - b + 18446744073709551616 * b2) = p * x - p * z - p * c - p * b + 18446744073709551616 * (p * (c2 + b2)) := by
      simp only [Int.mul_add, Int.mul_sub, Int.mul_left_comm p 18446744073709551616]
      omega
    rw [e4, Int.mul_add p c b, Int.mul_assoc]
    generalize p * (c2 + b2) = w
    generalize p * x = g1
    generalize p * z = g2
    generalize p * c = g3
    generalize p * b = g4
    omega
/-- All of u less q v: with the top limb. -/
def msL (u v : List Int) (q : Int) : List Int := (msN u v q v.length).1 ++ [sbD (u.getD v.length 0) (msN u v q v.length).2.1 (msN u v q v.length).2.2]
def msB (u v : List Int) (q : Int) : Int := sbB (u.getD v.length 0) (msN u v q v.length).2.1 (msN u v q v.length).2.2
theorem msL_len (u v : List Int) (q : Int) : (msL u v q).length = v.length + 1 := by simp [msL, msN_len]
theorem msL_u {u v : List Int} {q : Int} (hu : u64s u) (hv : u64s v) (hq0 : 0 ≤ q) (hq : q < 18446744073709551616) : u64s (msL u v q) := by
  have hc := msN_c (u := u) hv hq0 hq v.length
  have hb := msN_b u v q v.length
  have hx := u64s_getD hu v.length
  have h := sbD_bd hx.1 hx.2 hc.1 hc.2 hb.1 hb.2
  exact u64s_app1 (msN_u hu hv hq0 hq _) h.1 h.2
theorem msL_val {u v : List Int} {q : Int} (hl : u.length = v.length + 1) : vl (msL u v q) = vl u - q * vl v + pB (v.length + 1) * msB u v q := by
  unfold msL msB
  have h := msN_val u v q v.length
  have hu : vl u = vk u v.length + pB v.length * u.getD v.length 0 := by rw [← vk_succ, vk_all (by omega)]
  rw [vl_app, msN_len, h, sb_eq, hu, vk_all (Nat.le_refl v.length)]
  generalize sbB (u.getD v.length 0) (msN u v q v.length).2.1 (msN u v q v.length).2.2 = b2
  generalize (msN u v q v.length).2.1 = c
  generalize (msN u v q v.length).2.2 = b
  generalize u.getD v.length 0 = x
  have e1 : vl [x - c - b + 18446744073709551616 * b2] = x - c - b + 18446744073709551616 * b2 := by simp [vl]
  rw [e1]
  simp only [pB]
  have hB : Bs = 18446744073709551616 := rfl
  rw [hB]
  generalize pB v.length = p
  have e4 : p * (x - c - b + 18446744073709551616 * b2) = p * x - p * c - p * b + 18446744073709551616 * (p * b2) := by
    simp only [Int.mul_add, Int.mul_sub, Int.mul_left_comm p 18446744073709551616]
  rw [e4, Int.mul_add, Int.mul_assoc]
  generalize p * b2 = w
  generalize p * x = g1
  generalize p * c = g3
  generalize p * b = g4
  omega
/-- v added back. -/
def bkL (l v : List Int) : List Int := (adN l v v.length).1 ++ [(l.getD v.length 0 + (adN l v v.length).2) % 18446744073709551616]
theorem bkL_len (l v : List Int) : (bkL l v).length = v.length + 1 := by simp [bkL, adN_len]
theorem bkL_u {l v : List Int} : u64s (bkL l v) := u64s_app1 (adN_u _) (by omega) (by omega)
theorem bkL_val {l v : List Int} (hl : l.length = v.length + 1) : ∃ e, vl (bkL l v) = vl l + vl v - pB (v.length + 1) * e := by
  refine ⟨(l.getD v.length 0 + (adN l v v.length).2) / 18446744073709551616, ?_⟩
  unfold bkL
  have h := adN_val l v v.length
  have hu : vl l = vk l v.length + pB v.length * l.getD v.length 0 := by rw [← vk_succ, vk_all (by omega)]
  rw [vk_all (Nat.le_refl v.length)] at h
  rw [vl_app, adN_len, hu]
  generalize l.getD v.length 0 = x
  generalize (adN l v v.length).2 = c at h ⊢
  have e1 : vl [(x + c) % 18446744073709551616] = x + c - 18446744073709551616 * ((x + c) / 18446744073709551616) := by simp only [vl]; omega
  rw [e1]
  simp only [pB]
  have hB : Bs = 18446744073709551616 := rfl
  rw [hB]
  generalize (x + c) / 18446744073709551616 = e
  generalize pB v.length = p at h ⊢
  have e4 : p * (x + c - 18446744073709551616 * e) = p * x + p * c - 18446744073709551616 * (p * e) := by
    simp only [Int.mul_add, Int.mul_sub, Int.mul_left_comm p 18446744073709551616]
  rw [e4, Int.mul_assoc]
  generalize p * e = w
  omega
/-- What an estimated limb leaves: the limb is the true one. -/
def gsQ (u v : List Int) (q : Int) : Int := q - msB u v q
def gsL (u v : List Int) (q : Int) : List Int := if msB u v q = 0 then msL u v q else bkL (msL u v q) v
theorem gs_end {u v : List Int} {q : Int} (hu : u64s u) (hv : u64s v) (hl : u.length = v.length + 1) (hv0 : 0 < vl v) (hq0 : 0 ≤ q) (hq : q < 18446744073709551616)
    (h1 : vl u / vl v ≤ q) (h2 : q ≤ vl u / vl v + 1) :
    gsQ u v q = vl u / vl v ∧ (gsL u v q).length = v.length + 1 ∧ u64s (gsL u v q) ∧ vl (gsL u v q) = vl u % vl v := by
  have hm := msL_val (u := u) (v := v) (q := q) hl
  have um := msL_u (u := u) (v := v) (q := q) hu hv hq0 hq
  have b0 := vl_nonneg um
  have b1 := vl_lt um
  rw [msL_len] at b1
  have hbb := sbB_bd (u.getD v.length 0) (msN u v q v.length).2.1 (msN u v q v.length).2.2
  have ed := Int.emod_add_mul_ediv (vl u) (vl v)
  have r0 := Int.emod_nonneg (vl u) (Int.ne_of_gt hv0)
  have r1 := Int.emod_lt_of_pos (vl u) hv0
  have up := vl_nonneg hu
  have ul := vl_lt hu
  have vu := vl_nonneg hv
  have vlt := vl_lt hv
  have hpm := pB_mono (show v.length ≤ v.length + 1 by omega)
  rw [hl] at ul
  unfold gsQ gsL
  by_cases hb : msB u v q = 0
  · rw [if_pos hb, hb]
    rw [hb, Int.mul_zero] at hm
    have hq1 : q = vl u / vl v := by
      rcases Int.lt_or_le (vl u / vl v) q with hlt | hle
      · exfalso
        have hq2 : q = vl u / vl v + 1 := by omega
        have hqv : q * vl v = vl v * (vl u / vl v) + vl v := by rw [hq2, Int.add_mul, Int.one_mul, Int.mul_comm (vl u / vl v)]
        omega
      · omega
    have hqv : q * vl v = vl v * (vl u / vl v) := by rw [← hq1, Int.mul_comm]
    exact ⟨by omega, msL_len _ _ _, um, by omega⟩
  · have hb1 : msB u v q = 1 := by unfold msB at hb ⊢; omega
    rw [if_neg hb, hb1]
    rw [hb1, Int.mul_one] at hm
    have hq1 : q = vl u / vl v + 1 := by
      rcases Int.lt_or_le (vl u / vl v) q with hlt | hle
      · omega
      · exfalso
        have hq2 : q = vl u / vl v := by omega
        have hqv : q * vl v = vl v * (vl u / vl v) := by rw [hq2, Int.mul_comm]
        omega
    obtain ⟨e, he⟩ := bkL_val (l := msL u v q) (v := v) (msL_len _ _ _)
    have ub : u64s (bkL (msL u v q) v) := bkL_u
    have c0 := vl_nonneg ub
    have c1 := vl_lt ub
    rw [bkL_len] at c1
    have hqv : q * vl v = vl v * (vl u / vl v) + vl v := by rw [hq1, Int.add_mul, Int.one_mul, Int.mul_comm (vl u / vl v)]
    have he1 : e = 1 := by
      have hpp := pB_pos (v.length + 1)
      rcases Int.lt_trichotomy e 1 with h | h | h
      · exfalso
        have : pB (v.length + 1) * e ≤ pB (v.length + 1) * 0 := Int.mul_le_mul_of_nonneg_left (by omega) (by omega)
        omega
      · exact h
      · exfalso
        have : pB (v.length + 1) * 2 ≤ pB (v.length + 1) * e := Int.mul_le_mul_of_nonneg_left (by omega) (by omega)
        omega
    rw [he1, Int.mul_one] at he
    exact ⟨by omega, bkL_len _ _, ub, by omega⟩
end Go.Proofs.Ytcfdclehmpfkcaa.Vc
