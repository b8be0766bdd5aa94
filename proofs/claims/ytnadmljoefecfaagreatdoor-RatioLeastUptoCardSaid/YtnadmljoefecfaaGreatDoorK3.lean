/- The law RatioLeast of every input of bulk at most 1048576: it returns true, and the input reads as it did. Texts joined: VcAE, VcAF, VcAG, VcAH, VcAI, VcAJ, VcAK, VcAL, VcAM, VcAN, VcAO, VcAP, VcAQ, VcAR, VcAU, VcAV, VcAW, VcAX, Na, Nb, Nc, Nd, Ne. -/
import Derived.Test.YtnadmljoefecfaaGreatDoorK2
import Derived.Laws.IdiomStrings
import Derived.Laws.BytesArg
import Derived.Recover
import Derived.LoopN
set_option linter.unusedVariables false
set_option linter.unusedSimpArgs false
set_option maxHeartbeats 4000000
namespace Go.Proofs.YtnadmljoefecfaaGreatDoor.Vc
open Go Go.RowKit
section
variable {P : Program} {Γ : Ctx} {F : Fr} {H : List Ob} {Q : Exit → Fr → List Ob → Prop}
theorem Vr {ops : Array Oper} {rest : List Oper} {d T E bytes id ver len : Nat} {ty : TypeId} {ps : String} {af : Array Edge} {z : Value} {x y : Operand} {yy : V} {k : IntKind} {C : List Int} {v : Int} (hT : elP P T E 1 bytes z) (hx : ovO F x = some (.o id ver 0 len)) (hH : H[id]? = some ⟨E, 1, ver, true, ints k C⟩) (hle : len ≤ C.length) (hy : ovO F y = some yy) (hsrc : Src Γ H yy 1 1 (ints k [v]))
    (hb : (len + 1) * bytes ≤ 140737488355328) (h63 : len + 1 ≤ maxLen) (hd : d < Γ.N) (j : ∀ ver' C', len + 1 ≤ C'.length → C'.take (len + 1) = C.take len ++ [v] → JO P ops rest Γ ((d, .o id ver' 0 (len + 1)) :: F) (H.set id ⟨E, 1, ver', true, ints k C'⟩) Q) :
    JO P ops (⟨some d, .call { callee := .builtin .append, args := #[x, y], argTypes := #[T, T] }, ty, ps, af, none⟩ :: rest) Γ F H Q := by
  rcases Nat.lt_or_ge len C.length with hlt | hge
  · refine Y1 hT hx hH hy hsrc (by decide) (by rw [C5]; omega) hd ?_
    rw [Nat.mul_one, show ints k [v] = [.i k v] from rfl, Ko]
    refine j ver (C.set len v) (by rw [List.length_set]; omega) ?_
    rw [List.take_add_one, List.take_set_of_le (Nat.le_refl _), List.getElem?_set_self hlt]
    rfl
  · refine O2 hT hx hH (by rw [C5]; omega) hy hsrc hb h63 hd ?_
    rw [En]
    refine j (ver + 1) (C ++ [v]) (by rw [List.length_append]; simp; omega) ?_
    rw [List.take_of_length_le (by rw [List.length_append]; simp; omega), List.take_of_length_le hge]
theorem P9 {T : TypeId} {x : Operand} {y : V} {ys : List V} (hT : Iz P T = true) (hx : ovO F x = some (.q (y :: ys))) (hz : Yp y = true) : LY P Γ (.load T x) F H y := fun ρ a w s => by
  obtain ⟨ad, hv, _, ⟨u, hc, hr⟩, _⟩ := s.ov hx
  refine ⟨u, Lu (Nat.le_refl _) _ _ (Yf _ _ hz hr), fun _ _ _ _ _ w' hw' => ?_⟩
  have e : (Instr.loadAt T (a.eval x)).run P w' = .ok u w' := by rw [hv]; exact F3 hT (hw' _ _ (by simpa [Addr.add] using hc))
  exact El e
theorem Y3 {c : Code} (i : Nat) {idB tB szB verB id ver len T sz : Nat} {csB cs : List V} (rows : List (List V)) (hB : (D3 H id)[idB]? = some ⟨tB, szB, verB, true, csB⟩) (hi : csB[i]? = some (.o id ver 0 len)) (hH : H[id]? = some ⟨T, sz, ver, true, cs⟩) (hcs : cs = rows.flatten) (hlen : rows.length = len) (hsz : ∀ r ∈ rows, r.length = sz)
    (hpu : ∀ r ∈ rows, r.all Ef = true) (h0 : 0 < sz) (hp : ∀ b, ¬ Γ.L0 b) (j : JC P c Γ F ((D3 H id).set idB ⟨tB, szB, verB, true, csB.set i (.l true sz rows)⟩) Q) : JC P c Γ F H Q := fun a w ⟨ρ, s⟩ => by
  have h2 := (s.dead id).recell (cs := csB) (cs' := csB.set i (.l true sz rows)) hB (by simp) ?_
  · exact j a w ⟨_, h2⟩
  intro k y' hy'
  rcases C6 hy' with ⟨rfl, rfl⟩ | ⟨hne, hy⟩
  · exact ⟨_, hi, fun u _ hu => s.frozenR hH hu hcs hlen hsz hpu h0 hp⟩
  · exact ⟨y', hy, fun u _ hu => hu⟩
theorem Aht {ops : Array Oper} {d T E sz bytes m id ver len : Nat} {ty : TypeId} {ps : String} {af : Array Edge} {z : Value} {x y : Operand} {yy : V} {zs cs : List V} {R : Fr → List Ob → Prop} (hT : elP P T E sz bytes z) (hx : ovO F x = some (.o id ver 0 len)) (hH : H[id]? = some ⟨E, sz, ver, true, cs⟩) (hcs : cs.length = len * sz) (hy : ovO F y = some yy) (hsrc : Src Γ H yy sz m zs)
    (hb : (len + m) * bytes ≤ 140737488355328) (h63 : len + m ≤ maxLen) (hd : d < Γ.N) (hm : G1 ⟨some d, .call { callee := .builtin .append, args := #[x, y], argTypes := #[T, T] }, ty, ps, af, none⟩ = false) (k : R ((d, .o id (ver + 1) 0 (len + m)) :: F) (H.set id ⟨E, sz, ver + 1, true, cs ++ zs⟩)) :
    JS P ops Γ ⟨some d, .call { callee := .builtin .append, args := #[x, y], argTypes := #[T, T] }, ty, ps, af, none⟩ F H Q R := fun a w ⟨ρ, s⟩ => by
  obtain ⟨v, w', ρ', r, s', hr⟩ := Aaz hT hx hH hcs hy hsrc hb h63 ρ a w s
  refine ⟨rfl, ?_⟩
  unfold Oper.wp
  rw [hr _ _ _ _ _]
  exact ⟨fun e => by rw [hm] at e; simp at e, _, _, k, ρ', s'.put hd r⟩
theorem Agi {id ver off len t : Nat} {k : IntKind} {C : List Int} (hH : H[id]? = some ⟨t, 1, ver, true, ints k C⟩) (hle : off + len ≤ C.length) : Src Γ H (.o id ver off len) 1 len (ints k ((C.drop off).take len)) :=
  ⟨by rw [C5, List.length_take, List.length_drop]; omega, fun ρ F a w s v r => by
    obtain ⟨re, o⟩ := s.own hH rfl
    obtain ⟨re', e1, hle', hp⟩ := r
    obtain rfl : re' = re := by have := e1.symm.trans o.at_; injection this
    obtain ⟨hcap, ⟨g, ad, hg, hv, had⟩ | ⟨hg, hv, ho, hl⟩⟩ := hp (o.ok.ver.symm)
    · obtain ⟨cur, c1, c2, c3, c4, c5⟩ := o.ok.blk g hg
      have key : ∀ j, j < len → ∃ x, C[off + j]? = some x ∧ w.cell? (ad.add j) = some (.int k x) := fun j hj => by
        have hlt : off + j < C.length := by omega
        have h1 : (ints k C)[off + j]? = some (.i k C[off + j]) := by rw [F8, List.getElem?_eq_getElem hlt]; rfl
        obtain ⟨u, d1, d2, d3⟩ := o.cell hg h1
        have hz : re'.sz = 1 := o.ok.sz
        rw [had (.inl (by rw [C5] at c3; have : cur.size = re'.cap * 1 := c2; omega)), hz, Cj, Nat.mul_one, d1]
        exact ⟨C[off + j], List.getElem?_eq_getElem hlt, by rw [show u = .int k C[off + j] from d3]⟩
      refine ⟨some ad, re'.cap - off, ((C.drop off).take len).map (Value.int k), hv, by rw [List.length_map, List.length_take, List.length_drop]; omega, by intro u hu; obtain ⟨x, _, rfl⟩ := List.mem_map.1 hu; rfl, fun _ => ⟨ad, rfl, fun j u hu => ?_⟩, fun j z hz => ?_⟩
      · rw [List.getElem?_map, List.getElem?_take] at hu
        by_cases hj : j < len
        · rw [if_pos hj, List.getElem?_drop] at hu
          obtain ⟨x, hx1, hx2⟩ := key j hj
          rw [hx1] at hu
          injection hu with hu
          rw [← hu]; exact hx2
        · rw [if_neg hj] at hu; cases hu
      · rw [F8] at hz
        rw [List.getElem?_map]
        cases hx : ((C.drop off).take len)[j]? with
        | none => rw [hx] at hz; cases hz
        | some x => rw [hx] at hz; injection hz with hz; exact ⟨_, rfl, by rw [← hz]; rfl⟩
    · subst ho; subst hl
      exact ⟨none, 0, [], hv, by simp, by simp, by simp, fun j z hz => by simp [ints] at hz⟩⟩
theorem SpecM.ver0 {f : FuncId} {args : List V} {T sz len : Nat} {cs : List V} (hcs : cs.all (idB 0) = true) (h : SpecM P f args [] (fun o G => ∃ ver, o = .ret (.o 0 ver 0 len) ∧ G = [⟨T, sz, ver, true, cs⟩])) : SpecM P f args [] (fun o G => o = .ret (.o 0 0 0 len) ∧ G = [⟨T, sz, 0, true, cs⟩]) :=
  fun M w ρ vals h1 h2 h3 => (h M w ρ vals h1 h2 h3).mono fun e w' ⟨o, H', ρ', ⟨ver, ho, hH⟩, r1, r2, r3, r4, r5, ev, r8, r9⟩ => by
    subst ho; subst hH
    obtain ⟨re, rfl⟩ : ∃ re, ρ' = [re] := by
      have hl := r2.len
      match ρ', hl with
      | [re], _ => exact ⟨re, rfl⟩
    obtain ⟨re', k1, k2⟩ := r2.ob 0 _ rfl rfl
    obtain rfl : re = re' := by simpa using k1
    have hρ : ρ = [] := by
      have := h2.len
      simpa using this
    have hL : ∀ b, Bb M [{ re with ver := 0 }] [(⟨T, sz, 0, true, cs⟩ : Ob)] b ↔ Bb M [re] [(⟨T, sz, ver, true, cs⟩ : Ob)] b := fun b => by
      constructor
      · rintro (h | ⟨i, ob, r, m1, m2, m3, m4⟩)
        · exact .inl h
        · cases i with
          | zero => simp at m3; subst m3; exact .inr ⟨0, _, re, rfl, rfl, rfl, m4⟩
          | succ i => simp at m1
      · rintro (h | ⟨i, ob, r, m1, m2, m3, m4⟩)
        · exact .inl h
        · cases i with
          | zero => simp at m3; subst m3; exact .inr ⟨0, _, { re with ver := 0 }, rfl, rfl, rfl, m4⟩
          | succ i => simp at m1
    have hLe : Bb M [{ re with ver := 0 }] [(⟨T, sz, 0, true, cs⟩ : Ob)] = Bb M [re] [(⟨T, sz, ver, true, cs⟩ : Ob)] := funext fun b => propext (hL b)
    obtain ⟨v, rfl, re2, e1, e2, e3⟩ := r1
    obtain rfl : re = re2 := by simpa using e1
    refine ⟨_, _, [{ re with ver := 0 }], ⟨rfl, rfl⟩, ⟨v, rfl, { re with ver := 0 }, rfl, Nat.le_refl _, fun _ => e3 k2.ver.symm⟩, ⟨rfl, fun i ob m1 m2 => ?_, fun i j oi oj ri rj g hij m1 m2 m3 => ?_, fun i ob r g m1 m2 m3 m4 => ?_⟩, r3, r4, r5, ⟨ev.size, ev.blk, fun b hb hn => by rw [hLe]; exact ev.lv b hb hn, ev.bb, fun i r hi => by rw [hρ] at hi; simp at hi⟩, fun i ob r g m1 m2 m3 m4 => ?_, r9⟩
    · cases i with
      | zero =>
        simp at m1; subst m1
        refine ⟨_, rfl, rfl, k2.sz, k2.nob, fun g hg => ?_⟩
        obtain ⟨cur, c1, c2, c3, c4, c5⟩ := k2.blk g hg
        refine ⟨cur, c1, c2, c3, c4, fun j y hy => ?_⟩
        obtain ⟨u, d1, d2, d3⟩ := c5 j y hy
        refine ⟨u, d1, d2, ?_⟩
        have hcut := d3.cut (n := 0) y u (List.all_eq_true.1 hcs y (List.mem_of_getElem? hy))
        rw [hLe]
        exact Lu (Nat.le_refl _) y u hcut
      | succ i => simp at m1
    · cases i with
      | zero =>
        cases j with
        | zero => exact absurd rfl hij
        | succ j => simp at m3
      | succ i => simp at m1
    · cases i with
      | zero => simp at m1 m3; subst m1; subst m3; exact r2.foreign 0 _ re g rfl rfl rfl m4
      | succ i => simp at m1
    · cases i with
      | zero => simp at m1 m3; subst m1; subst m3; exact r8 0 _ re g rfl rfl rfl m4
      | succ i => simp at m1
end

section
variable {P : Program} {Γ : Ctx} {F : Fr} {H : List Ob} {Q : Exit → Fr → List Ob → Prop}
theorem Aho {T E T' : TypeId} {x : Operand} {fr : Bool} {s : ByteArray} (hT : P.underlying T = some (.slice E)) (hE : P.underlying E = some (.int .u8)) (hD : P.underlying T' = some .string) (hx : ovO F x = some (.n fr .u8 (Gk s))) : LY P Γ (.convert T T' x) F H (.s s) := fun ρ a w st => by
  obtain ⟨A, c, hv, h1, h2, h3⟩ := st.ov hx
  refine ⟨.string s, rfl, fun _ _ _ _ _ w' hw' => ?_⟩
  have e : (convert T T' (a.eval x)).run P w' = .ok (.string s) w' := by
    rw [hv, Mc]
    cases A with
    | none =>
      have hn : Gk s = [] := by
        cases hb : Gk s with
        | nil => rfl
        | cons y ys =>
          obtain ⟨ad, e1, _⟩ := h3 (by rw [hb]; simp)
          cases e1
      have hs : s = ByteArray.empty := by
        apply ByteArray.ext
        apply Array.toList_inj.1
        have : s.data.toList = [] := by
          unfold Gk at hn
          exact List.map_eq_nil_iff.1 hn
        rw [this]; rfl
      rw [Go.run_convert_bytes_nil (P := P) w' T E hT hE _ _ T' hD, hs]
    | some ad =>
      have h4 := Go.run_convert_bytes_back (P := P) w' T T' E ad c s.data.toList hT hE hD (fun j hj => by
        have hj' : (Gk s)[j]? = some (((s.data.toList[j]).toNat : Nat) : Int) := by
          unfold Gk
          rw [List.getElem?_map, List.getElem?_eq_getElem hj]; rfl
        obtain ⟨ad2, e1, hb, hc⟩ := h3 (by intro e; rw [e] at hj'; simp at hj')
        injection e1 with e1; subst e1
        exact hw' _ _ (hc j _ hj'))
      have hsz : s.data.toList.length = s.size := by simp
      rw [hsz] at h4
      exact h4
  exact El e
end

def GoodM (M : Nat → Prop) (c : Nat → V) (g : Nat) (w : World) : Prop :=
  ∃ es ck, w.heap[g]? = some (.map es ck) ∧ ∀ e ∈ es.toList, ∃ n : Nat, e.key = .int .i64 (n : Int) ∧ Rel w M 0 [] (c n) e.val
theorem GoodM.ev {M : Nat → Prop} {c : Nat → V} {g : Nat} {w w' : World} (h : GoodM M c g w) (hg : w'.heap[g]? = w.heap[g]?) (hs : w.heap.size ≤ w'.heap.size) (hb : ∀ b, b < w.heap.size → ¬ M b → w'.heap[b]? = w.heap[b]?) : GoodM M c g w' := by
  obtain ⟨es, ck, h1, h2⟩ := h
  refine ⟨es, ck, hg.trans h1, fun e he => ?_⟩
  obtain ⟨n, h3, h4⟩ := h2 e he
  exact ⟨n, h3, h4.ev ⟨hs, hb, fun _ _ h => h, Nat.le_refl _, fun i r h => by simp at h⟩⟩
structure CtxM (Γ : Ctx) (g : Nat) : Prop where
  m : Γ.M g
  l0 : ∀ b, Γ.L0 b ↔ b = g
  lt : g < Γ.w0.heap.size
  rho : Γ.ρ0 = []
def SpecX (P : Program) (f : FuncId) (args : List V) (c : Nat → V) (g : Nat) (post : Out → Prop) : Prop :=
  ∀ (M : Nat → Prop) (w : World) (vals : List Value), (∀ b, M b → b < w.heap.size) → M g → GoodM M c g w → RelL w M w.heap.size [] args vals →
    Calls P f vals.toArray w fun e w' => ∃ o, post o ∧ Hv w' M w.heap.size o e ∧ GoodM M c g w' ∧ w'.os = w.os ∧ w'.tape = w.tape ∧ w'.output = w.output ∧ w.heap.size ≤ w'.heap.size ∧ ∀ b, b < w.heap.size → b ≠ g → w'.heap[b]? = w.heap[b]?
theorem SpecX.mono {P : Program} {f : FuncId} {args : List V} {c : Nat → V} {g : Nat} {post post' : Out → Prop} (h : SpecX P f args c g post) (hp : ∀ o, post o → post' o) : SpecX P f args c g post' :=
  fun M w vals h1 h2 h3 h4 => (h M w vals h1 h2 h3 h4).mono fun e w' ⟨o, k1, k2⟩ => ⟨o, hp o k1, k2⟩
section
variable {P : Program} {Γ : Ctx} {c : Nat → V} {g : Nat} {F : Fr} {𝒬 : Exit → Act → World → Prop}
def JCM (P : Program) (x : Code) (Γ : Ctx) (c : Nat → V) (g : Nat) (F : Fr) (𝒬 : Exit → Act → World → Prop) : Prop := ∀ a w, StA Γ [] F [] a w → GoodM Γ.M c g w → x.wp P 𝒬 a w
def JOM (P : Program) (ops : Array Oper) (l : List Oper) (Γ : Ctx) (c : Nat → V) (g : Nat) (F : Fr) (𝒬 : Exit → Act → World → Prop) : Prop := ∀ a w, StA Γ [] F [] a w → GoodM Γ.M c g w → wpList P ops 𝒬 l a w
def JAM (P : Program) (ops : Array Oper) (fuel : Nat) (listed : Array Bool) (Γ : Ctx) (c : Nat → V) (g : Nat) (F : Fr) (𝒬 : Exit → Act → World → Prop) : Prop := ∀ a w, StA Γ [] F [] a w → GoodM Γ.M c g w → Hn P ops 𝒬 fuel listed a w
def Alx (P : Program) (fn : Func) (Γ : Ctx) (c : Nat → V) (g : Nat) (post : Out → Prop) : Exit → Act → World → Prop
  | .ret, a, w | .normal, a, w => ∃ F ys, StA Γ [] F [] a w ∧ GoodM Γ.M c g w ∧ ResL P F [] fn.results.toList ys ∧ post (.ret (Ii ys))
  | _, _, _ => False
end

section
variable {P : Program} {Γ : Ctx} {c : Nat → V} {g : Nat} {F : Fr} {H : List Ob} {𝒬 : Exit → Act → World → Prop}
def JCP (P : Program) (x : Code) (Γ : Ctx) (F : Fr) (H : List Ob) (𝒬 : Exit → Act → World → Prop) : Prop := ∀ a w, St Γ F H a w → x.wp P 𝒬 a w
def QS (Γ : Ctx) (𝒬 : Exit → Act → World → Prop) : Exit → Fr → List Ob → Prop := fun e F' H' => ∀ a w, St Γ F' H' a w → 𝒬 e a w
theorem Dr {x y : Code} (j : JC P x Γ F H (I5 (fun F' H' => JCP P y Γ F' H' 𝒬) (QS Γ 𝒬))) : JCP P (.seq x y) Γ F H 𝒬 := fun a w s =>
  wp_seq (Code.wp_mono (fun e a' w' ⟨F', H', q, s'⟩ => by
    cases e <;> first | exact q a' w' s') (j a w s))
end
theorem Spec.weak {P : Program} {f : FuncId} {args : List V} {post post' : Out → Prop} (h : Spec P f args post) (hw : ∀ o, post o → ∃ o', post' o' ∧ ∀ (w : World) (M : Nat → Prop) (B : Nat) (e : Ending), Hv w M B o e → Hv w M B o' e) : Spec P f args post' := fun M w vals h1 h2 =>
  (h M w vals h1 h2).mono fun e w' ⟨o, k1, k2, k3⟩ => by
    obtain ⟨o', q1, q2⟩ := hw o k1
    exact ⟨o', q1, q2 _ _ _ _ k2, k3⟩
theorem Ah3 {w : World} {M : Nat → Prop} {B : Nat} {e : Ending} {fr : Bool} {k : IntKind} {l : List Int} (h : Hv w M B (.ret (.n fr k l)) e) : Hv w M B (.ret (.n false k l)) e := by
  obtain ⟨v, h1, A, c, e, h3, h4, h5⟩ := h
  exact ⟨v, h1, A, c, e, h3, h4, fun hl => by obtain ⟨ad, e1, hb, hc⟩ := h5 hl; exact ⟨ad, e1, ⟨hb.1, hb.2.1, by simp⟩, hc⟩⟩
theorem Spec.nn {P : Program} {f : FuncId} {args : List V} {fr : Bool} {k : IntKind} {l : List Int} (h : Spec P f args (fun o => o = .ret (.n fr k l))) : Spec P f args (fun o => o = .ret (.n false k l)) :=
  h.weak fun o ho => by subst ho; exact ⟨_, rfl, fun _ _ _ _ h => Ah3 h⟩

section
variable {P : Program} {Γ : Ctx} {c : Nat → V} {g : Nat} {F : Fr} {H : List Ob} {𝒬 : Exit → Act → World → Prop}
theorem Oper.wp_monoQ {o : Oper} {a : Act} {w : World} {K K' : Act → World → Prop} {Q Q' : Exit → Act → World → Prop} (h : ∀ a w, K a w → K' a w) (hq : ∀ e a w, Q e a w → Q' e a w) (hh : o.wp P a w K Q) : o.wp P a w K' Q' := by
  unfold Oper.wp at *
  generalize (execOp a.eval o).run P w = r at *
  cases r with
  | ok n w' =>
    cases n <;> simp only [Oper.upon] at hh ⊢ <;>
      first
        | exact h _ _ hh
        | exact hq _ _ _ hh
        | exact Calls.mono hh (fun e w'' he => by cases e <;> first | exact h _ _ he | exact hq _ _ _ he | exact (let ⟨a, w, h⟩ := he; ⟨a, w, hq _ _ _ h⟩))
        | exact Rows.mono hh (fun _ _ he => h _ _ he)
        | exact hh
  | halt x w' => cases x <;> simp only [Oper.upon] at hh ⊢ <;> first | exact hq _ _ _ hh | exact hh | exact (let ⟨a, w, h⟩ := hh; ⟨a, w, hq _ _ _ h⟩)
theorem Eq {ops : Array Oper} {Q Q' : Exit → Act → World → Prop} (hq : ∀ e a w, Q e a w → Q' e a w) : ∀ (l : List Oper) (a : Act) (w : World), wpList P ops Q l a w → wpList P ops Q' l a w
  | [], a, w, h => hq _ _ _ h
  | o :: rest, a, w, h => by
    unfold wpList at h ⊢
    split
    · rename_i hw
      rw [if_pos hw] at h
      rcases h with h | ⟨h1, a', w', h2⟩
      · exact .inl (Oper.wp_monoQ (Eq hq rest) hq h)
      · exact .inr ⟨h1, a', w', hq _ _ _ h2⟩
    · rename_i hw
      rw [if_neg hw] at h
      exact Eq hq rest _ _ h
def Ali (P : Program) (f : FuncId) (args : List V) (c : Nat → V) (g : Nat) (post : Out → List Ob → Prop) : Prop :=
  ∀ (M : Nat → Prop) (w : World) (vals : List Value), (∀ b, M b → b < w.heap.size) → M g → GoodM M c g w → RelL w M w.heap.size [] args vals →
    Calls P f vals.toArray w fun e w' => ∃ o H' ρ', post o H' ∧ Lf w' (Bb M ρ' H') w.heap.size ρ' o e ∧ HR M w' w.heap.size ρ' H' ∧ w'.os = w.os ∧ w'.tape = w.tape ∧ w'.output = w.output ∧ w.heap.size ≤ w'.heap.size ∧
      (∀ (id : Nat) (ob : Ob) (re : Re) (gg : Nat), H'[id]? = some ob → ob.live = true → ρ'[id]? = some re → re.g = some gg → w.heap.size ≤ gg) ∧ (∀ b, b < w.heap.size → b ≠ g → w'.heap[b]? = w.heap[b]?)
def Ak4 (P : Program) (fn : Func) (Γ : Ctx) (post : Out → List Ob → Prop) : Exit → Act → World → Prop
  | .ret, a, w => ∃ F H ρ sel ys y, StA Γ ρ F H a w ∧ ResL P F H fn.results.toList ys ∧ ren sel y = Ii ys ∧ idB sel.length y = true ∧ sel.Nodup ∧ Gf (Dq Om sel H) ∧ post (.ret y) (Dq Om sel H)
  | _, _, _ => False
end

section
variable {P : Program} {Γ : Ctx} {F : Fr} {H : List Ob} {Q : Exit → Fr → List Ob → Prop}
theorem Dy {ops : Array Oper} {rest : List Oper} (t : Nat) {id ver len T sz : Nat} {cs : List V} (rows : List (List V)) (hx : Cp F t = some (.o id ver 0 len)) (hH : H[id]? = some ⟨T, sz, ver, true, cs⟩) (hcs : cs = rows.flatten) (hlen : rows.length = len) (hsz : ∀ r ∈ rows, r.length = sz) (hpu : ∀ r ∈ rows, r.all Ef = true) (h0 : 0 < sz) (hp : ∀ b, ¬ Γ.L0 b)
    (j : JO P ops rest Γ ((t, .l true sz rows) :: F) (D3 H id) Q) : JO P ops rest Γ F H Q := fun a w ⟨ρ, s⟩ =>
  j a w ⟨ρ, s.frz id t hx fun v r => s.frozenR hH r hcs hlen hsz hpu h0 hp⟩
end
def Alv (rows : List (List Int)) : List (List V) := rows.map fun l => [V.n false .u64 l]

def TabR (g : Nat) (cells : List V) (w : World) (M : Nat → Prop) : Prop := Rel w M w.heap.size [] (.q cells) (.pointer (some ⟨g, 0, none⟩))
def SpecT (P : Program) (f : FuncId) (g : Nat) (cells : List V) (args : List V) (post : Out → Prop) : Prop :=
  ∀ (M : Nat → Prop) (w : World) (vals : List Value), (∀ b, M b → b < w.heap.size) → TabR g cells w M → RelL w M w.heap.size [] args vals →
    Calls P f vals.toArray w fun e w' => ∃ o, post o ∧ Hv w' M w.heap.size o e ∧ Below w.heap.size w w'
theorem SpecT.mono {P : Program} {g : Nat} {cells : List V} {f : FuncId} {args : List V} {post post' : Out → Prop} (h : SpecT P f g cells args post) (hp : ∀ o, post o → post' o) : SpecT P f g cells args post' :=
  fun M w vals hM hT hr => (h M w vals hM hT hr).mono fun e w' ⟨o, h1, h2, h3⟩ => ⟨o, hp o h1, h2, h3⟩
theorem If {P : Program} {g : Nat} {cells : List V} {f : FuncId} {args : List V} {post : Out → Prop} (h : Spec P f args post) : SpecT P f g cells args post := fun M w vals hM _ hr => h M w vals hM hr
section
variable {P : Program} {Γ : Ctx} {F : Fr} {H : List Ob} {Q : Exit → Fr → List Ob → Prop} {g : Nat} {cells : List V}
theorem T2 {ρ : List Re} {a : Act} {w : World} (hL : ∀ b, ¬ Γ.L0 b) (hT : TabR g cells Γ.w0 Γ.M) (s : StA Γ ρ F H a w) : Rel w (Bb Γ.M ρ H) Γ.w0.heap.size ρ (.q cells) (.pointer (some ⟨g, 0, none⟩)) := by
  refine Rel.ev (w := Γ.w0) (L := Γ.M) (B := Γ.w0.heap.size) (ρ := []) ⟨s.fro.size, fun b hb _ => s.fro.blk b hb (hL b), fun b hb hn h => hn ?_, Nat.le_refl _, fun id re e => by simp at e⟩ _ _ hT
  rcases h with h | ⟨i, o, r, h1, h2, h3, h4⟩
  · exact h
  · rcases s.fro.mine i o r b h1 h2 h3 h4 with h5 | h5
    · omega
    · exact absurd h5 (hL b)
theorem Ju {f : FuncId} {fn : Func} {c : Code} {args : List V} {post : Out → Prop} (F0 : Fr) (h0 : ((args.zipIdx 0).map fun p => (p.2, p.1)) = F0) (hf : P.funcs[f]? = some fn) (hb : fn.body = some c) (hn : args.length ≤ fn.ntmps)
    (h : ∀ Γ : Ctx, TabR g cells Γ.w0 Γ.M → Γ.N = fn.ntmps → Γ.ds = [] → (∀ b, ¬ Γ.L0 b) → Γ.ρ0 = [] → JC P c Γ F0 [] (Adj P fn post)) : SpecT P f g cells args post := fun M w vals hM hT hr =>
  T8 hf hb hn M w vals hM hr fun Γ e1 e2 h1 h2 h3 h4 => h0 ▸ h Γ (by rw [e1, e2]; exact hT) h1 h2 h3 h4
theorem Q2 {f : FuncId} {fn : Func} {dst : Option Tmp} {T : TypeId} {ps : String} {af : Array Edge} {gd : Option (Nat × Bool)} {c : Operand} {args : Array Operand} {ts : Array TypeId} {ys zs : List V} {post : Out → Prop}
    (hL : ∀ b, ¬ Γ.L0 b) (hT : TabR g cells Γ.w0 Γ.M) (hc : ovO F c = some (.f f [])) (hf : P.funcs[f]? = some fn) (hb : fn.body.isSome = true) (hn : (fn.name == "runtime.NumGoroutine") = false) (hx : ovL F args.toList ys) (ha : ArgL ys zs) (hs : SpecT P f g cells zs post) {ρ : List Re} {a : Act} {w : World} (s : StA Γ ρ F H a w) {K : Act → World → Prop} {R : Exit → Act → World → Prop}
    (k : ∀ y v w', post (.ret y) → Rel w' (Bb Γ.M ρ H) Γ.w0.heap.size ρ y v → Below w.heap.size w w' → StA Γ ρ F H a w' → K (a.put dst v) w')
    (kp : ∀ ch w', post (.pan ch) → Below w.heap.size w w' → StA Γ ρ F H a w' → R (.panic ch) a w') :
    (⟨dst, .call { callee := .value c, args := args, argTypes := ts }, T, ps, af, gd⟩ : Oper).wp P a w K R :=
  Qz hc hf hb hn hx ha s (fun vals h => hs (Bb Γ.M ρ H) w vals (fun b h => Ns s h) (ArgV.q.rel (T2 hL hT s)) h) k kp
theorem Is {f : FuncId} (fn : Func) {ops : Array Oper} {rest : List Oper} {d : Nat} {T : TypeId} {ps : String} {af : Array Edge} {args : Array Operand} {ts : Array TypeId} {c : Operand} {ys zs : List V} {post : Out → Prop}
    (hs : SpecT P f g cells zs post) (hL : ∀ b, ¬ Γ.L0 b) (hT : TabR g cells Γ.w0 Γ.M) (hc : ovO F c = some (.f f [])) (hf : P.funcs[f]? = some fn) (hb : fn.body.isSome = true) (hn : (fn.name == "runtime.NumGoroutine") = false) (hx : ovL F args.toList ys) (ha : ArgL ys zs) (hd : d < Γ.N)
    (k : ∀ y, post (.ret y) → JO P ops rest Γ ((d, y) :: F) H Q) (kp : ∀ ch, post (.pan ch) → Q (.panic ch) F H) :
    JO P ops (⟨some d, .call { callee := .value c, args := args, argTypes := ts }, T, ps, af, none⟩ :: rest) Γ F H Q := fun a w ⟨ρ, s⟩ =>
  wpList_plain rfl fun K hK => Q2 hL hT hc hf hb hn hx ha hs s (fun y v w' h1 h2 _ h4 => hK _ _ (k y h1 _ _ ⟨ρ, h4.put hd h2⟩)) (fun ch w' h1 _ h3 => ⟨F, H, kp ch h1, ρ, h3⟩)
theorem Ys {T E l sz : Nat} {ix : Operand} {zs : List V} {k : IntKind} {n : Int} {i : Nat} (hL : ∀ b, ¬ Γ.L0 b) (hT : TabR g cells Γ.w0 Γ.M) (hA : arB P T E l sz = true) (hi : ovO F ix = some (.i k n)) (hn : n = (i : Int))
    (h1 : i < l) (hz : cells.drop (i * sz) = zs) : LY P Γ (.indexAddr T (.global g) ix) F H (.q zs) := fun ρ a w s => by
  obtain ⟨ad, hv, hb, hc⟩ := T2 hL hT s
  refine ⟨.pointer (some (ad.add (i * sz))), ⟨ad.add (i * sz), rfl, by rw [Gl]; exact hb, ?_⟩, fun _ _ _ _ _ w' _ => ?_⟩
  · rw [Ku, ← hz]; have := Jh (i * sz) cells 0 hc; rwa [Nat.zero_add] at this
  · have hv' : a.eval (.global g) = .pointer (some ad) := hv
    have e : (Instr.indexAt T (a.eval (.global g)) (a.eval ix)).run P w' = .ok (.pointer (some (ad.add (i * sz)))) w' := by
      rw [hv', Dt s hi, hn]
      simp [Instr.indexAt, run_underlying (W0 hA), asIntOf, Da (Sq hA), Instr.sureAddr, h1]
    exact El e
end

theorem specT_calls {P : Program} {f : FuncId} {g : Nat} {cells : List V} {zs : List V} {vals : List Value} {w : World} (hT : TabR g cells w (fun _ => False)) (h : SpecT P f g cells zs (fun o => o = .ret (.b true))) (_ : World) (hr : RelL w (fun _ => False) w.heap.size [] zs vals) :
    Calls P f vals.toArray w fun e w' => e = .returned (.bool true) ∧ Below w.heap.size w w' :=
  (h (fun _ => False) w vals (fun _ h => h.elim) hT hr).mono fun e w' ⟨o, h1, h2, h3⟩ => by
    subst h1
    obtain ⟨v, rfl, hv⟩ := h2
    exact ⟨by rw [show v = .bool true from hv], h3⟩
theorem tabR_of {w : World} {g : Nat} {k : IntKind} {zs : List Int} (h0 : 0 < zs.length) (h : ∀ i, i < zs.length → w.cell? ⟨g, i, none⟩ = some (.int k (zs.getD i 0))) : TabR g (ints k zs) w (fun _ => False) := by
  refine ⟨⟨g, 0, none⟩, rfl, ⟨?_, fun h => h, by simp⟩, ?_⟩
  · have h1 := h 0 h0
    rcases Nat.lt_or_ge g w.heap.size with h2 | h2
    · exact h2
    · unfold World.cell? at h1
      have h3 : w.heap[g]? = none := Array.getElem?_eq_none h2
      simp [h3] at h1
  · refine M1 _ 0 fun j y hj => ?_
    rw [F8] at hj
    obtain ⟨z, hz, rfl⟩ := Option.map_eq_some_iff.1 hj
    have hl := (List.getElem?_eq_some_iff.1 hz).1
    refine ⟨.int k z, ?_, rfl⟩
    rw [Cj]
    have h4 := h j hl
    rw [List.getD_eq_getElem?_getD, hz] at h4
    simpa using h4

section
variable {P : Program} {Γ : Ctx} {F : Fr} {H : List Ob} {Q : Exit → Fr → List Ob → Prop}
theorem Y0 {ops : Array Oper} {rest : List Oper} {dst : Option Tmp} {T t : TypeId} {ps : String} {af : Array Edge} {x : Operand} {v : Value} (hx : ovO F x = some (.c (.iface t v))) (h : Q (.panic [{ v := .iface t v, recovered := false }]) F H) :
    JO P ops (⟨dst, .panic x, T, ps, af, none⟩ :: rest) Γ F H Q := fun a w ⟨ρ, s⟩ =>
  wpList_plain rfl fun K hK => by
    have e : a.eval x = .iface t v := s.ov hx
    unfold Oper.wp
    rw [show (execOp a.eval ⟨dst, .panic x, T, ps, af, none⟩).run P w = .halt (.panic (.iface t v)) w by simp [execOp, Instr.panic, e, goPanic, Sem.run]]
    exact ⟨F, H, h, ρ, s⟩
def Ctx.later (Γ : Ctx) (ρ : List Re) (d : Deferred) : Ctx := { Γ with ρ0 := ρ, ds := d :: Γ.ds }
theorem StA.later {ρ : List Re} {a : Act} {w : World} (s : StA Γ ρ F H a w) (d : Deferred) : StA (Γ.later ρ d) ρ F H { a with defers := d :: a.defers } w :=
  ⟨s.hr, s.n, by show d :: a.defers = d :: Γ.ds; rw [s.ds], s.fr, ⟨s.fro.os, s.fro.tape, s.fro.output, s.fro.size, s.fro.blk, s.fro.old, s.fro.mine, fun i r h => ⟨r, h, Nat.le_refl _, fun _ => rfl⟩⟩⟩
def Mf (Ho Hc : List Ob) : Prop := Hc.length = Ho.length ∧ ∀ (i : Nat) (o : Ob), Ho[i]? = some o → ∃ us : List Value, Hc[i]? = some ⟨o.t, o.sz, o.ver, true, us.map V.c⟩ ∧ us.length = o.cs.length ∧ ∀ u ∈ us, u.oneCell' = true
def Ae5 (m : Nat) : V → Bool
  | .p id ver off => Nat.blt id m && ver == 0
  | _ => false
def Nr (M : Nat → Prop) (ρ : List Re) (H : List Ob) (m : Nat) : Nat → Prop := fun b => M b ∨ ∃ (id : Nat) (ob : Ob) (re : Re), m ≤ id ∧ H[id]? = some ob ∧ ob.live = true ∧ ρ[id]? = some re ∧ re.g = some b
theorem G3 {α : Type} {l : List α} {m i : Nat} {x : α} (h : (l.take m)[i]? = some x) : i < m ∧ l[i]? = some x := by
  rw [List.getElem?_take] at h
  split at h
  · exact ⟨by assumption, h⟩
  · cases h
theorem Nq {α : Type} {l : List α} {m i : Nat} {x : α} (hi : i < m) (h : l[i]? = some x) : (l.take m)[i]? = some x := by rw [List.getElem?_take, if_pos hi]; exact h
theorem StA.constsn {ρ : List Re} {a : Act} {w : World} (m : Nat) (s : StA Γ ρ F H a w) (hl : ∀ o ∈ H.take m, o.live = true) :
    ∃ Hc, Mf (H.take m) Hc ∧ (∀ B, HR (Nr Γ.M ρ H m) w B (ρ.take m) Hc) ∧ (∀ b, Bb (Nr Γ.M ρ H m) (ρ.take m) Hc b ↔ Bb Γ.M ρ H b) ∧
      ∀ (i : Nat) (o oc : Ob), (H.take m)[i]? = some o → Hc[i]? = some oc → ∃ us : List Value, oc.cs = us.map V.c ∧ us.length = o.cs.length ∧ RelL w (Bb Γ.M ρ H) Γ.w0.heap.size ρ o.cs us := by
  have hex : ∀ i : Nat, ∃ us : List Value, ∀ o, (H.take m)[i]? = some o → us.length = o.cs.length ∧ (∀ u ∈ us, u.oneCell' = true) ∧ RelL w (Bb Γ.M ρ H) Γ.w0.heap.size ρ o.cs us ∧
      ∀ (re : Re) (g : Nat) (cur : Array Value), ρ[i]? = some re → re.g = some g → w.heap[g]? = some (.cells cur o.t (0, 0)) → ∀ (j : Nat) (u : Value), us[j]? = some u → cur[j]? = some u ∧ u.oneCell' = true := fun i => by
    cases hi : (H.take m)[i]? with
    | none => exact ⟨[], fun o h => by cases h⟩
    | some o =>
      obtain ⟨_, h1⟩ := G3 hi
      obtain ⟨re, ow⟩ := s.own h1 (hl o (List.mem_of_getElem? hi))
      cases hg : re.g with
      | none =>
        refine ⟨[], fun o' h => ?_⟩
        injection h with h; subst h
        have hc := (ow.ok.nob hg).1
        rw [hc]
        exact ⟨rfl, by simp, rfl, fun re' g cur e1 e2 => by
          obtain rfl : re' = re := by have := e1.symm.trans ow.at_; injection this
          rw [hg] at e2; cases e2⟩
      | some g =>
        obtain ⟨us, k1, k2, k3, k4⟩ := G9 ow hg o.cs 0 (fun j y h => by rw [Nat.zero_add]; exact h)
        refine ⟨us, fun o' h => ?_⟩
        injection h with h; subst h
        refine ⟨k1, k3, k2, fun re' g' cur e1 e2 e3 j u hu => ⟨?_, k3 u (List.mem_of_getElem? hu)⟩⟩
        obtain rfl : re' = re := by have := e1.symm.trans ow.at_; injection this
        obtain rfl : g' = g := by have := e2.symm.trans hg; injection this
        have := k4 j u hu
        rw [Cj, Nat.zero_add] at this
        simpa [World.cell?, e3] using this
  let f : Nat → List Value := fun i => Classical.choose (hex i)
  have hf : ∀ i o, (H.take m)[i]? = some o → (f i).length = o.cs.length ∧ (∀ u ∈ f i, u.oneCell' = true) ∧ RelL w (Bb Γ.M ρ H) Γ.w0.heap.size ρ o.cs (f i) ∧
      ∀ (re : Re) (g : Nat) (cur : Array Value), ρ[i]? = some re → re.g = some g → w.heap[g]? = some (.cells cur o.t (0, 0)) → ∀ (j : Nat) (u : Value), (f i)[j]? = some u → cur[j]? = some u ∧ u.oneCell' = true := fun i => Classical.choose_spec (hex i)
  clear_value f
  obtain ⟨Hc, hHc⟩ : ∃ Hc : List Ob, Hc = ((H.take m).zipIdx 0).map fun p => (⟨p.1.t, p.1.sz, p.1.ver, true, (f p.2).map V.c⟩ : Ob) := ⟨_, rfl⟩
  have hc : ∀ i : Nat, Hc[i]? = ((H.take m)[i]?).map fun o => (⟨o.t, o.sz, o.ver, true, (f i).map V.c⟩ : Ob) := fun i => by
    rw [hHc, List.getElem?_map, List.getElem?_zipIdx]
    cases (H.take m)[i]? <;> simp
  have hc2 : ∀ (i : Nat) (oc : Ob), Hc[i]? = some oc → ∃ o, (H.take m)[i]? = some o ∧ oc = ⟨o.t, o.sz, o.ver, true, (f i).map V.c⟩ := fun i oc h => by
    rw [hc] at h
    cases hi : (H.take m)[i]? with
    | none => rw [hi] at h; cases h
    | some o => rw [hi] at h; injection h with h; exact ⟨o, rfl, h.symm⟩
  have hlen : Hc.length = (H.take m).length := by rw [hHc]; simp
  have back : ∀ (i : Nat) (oc : Ob) (r : Re), Hc[i]? = some oc → (ρ.take m)[i]? = some r → ∃ o, i < m ∧ H[i]? = some o ∧ o.live = true ∧ ρ[i]? = some r := fun i oc r h1 h3 => by
    obtain ⟨o, e1, _⟩ := hc2 i oc h1
    exact ⟨o, (G3 e1).1, (G3 e1).2, hl o (List.mem_of_getElem? e1), (G3 h3).2⟩
  refine ⟨Hc, ⟨hlen, fun i o hi => ⟨f i, by rw [hc, hi]; rfl, (hf i o hi).1, (hf i o hi).2.1⟩⟩, fun B => ⟨by rw [hlen]; simp [s.hr.len], fun i oc h1 h2 => ?_, fun i j oi oj ri rj g hij h1 _ h3 _ h5 h6 h7 h8 => ?_, fun i o r g h1 _ h3 h4 hM => ?_⟩, fun b => ⟨?_, ?_⟩, fun i o oc h1 h2 => ?_⟩
  · obtain ⟨o, e1, rfl⟩ := hc2 i oc h1
    obtain ⟨hin, e2⟩ := G3 e1
    have hlo := hl o (List.mem_of_getElem? e1)
    obtain ⟨r, h3, h4⟩ := s.hr.ob i o e2 hlo
    obtain ⟨k1, _, _, k3⟩ := hf i o e1
    refine ⟨r, Nq hin h3, h4.ver, h4.sz, fun hg => ?_, fun g hg => ?_⟩
    · obtain ⟨g1, g2⟩ := h4.nob hg
      refine ⟨?_, g2⟩
      have : f i = [] := List.eq_nil_of_length_eq_zero (by rw [k1, g1]; rfl)
      show (f i).map V.c = []
      rw [this]; rfl
    · obtain ⟨cur, c1, c2, c3, c4, c5⟩ := h4.blk g hg
      refine ⟨cur, c1, c2, by show ((f i).map V.c).length ≤ _; rw [List.length_map, k1]; exact c3, c4, fun j y hy => ?_⟩
      have hy' : ((f i).map V.c)[j]? = some y := hy
      rw [List.getElem?_map] at hy'
      cases hu : (f i)[j]? with
      | none => rw [hu] at hy'; cases hy'
      | some u =>
        rw [hu] at hy'
        injection hy' with hy'; subst hy'
        obtain ⟨d1, d2⟩ := k3 r g cur h3 hg c1 j u hu
        exact ⟨u, d1, d2, rfl⟩
  · obtain ⟨o1, _, q1, q2, q3⟩ := back i oi ri h1 h5
    obtain ⟨o2, _, q4, q5, q6⟩ := back j oj rj h3 h6
    exact s.hr.apart i j o1 o2 ri rj g hij q1 q2 q4 q5 q3 q6 h7 h8
  · obtain ⟨o1, hin, q1, q2, q3⟩ := back i o r h1 h3
    rcases hM with hM | ⟨i2, o2, r2, p1, p2, p3, p4, p5⟩
    · exact s.hr.foreign i o1 r g q1 q2 q3 h4 hM
    · exact s.hr.apart i i2 o1 o2 r r2 g (by omega) q1 q2 p2 p3 q3 p4 h4 p5
  · rintro ((h | ⟨i2, o2, r2, _, p2, p3, p4, p5⟩) | ⟨i, o, r, h1, h2, h3, h4⟩)
    · exact .inl h
    · exact .inr ⟨i2, o2, r2, p2, p3, p4, p5⟩
    · obtain ⟨o1, hin, q1, q2, q3⟩ := back i o r h1 h3
      exact .inr ⟨i, o1, r, q1, q2, q3, h4⟩
  · rintro (h | ⟨i, o, r, h1, h2, h3, h4⟩)
    · exact .inl (.inl h)
    · by_cases hi : i < m
      · exact .inr ⟨i, _, r, by rw [hc, Nq hi h1]; rfl, rfl, Nq hi h3, h4⟩
      · exact .inl (.inr ⟨i, o, r, by omega, h1, h2, h3, h4⟩)
  · obtain ⟨o', e1, rfl⟩ := hc2 i oc h2
    obtain rfl : o' = o := by have := e1.symm.trans h1; injection this
    obtain ⟨k1, _, k2, _⟩ := hf i o' e1
    exact ⟨f i, rfl, k1, k2⟩
def W9 (P : Program) (g : FuncId) (args : List V) (H : List Ob) (u u' : FrameMode) (H' : List Ob) : Prop :=
  ∀ (M : Nat → Prop) (w : World) (ρ : List Re) (vals : List Value), (∀ b, M b → b < w.heap.size) → HR M w w.heap.size ρ H → RelL w (Bb M ρ H) w.heap.size ρ args vals →
    CallsD P g vals.toArray u w fun e m w' => (∃ v, e = .returned v) ∧ m = u' ∧ ∃ ρ', HR M w' w.heap.size ρ' H' ∧
      w'.os = w.os ∧ w'.tape = w.tape ∧ w'.output = w.output ∧ Ev w (Bb M ρ H) w.heap.size ρ w' (Bb M ρ' H') w.heap.size ρ' ∧
      (∀ (id : Nat) (ob : Ob) (re : Re) (g : Nat), H'[id]? = some ob → ob.live = true → ρ'[id]? = some re → re.g = some g → w.heap.size ≤ g ∨ Jc ρ H g) ∧ (∀ b, b < w.heap.size → ¬ Jc ρ H b → w'.heap[b]? = w.heap[b]?)
theorem Sn {m : Nat} {w1 : World} {L1 : Nat → Prop} {B1 : Nat} {ρ1 : List Re} {w : World} {L : Nat → Prop} {B : Nat} {ρ : List Re} (hρ : ∀ (id : Nat) (re : Re), ρ1[id]? = some re → ∃ re', ρ[id]? = some re' ∧ re.ver ≤ re'.ver ∧ (re.ver = re'.ver → re' = re)) :
    ∀ (caps : List V) (us : List Value), caps.all (Ae5 m) = true → RelL w1 L1 B1 ρ1 caps us → RelL w L B (ρ.take m) caps us
  | [], _, _, h => h
  | y :: ys, us, hc, ⟨u, us', e, h1, h2⟩ => by
    rw [List.all_cons, Bool.and_eq_true] at hc
    refine ⟨u, us', e, ?_, Sn hρ ys us' hc.2 h2⟩
    cases y with
    | p id ver off =>
      obtain ⟨re, e1, hv, hq⟩ := h1
      obtain ⟨re', e2, e3, e4⟩ := hρ id re e1
      have hc1 := hc.1
      simp only [Ae5, Bool.and_eq_true, Nat.blt_eq, beq_iff_eq] at hc1
      obtain ⟨hid, rfl⟩ := hc1
      refine ⟨re', by rw [List.getElem?_take, if_pos hid]; exact e2, Nat.zero_le _, fun hz => ?_⟩
      have h0 : re.ver = re'.ver := by omega
      rw [e4 h0]
      exact hq (by omega)
    | _ => simp [Ae5] at hc
def Ajh (P : Program) (Qf : Exit → Fr → List Ob → Prop) (g : FuncId) (caps : List V) (m : Nat) (u : FrameMode) (F : Fr) (H : List Ob) : Prop :=
  ∃ (u' : FrameMode) (H' : List Ob), u ≠ .run ∧ settle u' = .returning ∧ H'.length = m ∧ m ≤ H.length ∧ (∀ o ∈ H.take m, o.live = true) ∧
    (∀ Hc, Mf (H.take m) Hc → ∃ Hp, W9 P g caps Hc u u' Hp ∧ Hp.length = m ∧ ∀ k : Nat, (H'[k]? = (H.take m)[k]? ∧ Hp[k]? = Hc[k]?) ∨ Hp[k]? = H'[k]?) ∧ Qf .ret F (H' ++ H.drop m)
theorem Oo : ∀ (l1 l2 : List Value), l1.map V.c = l2.map V.c → l1 = l2
  | [], [], _ => rfl
  | [], _ :: _, h => by simp at h
  | _ :: _, [], h => by simp at h
  | x :: l1, y :: l2, h => by
    simp only [List.map_cons, List.cons.injEq, V.c.injEq] at h
    rw [h.1, Oo l1 l2 h.2]
theorem StA.afterD {ρ : List Re} {a : Act} {w w' : World} {m : Nat} (s : StA Γ ρ F H a w) (hl : ∀ o ∈ H.take m, o.live = true) (hmH : m ≤ H.length) {Hc : List Ob} (k1 : Mf (H.take m) Hc) (k3 : ∀ b, Bb (Nr Γ.M ρ H m) (ρ.take m) Hc b ↔ Bb Γ.M ρ H b)
    (k4 : ∀ (i : Nat) (o oc : Ob), (H.take m)[i]? = some o → Hc[i]? = some oc → ∃ us : List Value, oc.cs = us.map V.c ∧ us.length = o.cs.length ∧ RelL w (Bb Γ.M ρ H) Γ.w0.heap.size ρ o.cs us)
    {Hp H' : List Ob} {ρ' : List Re} (hH' : ∀ k : Nat, (H'[k]? = (H.take m)[k]? ∧ Hp[k]? = Hc[k]?) ∨ Hp[k]? = H'[k]?) (hHp : Hp.length = m) (hlm : H'.length = m)
    (h3 : HR (Nr Γ.M ρ H m) w' w.heap.size ρ' Hp) (h4 : w'.os = w.os) (h5 : w'.tape = w.tape) (h6 : w'.output = w.output) (ev : Ev w (Bb (Nr Γ.M ρ H m) (ρ.take m) Hc) w.heap.size (ρ.take m) w' (Bb (Nr Γ.M ρ H m) ρ' Hp) w.heap.size ρ')
    (h8 : ∀ (id : Nat) (ob : Ob) (re : Re) (g : Nat), Hp[id]? = some ob → ob.live = true → ρ'[id]? = some re → re.g = some g → w.heap.size ≤ g ∨ Jc (ρ.take m) Hc g) (h9 : ∀ b, b < w.heap.size → ¬ Jc (ρ.take m) Hc b → w'.heap[b]? = w.heap[b]?) :
    StA Γ (ρ' ++ ρ.drop m) F (H' ++ H.drop m) a w' := by
  have hHc : Hc.length = m := by rw [k1.1]; simp; omega
  have hρ' : ρ'.length = m := by rw [h3.len]; exact hHp
  have hρm : m ≤ ρ.length := by rw [s.hr.len]; exact hmH
  -- an object of the new list, seen where it comes from
  have partH : ∀ (i : Nat) (o : Ob), (H' ++ H.drop m)[i]? = some o → (i < m ∧ H'[i]? = some o) ∨ (m ≤ i ∧ H[i]? = some o) := fun i o h => by
    by_cases hi : i < m
    · rw [List.getElem?_append_left (by omega)] at h; exact .inl ⟨hi, h⟩
    · rw [List.getElem?_append_right (by omega), hlm, List.getElem?_drop] at h
      exact .inr ⟨by omega, by rw [show m + (i - m) = i by omega] at h; exact h⟩
  have partR : ∀ (i : Nat) (r : Re), (ρ' ++ ρ.drop m)[i]? = some r → (i < m ∧ ρ'[i]? = some r) ∨ (m ≤ i ∧ ρ[i]? = some r) := fun i r h => by
    by_cases hi : i < m
    · rw [List.getElem?_append_left (by omega)] at h; exact .inl ⟨hi, h⟩
    · rw [List.getElem?_append_right (by omega), hρ', List.getElem?_drop] at h
      exact .inr ⟨by omega, by rw [show m + (i - m) = i by omega] at h; exact h⟩
  have toR1 : ∀ (i : Nat) (r : Re), i < m → ρ'[i]? = some r → (ρ' ++ ρ.drop m)[i]? = some r := fun i r hi h => by rw [List.getElem?_append_left (by omega)]; exact h
  have toR2 : ∀ (i : Nat) (r : Re), m ≤ i → ρ[i]? = some r → (ρ' ++ ρ.drop m)[i]? = some r := fun i r hi h => by
    rw [List.getElem?_append_right (by omega), hρ', List.getElem?_drop, show m + (i - m) = i by omega]; exact h
  -- an object of H', as one of Hp
  have toP : ∀ (i : Nat) (o : Ob), H'[i]? = some o → o.live = true → ∃ op : Ob, Hp[i]? = some op ∧ op.live = true := fun i o h hlo => by
    rcases hH' i with ⟨e1, e2⟩ | e
    · rw [e1] at h
      obtain ⟨us, q, _⟩ := k1.2 i o h
      exact ⟨_, e2.trans q, rfl⟩
    · exact ⟨o, e.trans h, hlo⟩
  have handIn : ∀ b, Jc (ρ.take m) Hc b → ∃ (i : Nat) (o : Ob) (r : Re), i < m ∧ H[i]? = some o ∧ o.live = true ∧ ρ[i]? = some r ∧ r.g = some b := by
    rintro b ⟨i, o, r, q1, _, q3, q4⟩
    have hi : i < m := (G3 q3).1
    have hlt : i < (H.take m).length := by rw [← k1.1]; exact (List.getElem?_eq_some_iff.1 q1).1
    have hti : (H.take m)[i]? = some ((H.take m)[i]'hlt) := List.getElem?_eq_getElem hlt
    exact ⟨i, _, r, hi, (G3 hti).2, hl _ (List.mem_of_getElem? hti), (G3 q3).2, q4⟩
  have lset2 : ∀ b, b < w.heap.size → Bb Γ.M (ρ' ++ ρ.drop m) (H' ++ H.drop m) b → Bb Γ.M ρ H b := by
    rintro b hb (h | ⟨i, o, r, q1, q2, q3, q4⟩)
    · exact .inl h
    · rcases partH i o q1 with ⟨hi, p1⟩ | ⟨hi, p1⟩
      · rcases partR i r q3 with ⟨_, p3⟩ | ⟨hi2, _⟩
        · obtain ⟨op, p4, p5⟩ := toP i o p1 q2
          rcases h8 i op r b p4 p5 p3 q4 with h | h
          · omega
          · obtain ⟨i', o', r', _, z1, z2, z3, z4⟩ := handIn b h
            exact .inr ⟨i', o', r', z1, z2, z3, z4⟩
        · omega
      · rcases partR i r q3 with ⟨hi2, _⟩ | ⟨_, p3⟩
        · omega
        · exact .inr ⟨i, o, r, p1, q2, p3, q4⟩
  have evB : Ev w (Bb Γ.M ρ H) Γ.w0.heap.size ρ w' (Bb Γ.M (ρ' ++ ρ.drop m) (H' ++ H.drop m)) Γ.w0.heap.size (ρ' ++ ρ.drop m) := by
    refine ⟨ev.size, fun b hb hn => ev.blk b hb fun h => hn ((k3 b).1 h), fun b hb hn h => hn (lset2 b hb h), Nat.le_refl _, fun i r hi => ?_⟩
    by_cases him : i < m
    · obtain ⟨r', f1, f2, f3⟩ := ev.rho i r (Nq him hi)
      exact ⟨r', toR1 i r' him f1, f2, f3⟩
    · exact ⟨r, toR2 i r (by omega) hi, Nat.le_refl _, fun _ => rfl⟩
  have oldblk : ∀ (i : Nat) (o : Ob) (r : Re) (g : Nat), m ≤ i → H[i]? = some o → o.live = true → ρ[i]? = some r → r.g = some g → w'.heap[g]? = w.heap[g]? := fun i o r g hi q1 q2 q3 q4 =>
    h9 g (s.hr.lt q1 q2 q3 q4) fun h => by
      obtain ⟨i', o', r', z0, z1, z2, z3, z4⟩ := handIn g h
      exact s.hr.apart i i' o o' r r' g (by omega) q1 q2 z1 z2 q3 z3 q4 z4
  have hfirst : ∀ (i : Nat) (o : Ob), H'[i]? = some o → o.live = true → ∃ re, ρ'[i]? = some re ∧ ObOk w' (Bb Γ.M (ρ' ++ ρ.drop m) (H' ++ H.drop m)) Γ.w0.heap.size (ρ' ++ ρ.drop m) re o := fun i o q1 q2 => by
    have hi : i < m := by rw [← hlm]; exact (List.getElem?_eq_some_iff.1 q1).1
    rcases hH' i with ⟨e1, e2⟩ | e2
    · have q1' := q1
      rw [e1] at q1'
      obtain ⟨us', q5, q6, _⟩ := k1.2 i o q1'
      obtain ⟨re, r1, r2⟩ := h3.ob i _ (e2.trans q5) rfl
      obtain ⟨us2, t1, t2, t3⟩ := k4 i o _ q1' q5
      have hus : us' = us2 := Oo _ _ t1
      subst hus
      refine ⟨re, r1, r2.ver, r2.sz, fun hg => ?_, fun g hg => ?_⟩
      · obtain ⟨g1, g2⟩ := r2.nob hg
        refine ⟨List.eq_nil_of_length_eq_zero ?_, g2⟩
        have g1' : us'.map V.c = [] := g1
        rw [← q6, ← List.length_map (f := V.c), g1']; rfl
      · obtain ⟨cur, c1, c2, c3, c4, c5⟩ := r2.blk g hg
        have c3' : (us'.map V.c).length ≤ cur.size := c3
        refine ⟨cur, c1, c2, by rw [List.length_map, q6] at c3'; exact c3', c4, fun j y hy => ?_⟩
        obtain ⟨uj, hu, hru⟩ := Fq o.cs us' j y t3 hy
        obtain ⟨x, d1, d2, d3⟩ := c5 j (.c uj) (by show (us'.map V.c)[j]? = _; rw [List.getElem?_map, hu]; rfl)
        have hx : x = uj := d3
        subst hx
        exact ⟨x, d1, d2, hru.ev evB⟩
    · obtain ⟨re, r1, r2⟩ := h3.ob i o (e2.trans q1) q2
      refine ⟨re, r1, r2.ver, r2.sz, r2.nob, fun g hg => ?_⟩
      obtain ⟨cur, c1, c2, c3, c4, c5⟩ := r2.blk g hg
      refine ⟨cur, c1, c2, c3, c4, fun j y hy => ?_⟩
      obtain ⟨u, d1, d2, d3⟩ := c5 j y hy
      refine ⟨u, d1, d2, (I4 s.fro.size y u d3).ev ⟨Nat.le_refl _, fun _ _ _ => rfl, fun b _ hn h => hn ?_, Nat.le_refl _, fun i r h => ?_⟩⟩
      · rcases h with h | ⟨i2, o2, r2', z1, z2, z3, z4⟩
        · exact .inl (.inl h)
        · rcases partH i2 o2 z1 with ⟨y1, y2⟩ | ⟨y1, y2⟩
          · rcases partR i2 r2' z3 with ⟨_, y3⟩ | ⟨y4, _⟩
            · obtain ⟨op, p4, p5⟩ := toP i2 o2 y2 z2
              exact .inr ⟨i2, op, r2', p4, p5, y3, z4⟩
            · omega
          · rcases partR i2 r2' z3 with ⟨y4, _⟩ | ⟨_, y3⟩
            · omega
            · exact .inl (.inr ⟨i2, o2, r2', y1, y2, z2, y3, z4⟩)
      · have him : i < m := by rw [← hρ']; exact (List.getElem?_eq_some_iff.1 h).1
        exact ⟨r, toR1 i r him h, Nat.le_refl _, fun _ => rfl⟩
  -- where blocks of the new list come from
  have src : ∀ (i : Nat) (o : Ob) (r : Re) (g : Nat), (H' ++ H.drop m)[i]? = some o → o.live = true → (ρ' ++ ρ.drop m)[i]? = some r → r.g = some g →
      (i < m ∧ ∃ op : Ob, Hp[i]? = some op ∧ op.live = true ∧ ρ'[i]? = some r) ∨ (m ≤ i ∧ H[i]? = some o ∧ ρ[i]? = some r) := fun i o r g q1 q2 q3 q4 => by
    rcases partH i o q1 with ⟨y1, y2⟩ | ⟨y1, y2⟩
    · rcases partR i r q3 with ⟨_, y3⟩ | ⟨y4, _⟩
      · obtain ⟨op, p4, p5⟩ := toP i o y2 q2
        exact .inl ⟨y1, op, p4, p5, y3⟩
      · omega
    · rcases partR i r q3 with ⟨y4, _⟩ | ⟨_, y3⟩
      · omega
      · exact .inr ⟨y1, y2, y3⟩
  refine ⟨⟨?_, fun i o q1 q2 => ?_, fun i j oi oj ri rj g hij q1 q2 q3 q4 q5 q6 q7 q8 => ?_, fun i o r g q1 q2 q3 q4 hM => ?_⟩, s.n, s.ds, fun t => (s.fr t).ev evB, ⟨h4.trans s.fro.os, h5.trans s.fro.tape, h6.trans s.fro.output, Nat.le_trans s.fro.size ev.size, fun b hlt hnl => ?_, s.fro.old, fun i o r g q1 q2 q3 q4 => ?_, fun i r hi => ?_⟩⟩
  · simp only [List.length_append, List.length_drop, hρ', hlm, s.hr.len]
  · rcases partH i o q1 with ⟨y1, y2⟩ | ⟨y1, y2⟩
    · obtain ⟨re, r1, r2⟩ := hfirst i o y2 q2
      exact ⟨re, toR1 i re y1 r1, r2⟩
    · obtain ⟨re, r1, r2⟩ := s.hr.ob i o y2 q2
      refine ⟨re, toR2 i re y1 r1, r2.ver, r2.sz, r2.nob, fun g hg => ?_⟩
      obtain ⟨cur, c1, c2, c3, c4, c5⟩ := r2.blk g hg
      refine ⟨cur, by rw [oldblk i o re g y1 y2 q2 r1 hg]; exact c1, c2, c3, c4, fun j y hy => ?_⟩
      obtain ⟨u, d1, d2, d3⟩ := c5 j y hy
      exact ⟨u, d1, d2, d3.ev evB⟩
  · rcases src i oi ri g q1 q2 q5 q7 with ⟨a1, op, a2, a3, a4⟩ | ⟨a1, a2, a3⟩ <;> rcases src j oj rj g q3 q4 q6 q8 with ⟨b1, op2, b2, b3, b4⟩ | ⟨b1, b2, b3⟩
    · exact h3.apart i j op op2 ri rj g hij a2 a3 b2 b3 a4 b4 q7 q8
    · exact h3.foreign i op ri g a2 a3 a4 q7 (.inr ⟨j, oj, rj, b1, b2, q4, b3, q8⟩)
    · exact h3.foreign j op2 rj g b2 b3 b4 q8 (.inr ⟨i, oi, ri, a1, a2, q2, a3, q7⟩)
    · exact s.hr.apart i j oi oj ri rj g hij a2 q2 b2 q4 a3 b3 q7 q8
  · rcases src i o r g q1 q2 q3 q4 with ⟨a1, op, a2, a3, a4⟩ | ⟨a1, a2, a3⟩
    · exact h3.foreign i op r g a2 a3 a4 q4 (.inl hM)
    · exact s.hr.foreign i o r g a2 q2 a3 q4 hM
  · rw [h9 b (Nat.lt_of_lt_of_le hlt s.fro.size) fun h => by
      obtain ⟨i', o', r', _, z1, z2, z3, z4⟩ := handIn b h
      rcases s.fro.mine i' o' r' b z1 z2 z3 z4 with h | h
      · omega
      · exact hnl h]
    exact s.fro.blk b hlt hnl
  · rcases src i o r g q1 q2 q3 q4 with ⟨a1, op, a2, a3, a4⟩ | ⟨a1, a2, a3⟩
    · rcases h8 i op r g a2 a3 a4 q4 with h | h
      · exact .inl (Nat.le_trans s.fro.size h)
      · obtain ⟨i', o', r', _, z1, z2, z3, z4⟩ := handIn g h
        exact s.fro.mine i' o' r' g z1 z2 z3 z4
    · exact s.fro.mine i o r g a2 q2 a3 q4
  · obtain ⟨r1, e1, e2, e3⟩ := s.fro.rho i r hi
    obtain ⟨r2, f1, f2, f3⟩ := evB.rho i r1 e1
    refine ⟨r2, f1, Nat.le_trans e2 f2, fun e => ?_⟩
    have hv1 : r.ver = r1.ver := by omega
    have : r1 = r := e3 hv1
    subst this
    exact f3 e
theorem Qg {fn gn : Func} {g : FuncId} {caps : List V} {us : List Value} {m : Nat} {R : Ending → World → Prop} {Qf : Exit → Fr → List Ob → Prop} {u : FrameMode} (hgf : P.funcs[g]? = some gn) (hgb : gn.body.isSome = true) (hgn : (gn.name == "runtime.NumGoroutine") = false)
    (hds : Γ.ds = [⟨.fn (.func g) us.toArray, #[]⟩]) {w1 : World} {L1 : Nat → Prop} {B1 : Nat} (hcap : RelL w1 L1 B1 Γ.ρ0 caps us) (hcb : caps.all (Ae5 m) = true)
    (hE : ∀ F H ρ a w, StA Γ ρ F H a w → Qf .ret F H → ∃ v, (results fn a.tmps).run P w = .ok v w ∧ R (.returned v) w)
    {ρ : List Re} {a : Act} {w : World} (s : StA Γ ρ F H a w) (h : Ajh P Qf g caps m u F H) : Leaves P fn a.tmps R a.defers u w := by
  obtain ⟨u', H', hrun, hset, hlm, hmH, hl, hclo, hq⟩ := h
  obtain ⟨Hc, k1, k2, k3, k4⟩ := s.constsn m hl
  have hMlt : ∀ b, Nr Γ.M ρ H m b → b < w.heap.size := by
    rintro b (h | ⟨i, o, r, _, q1, q2, q3, q4⟩)
    · exact Nat.lt_of_lt_of_le (s.fro.old b h) s.fro.size
    · exact s.hr.lt q1 q2 q3 q4
  have hcaps : RelL w (Bb (Nr Γ.M ρ H m) (ρ.take m) Hc) w.heap.size (ρ.take m) caps us := Sn s.fro.rho caps us hcb hcap
  rw [s.ds, hds]
  refine leaves_cons (f := g) (args := us.toArray) hrun ?_ ?_
  · have hb' : ¬ gn.body = none := by intro h; rw [h] at hgb; cases hgb
    have hn' : ¬ gn.name = "runtime.NumGoroutine" := by simpa using hgn
    simp [invoke, callFunc, program, Sem.run, hgf]
    rw [if_neg hn', if_neg hb']
  · obtain ⟨Hp, hS, hHp, hHk⟩ := hclo Hc k1
    exact (hS (Nr Γ.M ρ H m) w (ρ.take m) us hMlt (k2 _) hcaps).mono fun e m' w' ⟨⟨v, he⟩, hm', ρ', h3, h4, h5, h6, ev, h8, h9⟩ => by
      subst he; subst hm'
      show Leaves P fn a.tmps R [] (settle m') w'
      rw [hset]
      exact hE _ _ _ _ _ (s.afterD hl hmH k1 k3 k4 hHk hHp hlm h3 h4 h5 h6 ev h8 h9) hq
def Oh (P : Program) (Qf : Exit → Fr → List Ob → Prop) (g : FuncId) (caps : List V) (m : Nat) : Exit → Fr → List Ob → Prop
  | .ret, F, H | .normal, F, H => Ajh P Qf g caps m .returning F H
  | .panic ch, F, H => Ajh P Qf g caps m (.panicking ch) F H
  | _, _, _ => False
theorem Ro {fn gn : Func} {g : FuncId} {caps : List V} {us : List Value} {m : Nat} {R : Ending → World → Prop} {Qf : Exit → Fr → List Ob → Prop} (hgf : P.funcs[g]? = some gn) (hgb : gn.body.isSome = true) (hgn : (gn.name == "runtime.NumGoroutine") = false)
    (hds : Γ.ds = [⟨.fn (.func g) us.toArray, #[]⟩]) {w1 : World} {L1 : Nat → Prop} {B1 : Nat} (hcap : RelL w1 L1 B1 Γ.ρ0 caps us) (hcb : caps.all (Ae5 m) = true)
    (hE : ∀ F H ρ a w, StA Γ ρ F H a w → Qf .ret F H → ∃ v, (results fn a.tmps).run P w = .ok v w ∧ R (.returned v) w)
    (e : Exit) (a : Act) (w : World) (h : toQ Γ (Oh P Qf g caps m) e a w) : bodyPostD P fn R e a w := by
  obtain ⟨F, H, q, ρ, s⟩ := h
  cases e with
  | normal => exact Qg hgf hgb hgn hds hcap hcb hE s q
  | ret => exact Qg hgf hgb hgn hds hcap hcb hE s q
  | panic ch => exact Qg hgf hgb hgn hds hcap hcb hE s q
  | _ => exact absurd q (by simp [Oh])
theorem Fm {ops : Array Oper} {𝒬 : Exit → Act → World → Prop} {post : List Oper} : ∀ (pre : List Oper) (a : Act) (w : World), wpList P ops (Exit.then (wpList P ops 𝒬 post) 𝒬) pre a w → wpList P ops 𝒬 (pre ++ post) a w
  | [], a, w, h => h
  | o :: pre, a, w, h => by
    have hQ : ∀ e a w, Exit.then (wpList P ops 𝒬 post) 𝒬 e a w → e ≠ .normal → 𝒬 e a w := fun e a w q hne => by cases e <;> first | exact absurd rfl hne | exact q
    unfold wpList at h
    show wpList P ops 𝒬 (o :: (pre ++ post)) a w
    unfold wpList
    split at h
    · rename_i hw
      rw [if_pos hw]
      rcases h with h | ⟨h1, h2⟩
      · refine .inl ?_
        unfold Oper.wp at h ⊢
        revert h
        generalize (execOp a.eval o).run P w = r
        intro h
        cases r with
        | ok n w' =>
          cases n <;> try exact h
          all_goals first
            | exact Fm pre _ _ h
            | skip
          case enter f args =>
            exact Calls.mono h fun e w'' q => by
              cases e with
              | returned v => exact Fm pre _ _ q
              | panicked ch => exact q
              | outgrown => exact q
          case row r args =>
            exact Rows.mono h fun v w'' q => Fm pre _ _ q
        | halt hh w' =>
          cases hh <;> first | exact h | exact h.elim
      · exact .inr ⟨h1, h2⟩
    · rename_i hw
      rw [if_neg hw]
      exact Fm pre _ _ h
end

section
variable {P : Program} {Γ : Ctx} {F : Fr} {H : List Ob} {Q : Exit → Fr → List Ob → Prop}
theorem Dj {fn gn : Func} {g : FuncId} {caps : List V} {R : Ending → World → Prop} {Qf : Exit → Fr → List Ob → Prop} (m : Nat) {id : Nat} (pre : List Oper) {rest : List Oper} {y : Code} {x : Operand} {T : TypeId} {ps : String} {af : Array Edge} {ts : Array TypeId} {ops : List Oper} (hops : ops = pre ++ ⟨none, .defer { callee := .value x, args := #[], argTypes := ts }, T, ps, af, none⟩ :: rest)
    (hgf : P.funcs[g]? = some gn) (hgb : gn.body.isSome = true) (hgn : (gn.name == "runtime.NumGoroutine") = false) (hcb : caps.all (Ae5 m) = true) (hds : Γ.ds = []) (hR : Γ.ρ0 = []) (hp : ∀ b, ¬ Γ.L0 b)
    (hE : ∀ F H ρ a w, StA Γ ρ F H a w → Qf .ret F H → ∃ v, (results fn a.tmps).run P w = .ok v w ∧ R (.returned v) w)
    (j : JO P ops.toArray pre Γ F H (fun e F' H' => e = .normal ∧ ovO F' x = some (.f g caps) ∧ H'.length = m ∧ ∀ Γ1 : Ctx, Γ1.N = Γ.N → (∀ b, ¬ Γ1.L0 b) → Γ1.ρ0.length = m →
      JO P ops.toArray rest Γ1 F' H' (I5 (fun F'' H'' => JC P y Γ1 F'' H'' (Oh P Qf g caps m)) (Oh P Qf g caps m)))) :
    JCP P (.seq (.region id ops.toArray false) y) Γ F H (bodyPostD P fn R) := fun a w s => by
  refine wp_seq (wp_region_lit ?_)
  have hj := j a w s
  generalize hA : ops.toArray = A at hj ⊢
  rw [hops]
  refine Fm pre a w (Eq (fun e a' w' q => ?_) pre a w hj)
  obtain ⟨F', H', ⟨rfl, hx, hm, k⟩, ρ, s'⟩ := q
  show wpList P A _ (_ :: rest) a' w'
  obtain ⟨us, hv, hr⟩ := s'.ov hx
  refine wpList_plain rfl fun K hK => ?_
  unfold Oper.wp
  rw [show (execOp a'.eval ⟨none, .defer { callee := .value x, args := #[], argTypes := ts }, T, ps, af, none⟩).run P w' = .ok (.defer ⟨.fn (.func g) us.toArray, #[]⟩) w' by simp [execOp, resolve, hv, Deferred.ofValue, Sem.run]]
  refine hK _ _ ?_
  let d : Deferred := ⟨.fn (.func g) us.toArray, #[]⟩
  have s1 : StA (Γ.later ρ d) ρ F' H' { a' with defers := d :: a'.defers } w' := s'.later d
  have hE1 : ∀ F H ρ2 a w, StA (Γ.later ρ d) ρ2 F H a w → Qf .ret F H → ∃ v, (results fn a.tmps).run P w = .ok v w ∧ R (.returned v) w := fun F H ρ2 a w s2 q =>
    hE F H ρ2 { a with defers := Γ.ds } w ⟨s2.hr, s2.n, rfl, s2.fr, ⟨s2.fro.os, s2.fro.tape, s2.fro.output, s2.fro.size, s2.fro.blk, s2.fro.old, s2.fro.mine, fun i r h => by rw [hR] at h; simp at h⟩⟩ q
  have hq : ∀ e a w, toQ (Γ.later ρ d) (Oh P Qf g caps m) e a w → bodyPostD P fn R e a w := fun e a w h =>
    Ro (Γ := Γ.later ρ d) (m := m) hgf hgb hgn (by show d :: Γ.ds = _; rw [hds]) hr hcb hE1 e a w h
  have j1 := k (Γ.later ρ d) rfl hp (by show ρ.length = m; rw [← hm]; exact s'.hr.len) _ _ ⟨ρ, s1⟩
  refine Eq (fun e a2 w2 q2 => ?_) rest _ _ j1
  obtain ⟨F2, H2, q3, s2⟩ := q2
  cases e with
  | normal => exact Code.wp_mono hq (q3 a2 w2 s2)
  | exit id => exact hq (.exit id) a2 w2 ⟨F2, H2, q3, s2⟩
  | goto l => exact hq (.goto l) a2 w2 ⟨F2, H2, q3, s2⟩
  | ret => exact hq .ret a2 w2 ⟨F2, H2, q3, s2⟩
  | panic ch => exact hq (.panic ch) a2 w2 ⟨F2, H2, q3, s2⟩
  | outgrown => exact hq .outgrown a2 w2 ⟨F2, H2, q3, s2⟩
theorem V6 {f : FuncId} {fn : Func} {c : Code} {args : List V} (hf : P.funcs[f]? = some fn) (hb : fn.body = some c) (hn : args.length ≤ fn.ntmps)
    (M : Nat → Prop) (w : World) (vals : List Value) (hM : ∀ b, M b → b < w.heap.size) (hr : RelL w M w.heap.size [] args vals) {R : Ending → World → Prop}
    (h : ∀ Γ : Ctx, Γ.w0 = w → Γ.M = M → Γ.N = fn.ntmps → Γ.ds = [] → (∀ b, ¬ Γ.L0 b) → Γ.ρ0 = [] → JCP P c Γ ((args.zipIdx 0).map fun p => (p.2, p.1)) [] (bodyPostD P fn R)) : Calls P f vals.toArray w R := by
  refine calls_of_wp_defers hf hb ?_
  have hlen : vals.length = args.length := (Fw args vals hr).1
  let Γ : Ctx := ⟨fn.ntmps, w, M, [], fun _ => False, []⟩
  have Leq : ∀ b, Bb M [] [] b → M b := by
    rintro b (h | ⟨i, o, r, h1, _⟩)
    · exact h
    · simp at h1
  have s : StA Γ [] ((args.zipIdx 0).map fun p => (p.2, p.1)) [] ⟨vals.toArray ++ Array.replicate (fn.ntmps - vals.toArray.size) undef, []⟩ w := by
    refine ⟨⟨rfl, fun i o h => by simp at h, fun i j oi oj ri rj g _ h => by simp at h, fun i o r g h => by simp at h⟩, ?_, rfl, fun t => ?_, ⟨rfl, rfl, rfl, Nat.le_refl _, fun _ _ _ => rfl, hM, fun i o r g h => by simp at h, fun i r h => by have h' : ([] : List Re)[i]? = some r := h; simp at h'⟩⟩
    · show fn.ntmps ≤ (vals.toArray ++ Array.replicate (fn.ntmps - vals.toArray.size) undef).size
      simp; omega
    · have look : ∀ (ys : List V) (k t : Nat), Cp ((ys.zipIdx k).map fun p => (p.2, p.1)) t = if k ≤ t then ys[t - k]? else none := by
        intro ys
        induction ys with
        | nil => intro k t; simp [Cp]
        | cons y ys ih =>
          intro k t
          simp only [List.zipIdx_cons, List.map_cons, Cp]
          cases hb : Nat.beq t k
          · have hne : t ≠ k := by intro e; subst e; simp at hb
            rw [ih (k + 1) t]
            by_cases h1 : k ≤ t
            · rw [if_pos h1, if_pos (by omega), show t - k = (t - (k + 1)) + 1 by omega]; rfl
            · rw [if_neg h1, if_neg (by omega)]; rfl
          · have := Nat.eq_of_beq_eq_true hb
            subst this
            simp
      unfold get
      rw [look args 0 t, if_pos (Nat.zero_le _), Nat.sub_zero]
      cases ht : args[t]? with
      | none => exact trivial
      | some y =>
        obtain ⟨u, hu, hru⟩ := Fq args vals t y hr ht
        have hlt : t < vals.length := (List.getElem?_eq_some_iff.1 hu).1
        have e : ((vals.toArray ++ Array.replicate (fn.ntmps - vals.toArray.size) undef).getD t undef) = u := by
          rw [Array.getD_eq_getD_getElem?, Array.getElem?_append_left (by simpa using hlt)]
          simp [hu]
        show Rel w (Bb M [] []) w.heap.size [] y ((vals.toArray ++ Array.replicate (fn.ntmps - vals.toArray.size) undef).getD t undef)
        rw [e]
        exact hru.ev ⟨Nat.le_refl _, fun _ _ _ => rfl, fun b _ hn h => hn (Leq b h), Nat.le_refl _, fun i r h => by simp at h⟩
  exact h Γ rfl rfl rfl rfl (fun _ h => h) rfl _ _ ⟨_, s⟩
theorem D6 {f : FuncId} {fn : Func} {c : Code} {args : List V} {post : Out → Prop} (F0 : Fr) (h0 : ((args.zipIdx 0).map fun p => (p.2, p.1)) = F0) (hf : P.funcs[f]? = some fn) (hb : fn.body = some c) (hn : args.length ≤ fn.ntmps)
    (h : ∀ (Γ : Ctx) (R : Ending → World → Prop), Γ.N = fn.ntmps → Γ.ds = [] → (∀ b, ¬ Γ.L0 b) → Γ.ρ0 = [] → (∀ F H ρ a w, StA Γ ρ F H a w → Adj P fn post .ret F H → ∃ v, (results fn a.tmps).run P w = .ok v w ∧ R (.returned v) w) →
      JCP P c Γ F0 [] (bodyPostD P fn R)) : Spec P f args post := fun M w vals hM hr => by
  subst h0; refine V6 hf hb hn M w vals hM hr fun Γ e1 e2 h1 h2 h3 h4 => h Γ _ h1 h2 h3 h4 ?_; rintro F H ρ a w' s ⟨ys, z, q1, q2, q3⟩
  obtain ⟨v, hv, hr'⟩ := s.results q1
  refine ⟨v, hv, .ret z, q3, ⟨v, rfl, ?_⟩, ?_⟩
  · have := q2.rel s h3 hr'
    rw [e1, e2] at this
    exact this
  · rw [← e1]
    exact ⟨s.fro.os, s.fro.tape, s.fro.output, s.fro.size, fun b hb => s.fro.blk b hb (h3 b)⟩
def Agb (Γ : Ctx) (c0 : Frame) (cs : List Frame) (Q : Exit → Fr → List Ob → FrameMode → Prop) : Exit → Act → List Frame → World → Prop :=
  fun e a cs' w => ∃ F H m, cs' = { c0 with mode := m } :: cs ∧ Q e F H m ∧ St Γ F H a w
def JCS (P : Program) (x : Code) (Γ : Ctx) (F : Fr) (H : List Ob) (u : FrameMode) (Q : Exit → Fr → List Ob → FrameMode → Prop) : Prop :=
  ∀ (c0 : Frame) (cs : List Frame) a w, c0.mode = u → St Γ F H a w → x.wpS P (Agb Γ c0 cs Q) a (c0 :: cs) w
variable {u : FrameMode} {QS : Exit → Fr → List Ob → FrameMode → Prop}
def Ak3 (R : Fr → List Ob → FrameMode → Prop) (Q : Exit → Fr → List Ob → FrameMode → Prop) : Exit → Fr → List Ob → FrameMode → Prop
  | .normal, F, H, m => R F H m
  | e, F, H, m => Q e F H m
def Ux : FrameMode → Value × FrameMode
  | .panicking ({ v, recovered := false, goexit := false } :: older) => (v, .panicking ({ v, recovered := true } :: older))
  | m => (.nilIface, m)
theorem Yg (c0 : Frame) (cs : List Frame) : (recoverD (c0 :: cs) = none ∧ Ux c0.mode = (.nilIface, c0.mode)) ∨ recoverD (c0 :: cs) = some ((Ux c0.mode).1, { c0 with mode := (Ux c0.mode).2 } :: cs) := by
  obtain ⟨_, _, _, _, mode, _, _⟩ := c0
  cases mode with
  | run => exact .inl ⟨rfl, rfl⟩
  | returning => exact .inl ⟨rfl, rfl⟩
  | panicking ch =>
    cases ch with
    | nil => exact .inl ⟨rfl, rfl⟩
    | cons p older =>
      obtain ⟨v, r, g⟩ := p
      cases r <;> cases g <;> first | exact .inl ⟨rfl, rfl⟩ | exact .inr rfl
def Lw (P : Program) (fn : Func) (n : Nat) (u' : FrameMode) (Hp : List Ob) : Exit → Fr → List Ob → FrameMode → Prop
  | .ret, F, H, m | .normal, F, H, m => m = u' ∧ H.take n = Hp ∧ ObsId n Hp ∧ ∃ ys, ResL P F H fn.results.toList ys
  | _, _, _, _ => False
theorem X1 {f : FuncId} {fn : Func} {c : Code} {args : List V} {H0 Hp : List Ob} {u' : FrameMode} (F0 : Fr) (h0 : ((args.zipIdx 0).map fun p => (p.2, p.1)) = F0) (n : Nat) (hn0 : H0.length = n) (hf : P.funcs[f]? = some fn) (hb : fn.body = some c) (hn : args.length ≤ fn.ntmps)
    (h : ∀ Γ : Ctx, Γ.N = fn.ntmps → Γ.ds = [] → JCS P c Γ F0 H0 u (Lw P fn n u' Hp)) : W9 P f args H0 u u' Hp := fun M w ρ vals hM hR hr => by
  subst h0; subst hn0; refine callsD_of_wpS hf hb fun c₀ cs hu => ?_
  have hlen : vals.length = args.length := (Fw args vals hr).1
  let Γ : Ctx := ⟨fn.ntmps, w, M, ρ, Jc ρ H0, []⟩
  have s : StA Γ ρ ((args.zipIdx 0).map fun p => (p.2, p.1)) H0 ⟨vals.toArray ++ Array.replicate (fn.ntmps - vals.toArray.size) undef, []⟩ w := by
    refine ⟨hR, ?_, rfl, fun t => ?_, ⟨rfl, rfl, rfl, Nat.le_refl _, fun _ _ _ => rfl, hM, fun i o r g h1 h2 h3 h4 => .inr ⟨i, o, r, h1, h2, h3, h4⟩, fun i r h => ⟨r, h, Nat.le_refl _, fun _ => rfl⟩⟩⟩
    · show fn.ntmps ≤ (vals.toArray ++ Array.replicate (fn.ntmps - vals.toArray.size) undef).size
      simp; omega
    · have look : ∀ (ys : List V) (k t : Nat), Cp ((ys.zipIdx k).map fun p => (p.2, p.1)) t = if k ≤ t then ys[t - k]? else none := by
        intro ys
        induction ys with
        | nil => intro k t; simp [Cp]
        | cons y ys ih =>
          intro k t
          simp only [List.zipIdx_cons, List.map_cons, Cp]
          cases hb : Nat.beq t k
          · have hne : t ≠ k := by intro e; subst e; simp at hb
            rw [ih (k + 1) t]
            by_cases h1 : k ≤ t
            · rw [if_pos h1, if_pos (by omega), show t - k = (t - (k + 1)) + 1 by omega]; rfl
            · rw [if_neg h1, if_neg (by omega)]; rfl
          · have := Nat.eq_of_beq_eq_true hb
            subst this
            simp
      unfold get
      rw [look args 0 t, if_pos (Nat.zero_le _), Nat.sub_zero]
      cases ht : args[t]? with
      | none => exact trivial
      | some y =>
        obtain ⟨u, hu, hru⟩ := Fq args vals t y hr ht
        have hlt : t < vals.length := (List.getElem?_eq_some_iff.1 hu).1
        have e : ((vals.toArray ++ Array.replicate (fn.ntmps - vals.toArray.size) undef).getD t undef) = u := by
          rw [Array.getD_eq_getD_getElem?, Array.getElem?_append_left (by simpa using hlt)]
          simp [hu]
        show Rel w (Bb M ρ H0) w.heap.size ρ y ((vals.toArray ++ Array.replicate (fn.ntmps - vals.toArray.size) undef).getD t undef)
        rw [e]
        exact hru
  have hΓlen : Γ.ρ0.length ≤ H0.length := by show ρ.length ≤ _; rw [hR.len]; exact Nat.le_refl _
  intro b k hb' hr'
  obtain ⟨e, a, cs', w', ⟨F, H, m, rfl, q, ρ1, s'⟩, harr⟩ := h Γ rfl rfl c₀ cs _ w hu ⟨_, s⟩ b k hb' hr'
  refine ⟨e, a, _, w', ?_, harr⟩
  have fin : m = u' ∧ H.take H0.length = Hp ∧ ObsId H0.length Hp ∧ (∃ ys, ResL P F H fn.results.toList ys) → a.defers = [] ∧ ∃ u2, { c₀ with mode := m } :: cs = { c₀ with mode := u2 } :: cs ∧ ∃ v, (Go.results fn a.tmps).run P w' = .ok v w' ∧ (∃ x, Ending.returned v = .returned x) ∧ u2 = u' ∧ ∃ ρ', HR M w' w.heap.size ρ' Hp ∧
      w'.os = w.os ∧ w'.tape = w.tape ∧ w'.output = w.output ∧ Ev w (Bb M ρ H0) w.heap.size ρ w' (Bb M ρ' Hp) w.heap.size ρ' ∧
      (∀ (id : Nat) (ob : Ob) (re : Re) (g : Nat), Hp[id]? = some ob → ob.live = true → ρ'[id]? = some re → re.g = some g → w.heap.size ≤ g ∨ Jc ρ H0 g) ∧ (∀ b, b < w.heap.size → ¬ Jc ρ H0 b → w'.heap[b]? = w.heap[b]?) := by
    rintro ⟨h1, h2, h3, ys, h4⟩; subst h2
    obtain ⟨v, hv, _⟩ := s'.results h4
    obtain ⟨c1, c2, c3⟩ := s'.cutn H0.length h3 hΓlen
    refine ⟨s'.ds, m, rfl, v, hv, ⟨v, rfl⟩, h1, _, c1, c2.os, c2.tape, c2.output, ⟨c2.size, fun b hlt hL => c2.blk b hlt fun hh => hL (.inr hh), fun b hlt hL hL' => ?_, Nat.le_refl _, c2.rho⟩, fun i o r g h1 h2 h3 h4 => c2.mine i o r g h1 h2 h3 h4, fun b hlt hh => c2.blk b hlt hh⟩
    rcases hL' with hM' | ⟨i, o, r, h1, h2, h3, h4⟩
    · exact hL (.inl hM')
    · rcases c2.mine i o r b h1 h2 h3 h4 with h | h
      · have h' : w.heap.size ≤ b := h
        omega
      · exact hL (.inr h)
  cases e with
  | normal => exact fin q
  | ret => exact fin q
  | _ => exact absurd q (by simp [Lw])
end

section
variable {P : Program} {ops : Array Oper} {Q : Exit → Act → List Frame → World → Prop}
def Kd (P : Program) (ops : Array Oper) (Q : Exit → Act → List Frame → World → Prop) (i : Nat) (K : Act → List Frame → World → Prop) (a : Act) (cs : List Frame) (w : World) : Prop :=
  match ops[i]? with
  | none => K a cs w
  | some o =>
    if Region.wanted o (yielded ops a.tmps) then
      match (execOp a.eval o).run P w with
      | .ok .recover w' =>
        match recoverD cs with
        | some (v, cs') => K (a.put o.dst v) cs' w'
        | none => K (a.put o.dst .nilIface) cs w'
      | r => o.upon P a (fun a' w' => K a' cs w') (fun e a' w' => Q e a' cs w') r
    else K (a.put o.dst undef) cs w
theorem Pg (i : Nat) (rest : List Nat) (a : Act) (cs : List Frame) (w : World) : wpOpsS P ops Q (i :: rest) a cs w = Kd P ops Q i (wpOpsS P ops Q rest) a cs w := by
  cases h : ops[i]? <;> simp only [wpOpsS, Kd, h] <;> rfl
theorem Su {i : Nat} {a : Act} {cs : List Frame} {w : World} {K K' : Act → List Frame → World → Prop} (h : ∀ a cs w, K a cs w → K' a cs w) (hh : Kd P ops Q i K a cs w) : Kd P ops Q i K' a cs w := by
  unfold Kd at *
  cases ho : ops[i]? with
  | none => rw [ho] at hh; exact h _ _ _ hh
  | some o =>
    rw [ho] at hh
    simp only at hh ⊢
    split
    · rename_i hw
      rw [if_pos hw] at hh
      generalize (execOp a.eval o).run P w = r at *
      have gen : ∀ r, o.upon P a (fun a' w' => K a' cs w') (fun e a' w' => Q e a' cs w') r → o.upon P a (fun a' w' => K' a' cs w') (fun e a' w' => Q e a' cs w') r := by
        intro r hh
        cases r with
        | ok n w' =>
          cases n <;> simp only [Oper.upon] at hh ⊢ <;>
            first
              | exact h _ _ _ hh
              | exact Calls.mono hh (fun e w'' he => by cases e <;> first | exact h _ _ _ he | exact he)
              | exact Rows.mono hh (fun _ _ he => h _ _ _ he)
        | halt x w' => cases x <;> simp only [Oper.upon] at hh ⊢ <;> exact hh
      cases r with
      | ok n w' =>
        cases n <;> first | exact gen _ hh | skip
        revert hh
        simp only
        cases recoverD cs with
        | none => exact fun hh => h _ _ _ hh
        | some p => exact fun hh => h _ _ _ hh
      | halt x w' => exact gen _ hh
    · rename_i hw
      rw [if_neg hw] at hh
      exact h _ _ _ hh
def Afo (P : Program) (ops : Array Oper) (Q : Exit → Act → List Frame → World → Prop) : Nat → Array Bool → Act → List Frame → World → Prop
  | 0, listed, a, cs, w => Region.ready .any ops listed = [] ∧ Q .normal a cs w
  | fuel + 1, listed, a, cs, w => (Region.ready .any ops listed = [] → Q .normal a cs w) ∧ ∀ i ∈ Region.ready .any ops listed, Kd P ops Q i (Afo P ops Q fuel (listed.setIfInBounds i true)) a cs w
theorem Te : ∀ (fuel t : Nat) (listed : Array Bool) (a : Act) (cs : List Frame) (w : World), Afo P ops Q fuel listed a cs w → wpOpsS P ops Q (Region.linearise.go .any ops fuel t listed []) a cs w := by
  intro fuel
  induction fuel with
  | zero => intro t listed a cs w h; simpa [Region.linearise.go, wpOpsS] using h.2
  | succ fuel ih =>
    intro t listed a cs w h
    obtain ⟨h₀, h₁⟩ := h
    simp only [Region.linearise.go]
    change wpOpsS P ops Q (match (Region.ready .any ops listed)[t % (Region.ready .any ops listed).length]? with
      | some i => Region.linearise.go .any ops fuel (t / (Region.ready .any ops listed).length) (listed.setIfInBounds i true) [i]
      | none => [].reverse) a cs w
    cases hi : (Region.ready .any ops listed)[t % (Region.ready .any ops listed).length]? with
    | none =>
      have hnil : Region.ready .any ops listed = [] := by
        cases hr : Region.ready .any ops listed with
        | nil => rfl
        | cons x xs =>
          rw [hr] at hi
          have hlt : t % (x :: xs).length < (x :: xs).length := Nat.mod_lt _ (by simp)
          simp at hi
          simp at hlt
          omega
      simpa [wpOpsS] using h₀ hnil
    | some i =>
      simp only []
      rw [linearise_go_acc, List.reverse_singleton, List.singleton_append, Pg]
      exact Su (fun a cs w => ih _ _ a cs w) (h₁ i (List.mem_of_getElem? hi))
theorem Xn {i : Nat} {a : Act} {cs : List Frame} {w : World} {K : Act → List Frame → World → Prop} (hout : ¬ LetsOut (fun e a w => Q e a cs w)) (h : wpOp P ops (fun e a w => Q e a cs w) i (fun a w => K a cs w) a w) : Kd P ops Q i K a cs w := by
  unfold wpOp at h
  unfold Kd
  cases ho : ops[i]? with
  | none => rw [ho] at h; exact h
  | some o =>
    rw [ho] at h
    simp only at h ⊢
    split
    · rename_i hw
      rw [if_pos hw] at h
      rcases h with h | ⟨_, h⟩
      · unfold Oper.wp at h
        generalize (execOp a.eval o).run P w = r at *
        cases r with
        | ok n w' => cases n <;> first | exact h | exact h.elim
        | halt x w' => exact h
      · exact absurd h hout
    · rename_i hw
      rw [if_neg hw] at h
      exact h
theorem W2 {cs : List Frame} (hout : ¬ LetsOut (fun e a w => Q e a cs w)) : ∀ (fuel : Nat) (listed : Array Bool) (a : Act) (w : World), wpAny P .any ops (fun e a w => Q e a cs w) fuel listed a w → Afo P ops Q fuel listed a cs w
  | 0, _, _, _, h => h
  | fuel + 1, _, _, _, h => ⟨h.1, fun i hi => Xn hout (wpOp_mono (fun a' w' h' => W2 hout fuel _ a' w' h') (h.2 i hi))⟩
theorem Lh {id : Nat} {a : Act} {cs : List Frame} {w : World} (hm : P.follows .mixedOrders = true) (h : Afo P ops Q ops.size (Array.replicate ops.size false) a cs { w with drawn := w.drawn + 1 }) : (Code.region id ops true).wpS P Q a cs w := fun b k hb hr => by
  have hl : ∀ t, wpOpsS P ops Q (Region.schedule (P.follows .mixedOrders) ops t) a cs { w with drawn := w.drawn + 1 } := fun t => by
    simp only [Region.schedule, hm, Bool.true_or, if_true]
    exact Te ops.size t _ a cs _ h
  obtain ⟨e, a', cs', w', q, r⟩ := wp_opsS _ a cs _ (hl (w.tape w.drawn (.order b.fn id))) b k hb hr
  exact ⟨e, a', cs', w', q, .of_steps (.one step_region_draw) r⟩
end
section
variable {P : Program} {Γ : Ctx} {F : Fr} {H : List Ob} {u : FrameMode} {QS : Exit → Fr → List Ob → FrameMode → Prop} {ops : Array Oper}
theorem Gp {Q Q' : Exit → Act → World → Prop} (hq : ∀ e a w, Q e a w → Q' e a w) : ∀ (fuel : Nat) (listed : Array Bool) (a : Act) (w : World), wpAny P .any ops Q fuel listed a w → wpAny P .any ops Q' fuel listed a w
  | 0, _, _, _, h => ⟨h.1, hq _ _ _ h.2⟩
  | fuel + 1, listed, a, w, h => ⟨fun e => hq _ _ _ (h.1 e), fun i hi => by
    have h1 := h.2 i hi
    unfold wpOp at h1 ⊢
    cases ho : ops[i]? with
    | none => rw [ho] at h1; exact Gp hq fuel _ _ _ h1
    | some o =>
      rw [ho] at h1
      simp only at h1 ⊢
      split
      · rename_i hw
        rw [if_pos hw] at h1
        rcases h1 with h1 | ⟨h1, a', w', h2⟩
        · exact .inl (Oper.wp_monoQ (Gp hq fuel _) hq h1)
        · exact .inr ⟨h1, a', w', hq _ _ _ h2⟩
      · rename_i hw
        rw [if_neg hw] at h1
        exact Gp hq fuel _ _ _ h1⟩
def JAS (P : Program) (ops : Array Oper) (fuel : Nat) (listed : Array Bool) (Γ : Ctx) (F : Fr) (H : List Ob) (u : FrameMode) (QS : Exit → Fr → List Ob → FrameMode → Prop) : Prop :=
  ∀ (c0 : Frame) (cs : List Frame) a w, c0.mode = u → St Γ F H a w → Afo P ops (Agb Γ c0 cs QS) fuel listed a (c0 :: cs) w
theorem Y2 {id n : Nat} (hn : ops.size = n) (hm : P.follows .mixedOrders = true) (h : JAS P ops n (Array.replicate n false) Γ F H u QS) : JCS P (.region id ops true) Γ F H u QS := fun c0 cs a w hc ⟨ρ, s⟩ => by
  subst hn
  exact Lh hm (h c0 cs a { w with drawn := w.drawn + 1 } hc ⟨ρ, s.below ⟨rfl, rfl, rfl, Nat.le_refl _, fun _ _ => rfl⟩⟩)
theorem O3 {fuel : Nat} {listed : Array Bool} (hno : ∀ F' H', ¬ QS .outgrown F' H' u) (j : JA P ops fuel listed Γ F H (fun e F' H' => QS e F' H' u)) : JAS P ops fuel listed Γ F H u QS := fun c0 cs a w hc s => by
  have hout : ¬ LetsOut (fun e a w => Agb Γ c0 cs QS e a (c0 :: cs) w) := by
    rintro ⟨a', w', F', H', m, e, q, _⟩
    have hm : m = u := by
      injection e with e _
      have := congrArg Frame.mode e
      rw [hc] at this
      exact this.symm
    subst hm
    exact hno _ _ q
  refine W2 hout fuel listed a w (Gp (fun e a w q => ?_) fuel listed a w (I0 fuel listed a w (j a w s)))
  obtain ⟨F', H', q1, s1⟩ := q
  exact ⟨F', H', u, by subst hc; rfl, q1, s1⟩
def SS (P : Program) (ops : Array Oper) (fuel : Nat) (listed : Array Bool) (Γ : Ctx) (F : Fr) (H : List Ob) (u : FrameMode) (QS : Exit → Fr → List Ob → FrameMode → Prop) (i : Nat) : Prop :=
  ∀ (c0 : Frame) (cs : List Frame) a w, c0.mode = u → St Γ F H a w → Kd P ops (Agb Γ c0 cs QS) i (Afo P ops (Agb Γ c0 cs QS) fuel (listed.setIfInBounds i true)) a (c0 :: cs) w
theorem K8 {fuel : Nat} {listed : Array Bool} (rs : List Nat) (hr : Region.ready .any ops listed = rs) (hne : rs.isEmpty = false) (h : ∀ i ∈ rs, SS P ops fuel listed Γ F H u QS i) : JAS P ops (fuel + 1) listed Γ F H u QS := fun c0 cs a w hc s =>
  ⟨fun h0 => by rw [hr] at h0; rw [h0] at hne; simp at hne, fun i hi => h i (hr ▸ hi) c0 cs a w hc s⟩
theorem Aja {fuel : Nat} {listed : Array Bool} {i d : Nat} {op : Op} {T : TypeId} {ps : String} {af : Array Edge} {y : V} (hi : ops[i]? = some ⟨some d, op, T, ps, af, none⟩) (h : LY P Γ op F H y) (hd : d < Γ.N)
    (j : JAS P ops fuel (listed.setIfInBounds i true) Γ ((d, y) :: F) H u QS) : SS P ops fuel listed Γ F H u QS i := fun c0 cs a w hc ⟨ρ, s⟩ => by
  obtain ⟨v, r, hr⟩ := h ρ a w s
  unfold Kd
  rw [hi]
  simp only
  rw [if_pos (by simp [Region.wanted]), hr _ _ _ _ _ w (Ext.refl w)]
  exact j c0 cs _ _ hc ⟨ρ, s.put hd r⟩
theorem N7 {fuel : Nat} {listed : Array Bool} {i d : Nat} {T : TypeId} {ps : String} {af : Array Edge} {ts : Array TypeId} {v : Value} {u' : FrameMode} (hi : ops[i]? = some ⟨some d, .call { callee := .builtin .recover, args := #[], argTypes := ts }, T, ps, af, none⟩) (hu : Ux u = (v, u')) (hd : d < Γ.N)
    (j : JAS P ops fuel (listed.setIfInBounds i true) Γ ((d, .c v) :: F) H u' QS) : SS P ops fuel listed Γ F H u QS i := fun c0 cs a w hc ⟨ρ, s⟩ => by
  subst hc
  unfold Kd
  rw [hi]
  simp only
  rw [if_pos (by simp [Region.wanted])]
  have hrun : (execOp a.eval ⟨some d, .call { callee := .builtin .recover, args := #[], argTypes := ts }, T, ps, af, none⟩).run P w = .ok .recover w := by simp [execOp, resolve, invoke, builtin, Sem.run]
  rw [hrun]
  rcases Yg c0 cs with ⟨e1, e2⟩ | e1
  · rw [hu] at e2
    injection e2 with e3 e4; subst e3; subst e4
    rw [e1]
    exact j c0 cs _ _ rfl ⟨ρ, s.put hd (y := .c .nilIface) rfl⟩
  · rw [hu] at e1
    rw [e1]
    exact j { c0 with mode := u' } cs _ _ rfl ⟨ρ, s.put hd (y := .c v) rfl⟩
def Wp (tx te tt fc ti : Nat) (ps : String) : List Oper :=
  [⟨some 3, .call { callee := .builtin .recover, args := #[], argTypes := #[] }, ti, ps, #[], none⟩,
   ⟨some 4, .load tx (.tmp 0), tx, ps, #[], none⟩,
   ⟨some 5, .load te (.tmp 1), te, ps, #[], none⟩,
   ⟨some 6, .call { callee := .value (.func fc), args := #[.tmp 3, .tmp 4, .tmp 5], argTypes := #[ti, tx, te] }, tt, ps, #[⟨0, .data⟩, ⟨1, .data⟩, ⟨2, .data⟩, ⟨0, .chain⟩], none⟩,
   ⟨some 2, .move (.tmp 6), tt, ps, #[⟨3, .data⟩], none⟩,
   ⟨some 7, .extract (.tmp 2) 0, tx, ps, #[⟨4, .data⟩], none⟩,
   ⟨some 8, .extract (.tmp 2) 1, te, ps, #[⟨4, .data⟩, ⟨7, .gcOnly .lateStores⟩], none⟩,
   ⟨none, .store tx (.tmp 0) (.tmp 7), 0, ps, #[⟨5, .data⟩, ⟨3, .chain⟩, ⟨0, .phase⟩, ⟨1, .phase⟩, ⟨2, .phase⟩, ⟨3, .phase⟩, ⟨4, .phase⟩, ⟨5, .phase⟩, ⟨6, .textOnly .lateStores⟩], none⟩,
   ⟨none, .store te (.tmp 1) (.tmp 8), 0, ps, #[⟨6, .data⟩, ⟨7, .chain⟩, ⟨0, .phase⟩, ⟨1, .phase⟩, ⟨2, .phase⟩, ⟨3, .phase⟩, ⟨4, .phase⟩, ⟨5, .phase⟩, ⟨6, .phase⟩, ⟨7, .phase⟩], none⟩]
theorem Y5 {fuel : Nat} {listed : Array Bool} {F' : Fr} {Q : Exit → Fr → List Ob → Prop} (h : Sub F' F) (j : JA P ops fuel listed Γ F' H Q) : JA P ops fuel listed Γ F H Q := fun a w s => j a w (s.sub h)
theorem Ab1 {g fc : FuncId} {fn cfn : Func} (tx te tt ti : Nat) (ps : String) (i j : Nat) {H H1 H2 : List Ob} {xv ev xv' ev' : V} {u' : FrameMode} {pv : Value}
    (hf : P.funcs[g]? = some fn) (hb : fn.body = some (.region 0 (Wp tx te tt fc ti ps).toArray true)) (hnt : fn.ntmps = 9) (hres : fn.results = #[])
    (hcf : P.funcs[fc]? = some cfn) (hcb : cfn.body.isSome = true) (hcn : (cfn.name == "runtime.NumGoroutine") = false) (hm : P.follows .mixedOrders = true) (hu : Ux u = (pv, u'))
    (hldx : ∀ (Γ : Ctx) (F : Fr), ovO F (.tmp 0) = some (.p i 0 0) → LY P Γ (.load tx (.tmp 0)) F H xv) (hlde : ∀ (Γ : Ctx) (F : Fr), ovO F (.tmp 1) = some (.p j 0 0) → LY P Γ (.load te (.tmp 1)) F H ev)
    (hs : Spec P fc [.c pv, xv, ev] (fun o => o = .ret (.t [xv', ev']))) (hax : ArgV xv xv) (hae : ArgV ev ev)
    (hstx : ∀ (Γ : Ctx) (F : Fr), ovO F (.tmp 0) = some (.p i 0 0) → ovO F (.tmp 7) = some xv' → SY P Γ (.store tx (.tmp 0) (.tmp 7)) F H H1)
    (hste : ∀ (Γ : Ctx) (F : Fr), ovO F (.tmp 1) = some (.p j 0 0) → ovO F (.tmp 8) = some ev' → SY P Γ (.store te (.tmp 1) (.tmp 8)) F H1 H2)
    (hid : ObsId H.length H2) (hlen : H2.length = H.length) : W9 P g [.p i 0 0, .p j 0 0] H u u' H2 := by
  refine X1 [(0, .p i 0 0), (1, .p j 0 0)] rfl H.length rfl hf hb (by rw [hnt]; exact Nat.le_of_ble_eq_true rfl) fun Γ hN hds => ?_
  have hd : ∀ d, Nat.blt d 9 = true → d < Γ.N := fun d h => by rw [hN, hnt]; exact Nat.le_of_ble_eq_true h
  have hno : ∀ F' H', ¬ Lw P fn H.length u' H2 .outgrown F' H' u' := fun _ _ h => h
  have hQ : ∀ (c : List PanicEntry) (F : Fr) (H' : List Ob) (d : Nat), Lw P fn H.length u' H2 (.panic c) F H' u' → Lw P fn H.length u' H2 (.panic c) ((d, .u) :: F) H' u' := fun _ _ _ _ h => h
  have tail : ∀ (F : Fr) (listed : Array Bool), listed = #[true, true, true, false, false, false, false, false, false] → Sub [(3, .c pv), (4, xv), (5, ev), (0, .p i 0 0), (1, .p j 0 0)] F → JA P (Wp tx te tt fc ti ps).toArray 6 listed Γ F H (fun e F' H' => Lw P fn H.length u' H2 e F' H' u') := by
    rintro F listed rfl hsub; refine Y5 hsub ?_
    refine Be 3 (Ax cfn hs rfl hcf hcb hcn (Aa rfl (Aa rfl (Aa rfl Ad))) (.cons .c (.cons hax (.cons hae .nil))) (hd 6 rfl) ?_ (fun ch hp => by simp at hp)) rfl (by kernel_rfl)
    rintro y hy; injection hy with hy; subst hy; refine Abt 4 (Gt (y := .t [xv', ev']) rfl (hd 2 rfl)) rfl (by kernel_rfl) (by kernel_rfl) (by kernel_rfl) hQ ?_; refine Abt 5 (B3 (y := xv') rfl rfl (hd 7 rfl)) rfl (by kernel_rfl) (by kernel_rfl) (by kernel_rfl) hQ ?_; refine Abt 6 (B3 (y := ev') rfl rfl (hd 8 rfl)) rfl (by kernel_rfl) (by kernel_rfl) (by kernel_rfl) hQ ?_
    refine Be 7 (Cl (hstx Γ _ rfl rfl) rfl ?_) rfl (by kernel_rfl)
    refine Be 8 (Cl (hste Γ _ rfl rfl) rfl ?_) rfl (by kernel_rfl)
    refine Bx (by kernel_rfl) ?_
    refine ⟨rfl, by rw [← hlen, List.take_length], hid, [], ?_⟩
    rw [hres]
    exact .nil
  have m1 : ∀ {p : Nat → Prop} {a : Nat}, p a → ∀ i ∈ [a], p i := fun h i hi => by simp at hi; subst hi; exact h
  have m2 : ∀ {p : Nat → Prop} {a b : Nat}, p a → p b → ∀ i ∈ [a, b], p i := fun h1 h2 i hi => by
    simp at hi
    rcases hi with rfl | rfl
    · exact h1
    · exact h2
  have m3 : ∀ {p : Nat → Prop} {a b c : Nat}, p a → p b → p c → ∀ i ∈ [a, b, c], p i := fun h1 h2 h3 i hi => by
    simp at hi
    rcases hi with rfl | rfl | rfl
    · exact h1
    · exact h2
    · exact h3
  refine Y2 (n := 9) rfl hm ?_
  refine K8 [0, 1, 2] (by kernel_rfl) rfl (m3 ?_ ?_ ?_)
  · refine N7 rfl hu (hd 3 rfl) (O3 hno ?_)
    refine Abt 1 (Am (hldx Γ _ rfl) (hd 4 rfl)) rfl (by kernel_rfl) (by kernel_rfl) (by kernel_rfl) hQ ?_; refine Abt 2 (Am (hlde Γ _ rfl) (hd 5 rfl)) rfl (by kernel_rfl) (by kernel_rfl) (by kernel_rfl) hQ ?_
    exact tail _ _ rfl (.cons rfl (.cons rfl (.cons rfl (.cons rfl (.cons rfl .nil)))))
  · refine Aja rfl (hldx Γ _ rfl) (hd 4 rfl) ?_
    refine K8 [0, 2] (by kernel_rfl) rfl (m2 ?_ ?_)
    · refine N7 rfl hu (hd 3 rfl) (O3 hno ?_)
      refine Abt 2 (Am (hlde Γ _ rfl) (hd 5 rfl)) rfl (by kernel_rfl) (by kernel_rfl) (by kernel_rfl) hQ ?_
      exact tail _ _ rfl (.cons rfl (.cons rfl (.cons rfl (.cons rfl (.cons rfl .nil)))))
    · refine Aja rfl (hlde Γ _ rfl) (hd 5 rfl) ?_
      refine K8 [0] (by kernel_rfl) rfl (m1 ?_)
      refine N7 rfl hu (hd 3 rfl) (O3 hno ?_)
      exact tail _ _ rfl (.cons rfl (.cons rfl (.cons rfl (.cons rfl (.cons rfl .nil)))))
  · refine Aja rfl (hlde Γ _ rfl) (hd 5 rfl) ?_
    refine K8 [0, 1] (by kernel_rfl) rfl (m2 ?_ ?_)
    · refine N7 rfl hu (hd 3 rfl) (O3 hno ?_)
      refine Abt 1 (Am (hldx Γ _ rfl) (hd 4 rfl)) rfl (by kernel_rfl) (by kernel_rfl) (by kernel_rfl) hQ ?_
      exact tail _ _ rfl (.cons rfl (.cons rfl (.cons rfl (.cons rfl (.cons rfl .nil)))))
    · refine Aja rfl (hldx Γ _ rfl) (hd 4 rfl) ?_
      refine K8 [0] (by kernel_rfl) rfl (m1 ?_)
      refine N7 rfl hu (hd 3 rfl) (O3 hno ?_)
      exact tail _ _ rfl (.cons rfl (.cons rfl (.cons rfl (.cons rfl (.cons rfl .nil)))))
end

section
variable {P : Program} {Γ : Ctx} {F : Fr} {H : List Ob} {Q : Exit → Fr → List Ob → Prop}
def Ahd (P : Program) (T : TypeId) : Bool := match P.underlying T with | some (.interface _) | none => false | _ => true
theorem Aj7 {T : TypeId} {x : Operand} {k : IntKind} {n : Int} (hT : Ahd P T = true) (hx : ovO F x = some (.a [.i k n])) : LY P Γ (.makeInterface T x) F H (.c (.iface T (.agg #[.int k n]))) := fun ρ a w s =>
  ⟨_, rfl, fun _ _ _ _ _ w' _ => by
    have e : (Instr.makeInterface T (a.eval x)).run P w' = .ok (.iface T (.agg #[.int k n])) w' := by
      obtain ⟨us, e0, u, us', e2, h1, h2⟩ := s.ov hx
      have h2' : us' = [] := h2
      have h1' : u = .int k n := h1
      subst h2'; subst h1'; subst e2
      rw [e0]
      unfold Ahd at hT
      cases hu : P.underlying T with
      | none => rw [hu] at hT; cases hT
      | some d => rw [hu] at hT; cases d <;> first | exact (Bool.false_ne_true hT).elim | simp [Instr.makeInterface, run_underlying hu]
    exact El e⟩
theorem Yr {T X : TypeId} {x : Operand} {k : IntKind} {n : Int} (hT : Ahd P T = true) (hx : ovO F x = some (.c (.iface T (.agg #[.int k n])))) : LY P Γ (.typeAssert x X T true) F H (.t [.a [.i k n], .b true]) := fun ρ a w s =>
  ⟨.tuple #[.agg #[.int k n], .bool true], ⟨_, rfl, _, _, rfl, ⟨_, rfl, _, _, rfl, rfl, rfl⟩, _, _, rfl, rfl, rfl⟩, fun _ _ _ _ _ w' _ => by
    have e : (Instr.typeAssert (a.eval x) X T true).run P w' = .ok (.tuple #[.agg #[.int k n], .bool true]) w' := by
      rw [R7 s hx]
      unfold Ahd at hT
      cases hu : P.underlying T with
      | none => rw [hu] at hT; cases hT
      | some d => rw [hu] at hT; cases d <;> first | exact (Bool.false_ne_true hT).elim | simp [Instr.typeAssert, run_underlying hu]
    exact El e⟩
theorem Um {T : TypeId} {ms : Array (String × TypeId)} (hT : P.underlying T = some (.interface ms)) (v : Value) (b : Bool) (hv : (v = .nilIface ∧ b = true) ∨ (∃ t u, v = .iface t u) ∧ b = false) (w : World) : (binOp .eql T v .nilIface).run P w = .ok (.bool b) w := by
  have h : ∀ d : Nat, (Op.equalIn (d + 1) T v .nilIface).run P w = .ok b w := fun d => by
    rcases hv with ⟨rfl, rfl⟩ | ⟨⟨t, u, rfl⟩, rfl⟩ <;> simp [Op.equalIn, run_underlying hT]
  rcases hv with ⟨rfl, rfl⟩ | ⟨⟨t, u, rfl⟩, rfl⟩
  · simp only [binOp]
    simp [Op.equal, Op.maxDepth, h 9999]
  · simp only [binOp]
    simp [Op.equal, Op.maxDepth, h 9999]
theorem M8 {x : Operand} {T T' : TypeId} {ms : Array (String × TypeId)} (hT : P.underlying T = some (.interface ms)) (hx : ovO F x = some (.c .nilIface)) : LY P Γ (.binOp .eql T x (.const .nilIface) T') F H (.b true) :=
  In (u := .nilIface) (v := .nilIface) (z := .bool true) (fun _ _ _ s => R7 s hx) (fun _ _ _ s => rfl) (fun w => by simp [eqGuard]) (fun w => Um hT _ _ (.inl ⟨rfl, rfl⟩) w) (fun _ _ _ _ => rfl)
theorem M7 {x : Operand} {T T' t : TypeId} {v : Value} {ms : Array (String × TypeId)} (hT : P.underlying T = some (.interface ms)) (hx : ovO F x = some (.c (.iface t v))) : LY P Γ (.binOp .eql T x (.const .nilIface) T') F H (.b false) :=
  In (u := .iface t v) (v := .nilIface) (z := .bool false) (fun _ _ _ s => R7 s hx) (fun _ _ _ s => rfl) (fun w => by simp [eqGuard]) (fun w => Um hT _ _ (.inr ⟨⟨_, _, rfl⟩, rfl⟩) w) (fun _ _ _ _ => rfl)
theorem Aha {H : List Ob} {a b c : Value} (ha : a.oneCell' = true) (hb : b.oneCell' = true) (hc : c.oneCell' = true) : [V.c a, V.c b, V.c c].all (Ij H) = true := by simp [Ij, Th, ha, hb, hc]
theorem U5 {a b c : Value} (ha : a.oneCell' = true) (hb : b.oneCell' = true) (hc : c.oneCell' = true) : [V.c a, V.c b, V.c c].all Th = true := by simp [Th, ha, hb, hc]
def Acd (ag : Bool) (us : List Value) : V := if ag then .a (us.map V.c) else .c (us.headD undef)
def Aje (tg : TypeId) (e : Int) (rec : Bool) : List PanicEntry := [{ v := .iface tg (.agg #[.int .i64 e]), recovered := rec }]
structure Clo (P : Program) (g : FuncId) (tx te n : Nat) (ag : Bool) (tg : TypeId) (zv : V) : Prop where
  shape : ∃ (fn cfn : Func) (fc : FuncId) (tt ti : TypeId) (ps : String), P.funcs[g]? = some fn ∧ fn.body = some (.region 0 (Wp tx te tt fc ti ps).toArray true) ∧ fn.ntmps = 9 ∧ fn.results = #[] ∧ P.funcs[fc]? = some cfn ∧ cfn.body.isSome = true ∧ (cfn.name == "runtime.NumGoroutine") = false ∧
    (∀ (us : List Value) (ue : Value), us.length = n → (∀ u ∈ us, u.oneCell' = true) → ue.oneCell' = true → Spec P fc [.c .nilIface, Acd ag us, .c ue] (fun o => o = .ret (.t [Acd ag us, .c ue]))) ∧
    (∀ (us : List Value) (ue : Value) (e : Int), us.length = n → (∀ u ∈ us, u.oneCell' = true) → ue.oneCell' = true → Spec P fc [.c (.iface tg (.agg #[.int .i64 e])), Acd ag us, .c ue] (fun o => o = .ret (.t [zv, .i .i64 e])))
  hm : P.follows .mixedOrders = true
  hld : (ag = true ∧ Sr P tx n = true) ∨ (ag = false ∧ n = 1 ∧ Iz P tx = true)
  hsz : (P.info? tx).any (·.size == n) = true
  hle : Iz P te = true
  hz1 : (cellsV zv).length = n
  hz2 : (cellsV zv).all Th = true
  hz3 : ∀ k, (cellsV zv).all (idB k) = true
theorem Mg {ag : Bool} {us : List Value} {n : Nat} (hn : us.length = n) (h : ag = true ∨ (ag = false ∧ n = 1)) : cellsV (Acd ag us) = us.map V.c := by
  rcases h with rfl | ⟨rfl, rfl⟩
  · rfl
  · match us, hn with
    | [u], _ => rfl
theorem Aam {ag : Bool} {us : List Value} : ArgV (Acd ag us) (Acd ag us) := by
  cases ag with
  | false => exact .c
  | true =>
    show ArgV (.a (us.map V.c)) (.a (us.map V.c))
    induction us with
    | nil => exact .a0
    | cons u us ih => exact .a1 .c ih
theorem O6 {Ho Hc : List Ob} (h : Mf Ho Hc) (k : Nat) : ∀ ob ∈ Hc, ∀ y ∈ ob.cs, idB k y = true := fun ob ho y hy => by
  obtain ⟨i, hi⟩ := List.getElem?_of_mem ho
  have hlt : i < Ho.length := by rw [← h.1]; exact (List.getElem?_eq_some_iff.1 hi).1
  obtain ⟨us, e, _⟩ := h.2 i _ (List.getElem?_eq_getElem hlt)
  rw [hi] at e
  injection e with e
  rw [e] at hy
  obtain ⟨u, _, rfl⟩ := List.mem_map.1 hy
  rfl
theorem Adr {H : List Ob} : ∀ {y : V}, Th y = true → Ij H y = true
  | .i _ _, h => h
  | .b _, h => h
  | .s _, h => h
  | .c _, h => h
  | .n _ _ _, h => h
  | .l _ _ _, h => h
  | .q _, h => h
  | .f _ _, h => h
  | .u, h => by cases h
  | .a _, h => by cases h
  | .t _, h => by cases h
  | .p _ _ _, h => by cases h
  | .o _ _ _ _, h => by cases h
theorem Aad {H : List Ob} {l : List V} (h : l.all Th = true) : l.all (Ij H) = true := List.all_eq_true.2 fun y hy => Adr (List.all_eq_true.1 h y hy)
variable {g tx te n : Nat} {ag : Bool} {tg : TypeId} {zv : V}
theorem Clo.hag (c : Clo P g tx te n ag tg zv) : ag = true ∨ (ag = false ∧ n = 1) := by rcases c.hld with h | h; exact .inl h.1; exact .inr ⟨h.1, h.2.1⟩
theorem Clo.load (c : Clo P g tx te n ag tg zv) {i : Nat} {us : List Value} (hn : us.length = n) {x : Operand} (hx : ovO F x = some (.p i 0 0)) (hH : H[i]? = some ⟨tx, n, 0, true, us.map V.c⟩) : LY P Γ (.load tx x) F H (Acd ag us) := by
  rcases c.hld with ⟨rfl, h⟩ | ⟨rfl, rfl, h⟩
  · exact Au h hx hH (T0 (by rw [List.length_map, hn])) (by rw [List.length_map, hn])
  · match us, hn with
    | [u], _ => exact A9 h hx hH rfl
theorem Clo.ret (c : Clo P g tx te n ag tg zv) {Ho Hc : List Ob} {i j sz : Nat} {cs : List V} {y : V} (hi : Ho[i]? = some ⟨tx, n, 0, true, cs⟩) (hcs : cs.length = n) (hj : Ho[j]? = some ⟨te, sz, 0, true, [y]⟩) (k : Mf Ho Hc) :
    W9 P g [.p i 0 0, .p j 0 0] Hc .returning .returning Hc := by
  obtain ⟨fn, cfn, fc, tt, ti, ps, h1, h2, h3, h4, h5, h6, h7, h8, h9⟩ := c.shape
  obtain ⟨us, e1, e2, e3⟩ := k.2 i _ hi
  obtain ⟨ue, f1, f2, f3⟩ := k.2 j _ hj
  have e2' : us.length = n := by rw [e2]; exact hcs
  obtain ⟨ux, rfl⟩ : ∃ ux, ue = [ux] := by
    match ue, f2 with
    | [u], _ => exact ⟨u, rfl⟩
  have hux := f3 ux (List.mem_cons_self ..)
  have hsame : ∀ (l : List Ob) (k : Nat) (o : Ob), l[k]? = some o → l.set k o = l := fun l k o h => by
    have hlt := (List.getElem?_eq_some_iff.1 h).1
    have he := (List.getElem?_eq_some_iff.1 h).2
    rw [← he]; exact List.set_getElem_self hlt
  refine Ab1 (H1 := Hc) tx te tt ti ps i j h1 h2 h3 h4 h5 h6 h7 c.hm rfl (fun Γ F hx => c.load e2' hx e1) (fun Γ F hx => A9 (y := .c ux) c.hle hx f1 rfl) (h8 us ux e2' e3 hux) Aam .c (fun Γ F hx hz => ?_) (fun Γ F hx hz => ?_) (fun ob ho _ y hy => O6 k _ ob ho y hy) rfl
  · have := Ah (P := P) (Γ := Γ) (T := tx) (n := n) hx hz e1 c.hsz (by rw [Mg e2' c.hag, List.length_map, e2']) (by
      rw [Mg e2' c.hag]
      refine List.all_eq_true.2 fun y hy => ?_
      obtain ⟨u, hu, rfl⟩ := List.mem_map.1 hy
      exact e3 u hu) (by rw [List.length_map, e2']; omega)
    rw [Mg e2' c.hag, Mu _ _ rfl, hsame _ _ _ e1] at this
    exact this
  · have := Ah (P := P) (Γ := Γ) (T := te) (n := 1) hx hz f1 (Ik c.hle) rfl (by simp [cellsV, Ij, Th, hux]) (by simp)
    rw [show cellsV (V.c ux) = [V.c ux] from rfl, show List.map V.c [ux] = [V.c ux] from rfl, Mu _ _ rfl] at this
    rw [hsame _ _ _ (show Hc[j]? = some ⟨te, sz, 0, true, [V.c ux]⟩ from f1)] at this
    exact this
theorem Clo.pan (c : Clo P g tx te n ag tg zv) {Ho Hc : List Ob} {i j sz : Nat} {cs : List V} {y : V} (hij : i ≠ j) (hi : Ho[i]? = some ⟨tx, n, 0, true, cs⟩) (hcs : cs.length = n) (hj : Ho[j]? = some ⟨te, sz, 0, true, [y]⟩) (k : Mf Ho Hc) (e : Int) :
    W9 P g [.p i 0 0, .p j 0 0] Hc (.panicking (Aje tg e false)) (.panicking (Aje tg e true)) ((Hc.set i ⟨tx, n, 0, true, cellsV zv⟩).set j ⟨te, sz, 0, true, [.i .i64 e]⟩) := by
  obtain ⟨fn, cfn, fc, tt, ti, ps, h1, h2, h3, h4, h5, h6, h7, h8, h9⟩ := c.shape
  obtain ⟨us, e1, e2, e3⟩ := k.2 i _ hi
  obtain ⟨ue, f1, f2, f3⟩ := k.2 j _ hj
  have e2' : us.length = n := by rw [e2]; exact hcs
  obtain ⟨ux, rfl⟩ : ∃ ux, ue = [ux] := by
    match ue, f2 with
    | [u], _ => exact ⟨u, rfl⟩
  have hux := f3 ux (List.mem_cons_self ..)
  have f1' : (Hc.set i ⟨tx, n, 0, true, cellsV zv⟩)[j]? = some ⟨te, sz, 0, true, [V.c ux]⟩ := by rw [List.getElem?_set_ne hij]; exact f1
  refine Ab1 (H1 := Hc.set i ⟨tx, n, 0, true, cellsV zv⟩) (xv' := zv) (ev' := .i .i64 e) tx te tt ti ps i j h1 h2 h3 h4 h5 h6 h7 c.hm rfl (fun Γ F hx => c.load e2' hx e1) (fun Γ F hx => A9 (y := .c ux) c.hle hx f1 rfl) (h9 us ux e e2' e3 hux) Aam .c (fun Γ F hx hz => ?_) (fun Γ F hx hz => ?_) (fun ob ho _ y hy => ?_) (by simp)
  · have := Ah (P := P) (Γ := Γ) (T := tx) (n := n) hx hz e1 c.hsz c.hz1 (Aad c.hz2) (by rw [List.length_map, e2']; omega)
    rw [Mu _ _ (by rw [List.length_map, e2', c.hz1])] at this
    exact this
  · have := Ah (P := P) (Γ := Γ) (T := te) (n := 1) hx hz f1' (Ik c.hle) rfl rfl (by simp)
    exact this
  · rcases List.mem_or_eq_of_mem_set ho with ho | rfl
    · rcases List.mem_or_eq_of_mem_set ho with ho | rfl
      · exact O6 k _ ob ho y hy
      · exact List.all_eq_true.1 (c.hz3 _) y hy
    · have hy' : y ∈ [V.i .i64 e] := hy
      simp at hy'; subst hy'; rfl
theorem Clo.fin (c : Clo P g tx te n ag tg zv) {Qf : Exit → Fr → List Ob → Prop} {m i j sz : Nat} {cs : List V} {y : V} (hmH : m ≤ H.length) (hl : (H.take m).all (·.live) = true) (hi : (H.take m)[i]? = some ⟨tx, n, 0, true, cs⟩) (hcs : cs.length = n) (hj : (H.take m)[j]? = some ⟨te, sz, 0, true, [y]⟩)
    (hq : Qf .ret F H) : Ajh P Qf g [.p i 0 0, .p j 0 0] m .returning F H :=
  ⟨.returning, H.take m, by simp, rfl, by simp; omega, hmH, List.all_eq_true.1 hl, fun Hc k => ⟨Hc, c.ret hi hcs hj k, by rw [k.1]; simp; omega, fun k => .inl ⟨rfl, rfl⟩⟩, by rw [List.take_append_drop]; exact hq⟩
def Aj5 (Q : Exit → Fr → List Ob → Prop) : Exit → Fr → List Ob → Prop
  | .panic _, _, _ => False
  | e, F, H => Q e F H
theorem C7 {x : Code} (j : JC P x Γ F H (Aj5 Q)) : JC P x Γ F H Q := Nt (fun e F' H' q => by cases e <;> first | exact q | exact q.elim) j
end

section
variable {P : Program} {Γ : Ctx} {F : Fr} {H : List Ob} {Q : Exit → Fr → List Ob → Prop} {c : Code}
def JR (P : Program) (c : Code) (Γ : Ctx) (Q : Exit → Fr → List Ob → Prop) : Nat → Fr → List Ob → Prop
  | 0, _, _ => False
  | n + 1, F, H => JC P c Γ F H (I5 (JR P c Γ Q n) Q)
end
section
variable {P : Program} {Γ : Ctx} {F : Fr} {H : List Ob} {Q : Exit → Fr → List Ob → Prop}
end

section
variable {P : Program} {Γ : Ctx} {F : Fr} {H : List Ob} {Q : Exit → Fr → List Ob → Prop}
theorem StA.cut' {ρ : List Re} {a : Act} {w : World} (n : Nat) (s : StA Γ ρ F H a w) (hF : F.all (fun p => idB n p.2) = true) (hO : ObsId n (H.take n)) (hΓ : Γ.ρ0.length ≤ n) : StA Γ (ρ.take n) F (H.take n) a w := by
  have at1 : ∀ (i : Nat) (o : Ob), (H.take n)[i]? = some o → i < n ∧ H[i]? = some o := fun i o h => by
    rw [List.getElem?_take] at h
    split at h
    · exact ⟨by assumption, h⟩
    · cases h
  have at2 : ∀ (i : Nat) (r : Re), (ρ.take n)[i]? = some r → ρ[i]? = some r := fun i r h => by
    rw [List.getElem?_take] at h
    split at h
    · exact h
    · cases h
  have lsub : ∀ b, Bb Γ.M (ρ.take n) (H.take n) b → Bb Γ.M ρ H b := by
    rintro b (h | ⟨i, o, r, h1, h2, h3, h4⟩)
    · exact .inl h
    · exact .inr ⟨i, o, r, (at1 i o h1).2, h2, at2 i r h3, h4⟩
  have ev : Ev w (Bb Γ.M ρ H) Γ.w0.heap.size (ρ.take n) w (Bb Γ.M (ρ.take n) (H.take n)) Γ.w0.heap.size (ρ.take n) :=
    ⟨Nat.le_refl _, fun _ _ _ => rfl, fun b _ hn h => hn (lsub b h), Nat.le_refl _, fun i r h => ⟨r, h, Nat.le_refl _, fun _ => rfl⟩⟩
  refine ⟨⟨by simp [s.hr.len], fun i o h1 h2 => ?_, fun i j oi oj ri rj g hij h1 h2 h3 h4 h5 h6 => s.hr.apart i j oi oj ri rj g hij (at1 i oi h1).2 h2 (at1 j oj h3).2 h4 (at2 i ri h5) (at2 j rj h6), fun i o r g h1 h2 h3 => s.hr.foreign i o r g (at1 i o h1).2 h2 (at2 i r h3)⟩, s.n, s.ds, fun t => ?_,
    ⟨s.fro.os, s.fro.tape, s.fro.output, s.fro.size, s.fro.blk, s.fro.old, fun i o r g h1 h2 h3 => s.fro.mine i o r g (at1 i o h1).2 h2 (at2 i r h3), fun i r h => by
      have hi := (List.getElem?_eq_some_iff.1 h).1
      obtain ⟨r2, h1, h2, h3⟩ := s.fro.rho i r h
      exact ⟨r2, by rw [List.getElem?_take, if_pos (by omega)]; exact h1, h2, h3⟩⟩⟩
  · obtain ⟨hin, h1'⟩ := at1 i o h1
    obtain ⟨r, h3, h4⟩ := s.hr.ob i o h1' h2
    refine ⟨r, by rw [List.getElem?_take, if_pos hin]; exact h3, h4.ver, h4.sz, h4.nob, fun g hg => ?_⟩
    obtain ⟨cur, c1, c2, c3, c4, c5⟩ := h4.blk g hg
    exact ⟨cur, c1, c2, c3, c4, fun j y hy => by
      obtain ⟨u, d1, d2, d3⟩ := c5 j y hy
      exact ⟨u, d1, d2, (d3.cut y u (hO o (List.mem_of_getElem? h1) h2 y (List.mem_of_getElem? hy))).ev ev⟩⟩
  · have := s.fr t
    have hid : idB n (get F t) = true := by
      unfold get
      cases e : Cp F t with
      | none => rfl
      | some y =>
        have : ∀ (F : Fr) y, F.all (fun p => idB n p.2) = true → Cp F t = some y → idB n y = true := by
          intro F
          induction F with
          | nil => intro y _ h; simp [Cp] at h
          | cons p F ih =>
            intro y ha h
            simp only [List.all_cons, Bool.and_eq_true] at ha
            simp only [Cp] at h
            cases hb : Nat.beq t p.1
            · rw [hb] at h; exact ih y ha.2 h
            · rw [hb] at h; injection h with h; rw [← h]; exact ha.1
        exact this F y hF e
    exact (this.cut _ _ hid).ev ev
theorem Vt {c : Code} {G : Type} (n : Nat) (C : G → Prop) (m : G → Fr) (Hg : G → List Ob) (μ : G → Nat) (g0 : G) (h0 : C g0) (hF : Says F (m g0)) (hH : H = Hg g0) (hΓ : Γ.ρ0.length ≤ n) (hFn : F.all (fun p => idB n p.2) = true)
    (hm : ∀ g, C g → (m g).all (fun p => idB n p.2) = true) (hO : ∀ g, C g → ObsId n (Hg g))
    (round : ∀ g, C g → JC P c Γ (m g ++ F) (Hg g) (I5 (fun F' H' => ∃ g', C g' ∧ μ g' < μ g ∧ H'.take n = Hg g' ∧ Cov F' (m g') F) Q)) : JC P (.loop c) Γ F H Q :=
  Qh C (fun g => m g ++ F) Hg μ g0 h0 (fun a w s => hH ▸ s.cov (Le hF)) fun g hg =>
    Nt (fun e F' H' q => by
      cases e with
      | normal =>
        obtain ⟨g', h1, h2, h3, h4⟩ := q
        refine ⟨g', h1, h2, fun a w s => ?_⟩
        obtain ⟨ρ, s'⟩ := s.cov h4
        exact ⟨_, h3 ▸ s'.cut' n (by rw [List.all_append, hFn, hm g' h1]; rfl) (by rw [h3]; exact hO g' h1) hΓ⟩
      | _ => exact q) (round g hg)
end

def SpecTN (P : Program) (f : FuncId) (g : Nat) (cells : List V) (args : List V) (post : Out → List Ob → Prop) : Prop :=
  ∀ (M : Nat → Prop) (w : World) (ρ : List Re) (vals : List Value), (∀ b, M b → b < w.heap.size) → TabR g cells w M → HR M w w.heap.size ρ [] → RelL w (Bb M ρ []) w.heap.size ρ args vals →
    Calls P f vals.toArray w fun e w' => ∃ o H' ρ', post o H' ∧ Lf w' (Bb M ρ' H') w.heap.size ρ' o e ∧ HR M w' w.heap.size ρ' H' ∧
      w'.os = w.os ∧ w'.tape = w.tape ∧ w'.output = w.output ∧ Ev w (Bb M ρ []) w.heap.size ρ w' (Bb M ρ' H') w.heap.size ρ' ∧
      (∀ (id : Nat) (ob : Ob) (re : Re) (g : Nat), H'[id]? = some ob → ob.live = true → ρ'[id]? = some re → re.g = some g → w.heap.size ≤ g ∨ Jc ρ [] g) ∧ (∀ b, b < w.heap.size → ¬ Jc ρ [] b → w'.heap[b]? = w.heap[b]?)
section
variable {P : Program} {Γ : Ctx} {F : Fr} {H : List Ob} {Q : Exit → Fr → List Ob → Prop} {g : Nat} {cells : List V}
end

section
variable {P : Program} {Γ : Ctx} {F : Fr} {H : List Ob} {Q : Exit → Fr → List Ob → Prop} {tg : Nat} {tc : List V}
theorem Fn {fn gn : Func} {g : FuncId} {caps : List V} {R : Ending → World → Prop} {Qf : Exit → Fr → List Ob → Prop} (m : Nat) {id : Nat} (pre : List Oper) {rest : List Oper} {y : Code} {x : Operand} {T : TypeId} {ps : String} {af : Array Edge} {ts : Array TypeId} {ops : List Oper} (hops : ops = pre ++ ⟨none, .defer { callee := .value x, args := #[], argTypes := ts }, T, ps, af, none⟩ :: rest)
    (hgf : P.funcs[g]? = some gn) (hgb : gn.body.isSome = true) (hgn : (gn.name == "runtime.NumGoroutine") = false) (hcb : caps.all (Ae5 m) = true) (hds : Γ.ds = []) (hR : Γ.ρ0 = []) (hp : ∀ b, ¬ Γ.L0 b)
    (hE : ∀ F H ρ a w, StA Γ ρ F H a w → Qf .ret F H → ∃ v, (results fn a.tmps).run P w = .ok v w ∧ R (.returned v) w)
    (j : JO P ops.toArray pre Γ F H (fun e F' H' => e = .normal ∧ ovO F' x = some (.f g caps) ∧ H'.length = m ∧ ∀ Γ1 : Ctx, Γ1.N = Γ.N → Γ1.w0 = Γ.w0 → Γ1.M = Γ.M → (∀ b, ¬ Γ1.L0 b) → Γ1.ρ0.length = m →
      JO P ops.toArray rest Γ1 F' H' (I5 (fun F'' H'' => JC P y Γ1 F'' H'' (Oh P Qf g caps m)) (Oh P Qf g caps m)))) :
    JCP P (.seq (.region id ops.toArray false) y) Γ F H (bodyPostD P fn R) := fun a w s => by
  refine wp_seq (wp_region_lit ?_)
  have hj := j a w s
  generalize hA : ops.toArray = A at hj ⊢
  rw [hops]
  refine Fm pre a w (Eq (fun e a' w' q => ?_) pre a w hj)
  obtain ⟨F', H', ⟨rfl, hx, hm, k⟩, ρ, s'⟩ := q
  show wpList P A _ (_ :: rest) a' w'
  obtain ⟨us, hv, hr⟩ := s'.ov hx
  refine wpList_plain rfl fun K hK => ?_
  unfold Oper.wp
  rw [show (execOp a'.eval ⟨none, .defer { callee := .value x, args := #[], argTypes := ts }, T, ps, af, none⟩).run P w' = .ok (.defer ⟨.fn (.func g) us.toArray, #[]⟩) w' by simp [execOp, resolve, hv, Deferred.ofValue, Sem.run]]
  refine hK _ _ ?_
  let d : Deferred := ⟨.fn (.func g) us.toArray, #[]⟩
  have s1 : StA (Γ.later ρ d) ρ F' H' { a' with defers := d :: a'.defers } w' := s'.later d
  have hE1 : ∀ F H ρ2 a w, StA (Γ.later ρ d) ρ2 F H a w → Qf .ret F H → ∃ v, (results fn a.tmps).run P w = .ok v w ∧ R (.returned v) w := fun F H ρ2 a w s2 q =>
    hE F H ρ2 { a with defers := Γ.ds } w ⟨s2.hr, s2.n, rfl, s2.fr, ⟨s2.fro.os, s2.fro.tape, s2.fro.output, s2.fro.size, s2.fro.blk, s2.fro.old, s2.fro.mine, fun i r h => by rw [hR] at h; simp at h⟩⟩ q
  have hq : ∀ e a w, toQ (Γ.later ρ d) (Oh P Qf g caps m) e a w → bodyPostD P fn R e a w := fun e a w h =>
    Ro (Γ := Γ.later ρ d) (m := m) hgf hgb hgn (by show d :: Γ.ds = _; rw [hds]) hr hcb hE1 e a w h
  have j1 := k (Γ.later ρ d) rfl rfl rfl hp (by show ρ.length = m; rw [← hm]; exact s'.hr.len) _ _ ⟨ρ, s1⟩
  refine Eq (fun e a2 w2 q2 => ?_) rest _ _ j1
  obtain ⟨F2, H2, q3, s2⟩ := q2
  cases e with
  | normal => exact Code.wp_mono hq (q3 a2 w2 s2)
  | exit id => exact hq (.exit id) a2 w2 ⟨F2, H2, q3, s2⟩
  | goto l => exact hq (.goto l) a2 w2 ⟨F2, H2, q3, s2⟩
  | ret => exact hq .ret a2 w2 ⟨F2, H2, q3, s2⟩
  | panic ch => exact hq (.panic ch) a2 w2 ⟨F2, H2, q3, s2⟩
  | outgrown => exact hq .outgrown a2 w2 ⟨F2, H2, q3, s2⟩
theorem Ig {f : FuncId} {fn : Func} {c : Code} {args : List V} {post : Out → Prop} (F0 : Fr) (h0 : ((args.zipIdx 0).map fun p => (p.2, p.1)) = F0) (hf : P.funcs[f]? = some fn) (hb : fn.body = some c) (hn : args.length ≤ fn.ntmps)
    (h : ∀ (Γ : Ctx) (R : Ending → World → Prop), TabR tg tc Γ.w0 Γ.M → Γ.N = fn.ntmps → Γ.ds = [] → (∀ b, ¬ Γ.L0 b) → Γ.ρ0 = [] → (∀ F H ρ a w, StA Γ ρ F H a w → Adj P fn post .ret F H → ∃ v, (results fn a.tmps).run P w = .ok v w ∧ R (.returned v) w) →
      JCP P c Γ F0 [] (bodyPostD P fn R)) : SpecT P f tg tc args post := fun M w vals hM hT hr => by
  subst h0; refine V6 hf hb hn M w vals hM hr fun Γ e1 e2 h1 h2 h3 h4 => h Γ _ (by rw [e1, e2]; exact hT) h1 h2 h3 h4 ?_; rintro F H ρ a w' s ⟨ys, z, q1, q2, q3⟩
  obtain ⟨v, hv, hr'⟩ := s.results q1
  refine ⟨v, hv, .ret z, q3, ⟨v, rfl, ?_⟩, ?_⟩
  · have := q2.rel s h3 hr'
    rw [e1, e2] at this
    exact this
  · rw [← e1]
    exact ⟨s.fro.os, s.fro.tape, s.fro.output, s.fro.size, fun b hb => s.fro.blk b hb (h3 b)⟩
theorem Lp {f : FuncId} {fn : Func} {c : Code} {args : List V} {post : Out → List Ob → Prop} (F0 : Fr) (h0 : ((args.zipIdx 0).map fun p => (p.2, p.1)) = F0) (hf : P.funcs[f]? = some fn) (hb : fn.body = some c) (hn : args.length ≤ fn.ntmps)
    (h : ∀ (Γ : Ctx) (R : Ending → World → Prop), TabR tg tc Γ.w0 Γ.M → Γ.N = fn.ntmps → Γ.ds = [] → (∀ b, ¬ Γ.L0 b) → Γ.ρ0 = [] → (∀ F H ρ a w, StA Γ ρ F H a w → Adi P fn post .ret F H → ∃ v, (results fn a.tmps).run P w = .ok v w ∧ R (.returned v) w) →
      JCP P c Γ F0 [] (bodyPostD P fn R)) : SpecTN P f tg tc args post := fun M w ρ vals hM hT hR hr => by
  have hρ : ρ = [] := List.eq_nil_of_length_eq_zero hR.len
  subst hρ; subst h0
  have nohand : ∀ b, ¬ Jc [] [] b := fun b hb => by obtain ⟨i, o, r, h1, _⟩ := hb; simp at h1
  have Leq : ∀ b, M b → Bb M [] [] b := fun b h => .inl h
  refine V6 hf hb hn M w vals hM (hr.ev ⟨Nat.le_refl _, fun _ _ _ => rfl, fun b _ hn h => hn (Leq b h), Nat.le_refl _, fun i r h => by simp at h⟩) fun Γ e1 e2 h1 h2 h3 h4 => h Γ _ (by rw [e1, e2]; exact hT) h1 h2 h3 h4 ?_; rintro F H ρ1 a w' s' ⟨sel, ys, y, q1, q2, q3, q4, q5, q6⟩
  have hsz : w.heap.size ≤ w'.heap.size := by rw [← e1]; exact s'.fro.size
  have hblk : ∀ b, b < w.heap.size → w'.heap[b]? = w.heap[b]? := fun b hb => by rw [← e1]; exact s'.fro.blk b (by rw [e1]; exact hb) (h3 b)
  have hmine : ∀ (id : Nat) (ob : Ob) (re : Re) (g : Nat), H[id]? = some ob → ob.live = true → ρ1[id]? = some re → re.g = some g → w.heap.size ≤ g := fun i o r g z1 z2 z3 z4 => by
    rcases s'.fro.mine i o r g z1 z2 z3 z4 with h | h
    · rw [← e1]; exact h
    · exact absurd h (h3 g)
  have hsub := J5 (M := M) (sel := sel) s'.hr.len
  have hLM : Bb Γ.M ρ1 H = Bb M ρ1 H := by rw [e2]
  have ev : Ev w' (Bb M ρ1 H) w.heap.size ([] : List Re) w' (Bb M (Dq Ol sel ρ1) (Dq Om sel H)) w.heap.size (Dq Ol sel ρ1) :=
    ⟨Nat.le_refl _, fun _ _ _ => rfl, fun b _ hn h => hn (hsub b h), Nat.le_refl _, fun i r h => by simp at h⟩
  obtain ⟨v, hv, hr'⟩ := s'.results q1
  rw [← q2] at hr'
  rw [hLM, e1] at hr'
  have hl : Rel w' (Bb M (Dq Ol sel ρ1) (Dq Om sel H)) w.heap.size (Dq Ol sel ρ1) y v :=
    (hr'.unren y v q3).ev ⟨Nat.le_refl _, fun _ _ _ => rfl, fun b _ hn hh => hn (J5 s'.hr.len b hh), Nat.le_refl _, fun i r h => ⟨r, h, Nat.le_refl _, fun _ => rfl⟩⟩
  refine ⟨v, hv, .ret y, _, _, q6, ⟨v, rfl, hl⟩, ⟨by simp [Dq], fun j o h1 h2 => ?_, fun j j' oj oj' rj rj' g hjj h1 h2 h3 h4 h5 h6 => ?_, fun j o r g h1 h2 h3 h4 => ?_⟩, (by rw [← e1]; exact s'.fro.os), (by rw [← e1]; exact s'.fro.tape), (by rw [← e1]; exact s'.fro.output), ⟨hsz, fun b hlt hL => hblk b hlt, fun b hlt hL hL' => ?_, Nat.le_refl _, fun i r h => by simp at h⟩, fun j o r g h1 h2 h3 h4 => ?_, fun b hlt hh => hblk b hlt⟩
  · obtain ⟨i, k1, k2⟩ := Jy h1 h2
    obtain ⟨r, k3, k4⟩ := s'.hr.ob i o k2 h2
    refine ⟨r, Kp k1 k3, k4.ver, k4.sz, k4.nob, fun g hg => ?_⟩
    obtain ⟨cur, c1, c2, c3, c4, c5⟩ := k4.blk g hg
    refine ⟨cur, c1, c2, c3, c4, fun q y hy => ?_⟩
    obtain ⟨u, d1, d2, d3⟩ := c5 q y hy
    refine ⟨u, d1, d2, ?_⟩
    rw [hLM, e1] at d3
    have hcut := d3.cut (n := 0) y u (q5 o (List.mem_of_getElem? h1) h2 y (List.mem_of_getElem? hy))
    rw [List.take_zero] at hcut
    exact hcut.ev ev
  · obtain ⟨i, k1, k2, k3⟩ := Fv s'.hr.len h1 h2 h5
    obtain ⟨i', k1', k2', k3'⟩ := Fv s'.hr.len h3 h4 h6
    refine s'.hr.apart i i' oj oj' rj rj' g (fun e => hjj ?_) k2 h2 k2' h4 k3 k3'
    subst e
    have hj : j < sel.length := (List.getElem?_eq_some_iff.1 k1).1
    exact (List.getElem?_inj hj q4).1 (k1.trans k1'.symm)
  · obtain ⟨i, k1, k2, k3⟩ := Fv s'.hr.len h1 h2 h3
    have := s'.hr.foreign i o r g k2 h2 k3 h4
    rw [e2] at this
    exact this
  · rcases hsub b hL' with hM' | ⟨i, o, r, h1, h2, h3, h4⟩
    · exact hL (.inl hM')
    · have := hmine i o r b h1 h2 h3 h4
      omega
  · obtain ⟨i, k1, k2, k3⟩ := Fv s'.hr.len h1 h2 h3
    exact .inl (hmine i o r g k2 h2 k3 h4)
end

def zl : Nat → Nat → List Bool
  | 0, _ => []
  | n + 1, x => (x % 2 == 1) :: zl n (x / 2)
abbrev za (n x : Nat) : Array Bool := (zl n x).toArray
section
variable {P : Program} {Γ : Ctx} {ops : Array Oper} {fuel : Nat} {listed : Array Bool} {F : Fr} {H : List Ob} {Q : Exit → Fr → List Ob → Prop}
theorem As {listed' : Array Bool} {F' m F0 : Fr} (S : JA P ops fuel listed' Γ (m ++ F0) H Q) (n : Nat) (h : Says F' m) (hl : listed = listed' := by kernel_rfl) (hA : F'.drop n = F0 := by exact rfl) (hk : L4 (F'.take n) m = true := by exact rfl) : JA P ops fuel listed Γ F' H Q := Ake hl rfl (Bj n hA hk h) S
theorem Bl (i : Nat) (D : List Nat) {st : Bool} {o : Oper} {d : Nat} {y : V} (h : LO P ops st Γ o d F H y) (hQ : ∀ c F H d, Q (.panic c) F H → Q (.panic c) ((d, .u) :: F) H) (hi : ops[i]? = some o) (j : JA P ops fuel (listed.setIfInBounds i true) Γ ((d, y) :: F) H Q) (hs : Region.noSelect ops = true := by kernel_rfl) (hr : (Region.ready .any ops listed).contains i = true := by kernel_rfl) (hf : R5 st ops listed i D = true := by kernel_rfl) (hdp : Akh ops listed i D = true := by kernel_rfl) : JA P ops (fuel + 1) listed Γ F H Q := Ahv i D h hi hs hr hf hdp hQ j
end

mutual
inductive Fz (H : List Ob) : V → V → Prop
  | i {k : IntKind} {n : Int} : Fz H (.i k n) (.i k n)
  | b {x : Bool} : Fz H (.b x) (.b x)
  | n {fr : Bool} {k : IntKind} {l : List Int} : Fz H (.n fr k l) (.n fr k l)
  | o {id len t : Nat} {k : IntKind} {l : List Int} (hH : H[id]? = some ⟨t, 1, 0, true, ints k l⟩) (hl : len = l.length) : Fz H (.o id 0 0 len) (.n false k l)
  | a {cs ds : List V} (h : FzL H cs ds) : Fz H (.a cs) (.a ds)
  | t {cs ds : List V} (h : FzL H cs ds) : Fz H (.t cs) (.t ds)
inductive FzL (H : List Ob) : List V → List V → Prop
  | nil : FzL H [] []
  | cons {y z : V} {ys zs : List V} (h : Fz H y z) (hs : FzL H ys zs) : FzL H (y :: ys) (z :: zs)
end
section
variable {M : Nat → Prop} {w : World} {B : Nat} {ρ : List Re} {H : List Ob}
theorem Aj2 (hR : HR M w B ρ H) {id len t : Nat} {k : IntKind} {l : List Int} (hH : H[id]? = some ⟨t, 1, 0, true, ints k l⟩) (hl : len = l.length) {v : Value} (r : Rel w (Bb M ρ H) B ρ (.o id 0 0 len) v) : Rel w M B [] (.n false k l) v := by
  obtain ⟨re, hat, ok⟩ := hR.ob id _ hH rfl
  obtain ⟨re', e1, _, hq⟩ := r
  obtain rfl : re' = re := by have := e1.symm.trans hat; injection this
  obtain ⟨hcap, hq⟩ := hq (ok.ver.symm)
  have hsz : re'.sz = 1 := ok.sz
  subst hl
  rcases hq with ⟨g, ad, hg, hv, had⟩ | ⟨hg, hv, ho, hl0⟩
  · obtain ⟨cur, c1, c2, c3, c4, c5⟩ := ok.blk g hg
    refine ⟨some ad, re'.cap - 0, hv, by omega, by omega, fun hne => ⟨ad, rfl, ?_, fun j y hy => ?_⟩⟩
    · have hpos : 0 < l.length := List.length_pos_iff.2 hne
      rw [had (.inr rfl)]
      exact ⟨hR.lt hH rfl hat hg, hR.foreign id _ re' g hH rfl hat hg, fun h => by cases h⟩
    · rw [had (.inr rfl), Cj, Nat.zero_mul, Nat.zero_add]
      obtain ⟨u, d1, _, d3⟩ := c5 j (.i k y) (show (ints k l)[j]? = some (.i k y) by rw [F8, hy]; rfl)
      rw [show u = .int k y from d3] at d1
      simp [World.cell?, c1, d1]
  · have hn : l = [] := List.eq_nil_of_length_eq_zero hl0
    subst hn
    exact ⟨none, 0, hv, Nat.le_refl _, by simp [maxLen], fun h => absurd rfl h⟩
theorem Okb.out {fr : Bool} {b : Nat} (h : Okb w (Bb M ρ H) B fr b) : Okb w M B fr b := ⟨h.1, fun hm => h.2.1 (.inl hm), h.2.2⟩
mutual
theorem Fz.rel (hR : HR M w B ρ H) : ∀ {y z : V} (h : Fz H y z) (v : Value), Rel w (Bb M ρ H) B ρ y v → Rel w M B [] z v
  | _, _, .i, v, r => r
  | _, _, .b, v, r => r
  | _, _, .n, v, ⟨A, c, h1, h2, h3, h4⟩ => ⟨A, c, h1, h2, h3, fun hl => by obtain ⟨ad, e1, hb, hc⟩ := h4 hl; exact ⟨ad, e1, hb.out, hc⟩⟩
  | _, _, .o hH hl, v, r => Aj2 hR hH hl r
  | _, _, .a h, v, ⟨us, e, hs⟩ => ⟨us, e, FzL.rel hR h us hs⟩
  | _, _, .t h, v, ⟨us, e, hs⟩ => ⟨us, e, FzL.rel hR h us hs⟩
theorem FzL.rel (hR : HR M w B ρ H) : ∀ {ys zs : List V} (h : FzL H ys zs) (us : List Value), RelL w (Bb M ρ H) B ρ ys us → RelL w M B [] zs us
  | _, _, .nil, us, r => r
  | _, _, .cons h hs, us, ⟨u, us', e, h1, h2⟩ => ⟨u, us', e, Fz.rel hR h u h1, FzL.rel hR hs us' h2⟩
end
theorem Abn (M : Nat → Prop) : Bb M [] [] = M := by
  funext b
  refine propext ⟨fun h => ?_, fun h => .inl h⟩
  rcases h with h | ⟨i, o, r, h1, _⟩
  · exact h
  · simp at h1
theorem Ak8 (M : Nat → Prop) (w : World) (B : Nat) : HR M w B [] [] := ⟨rfl, fun i o h => by simp at h, fun i j oi oj ri rj g _ h => by simp at h, fun i o r g h => by simp at h⟩
theorem U9 (b : Nat) : ¬ Jc [] [] b := fun ⟨i, o, r, h, _⟩ => by simp at h
end
variable {P : Program} {f : FuncId} {args : List V}
theorem SpecM.fz {post : Out → List Ob → Prop} {z : V} (h : SpecM P f args [] post) (hz : ∀ o G, post o G → ∃ y, o = .ret y ∧ Fz G y z) : Spec P f args (fun o => o = .ret z) := fun M w vals hM hr =>
  (h M w [] vals hM (Ak8 M w _) (by rw [Abn]; exact hr)).mono fun e w' ⟨o, H', ρ', h1, h2, h3, h4, h5, h6, h7, h8, h9⟩ => by
    obtain ⟨y, rfl, hf⟩ := hz o H' h1
    obtain ⟨v, he, hv⟩ := h2
    exact ⟨_, rfl, ⟨v, he, hf.rel h3 v hv⟩, h4, h5, h6, h7.size, fun k hk => h9 k hk (U9 k)⟩
theorem SpecTN.fz {g : Nat} {cells : List V} {post : Out → List Ob → Prop} {z : V} (h : SpecTN P f g cells args post) (hz : ∀ o G, post o G → ∃ y, o = .ret y ∧ Fz G y z) : SpecT P f g cells args (fun o => o = .ret z) := fun M w vals hM hT hr =>
  (h M w [] vals hM hT (Ak8 M w _) (by rw [Abn]; exact hr)).mono fun e w' ⟨o, H', ρ', h1, h2, h3, h4, h5, h6, h7, h8, h9⟩ => by
    obtain ⟨y, rfl, hf⟩ := hz o H' h1
    obtain ⟨v, he, hv⟩ := h2
    exact ⟨_, rfl, ⟨v, he, hf.rel h3 v hv⟩, h4, h5, h6, h7.size, fun k hk => h9 k hk (U9 k)⟩
section
variable {Γ : Ctx} {F : Fr} {H : List Ob} {Q : Exit → Fr → List Ob → Prop} {g : Nat} {cells : List V} {ops : Array Oper}
theorem Fa {f : FuncId} (fn : Func) {d : Nat} {T : TypeId} {ps : String} {af : Array Edge} {args : Array Operand} {ts : Array TypeId} {c : Operand} {ys zs : List V} {post : Out → Prop} {R : Fr → List Ob → Prop}
    (hs : SpecT P f g cells zs post) (hL : ∀ b, ¬ Γ.L0 b) (hT : TabR g cells Γ.w0 Γ.M) (hc : ovO F c = some (.f f [])) (hf : P.funcs[f]? = some fn) (hb : fn.body.isSome = true) (hn : (fn.name == "runtime.NumGoroutine") = false) (hx : ovL F args.toList ys) (ha : ArgL ys zs) (hd : d < Γ.N)
    (k : ∀ y, post (.ret y) → R ((d, y) :: F) H) (kp : ∀ ch, post (.pan ch) → Q (.panic ch) F H) :
    JS P ops Γ ⟨some d, .call { callee := .value c, args := args, argTypes := ts }, T, ps, af, none⟩ F H Q R := fun a w ⟨ρ, s⟩ =>
  ⟨rfl, Q2 hL hT hc hf hb hn hx ha hs s (fun y v w' h1 h2 h3 h4 => ⟨fun _ => Hb h3, _, _, k y h1, ρ, h4.put hd h2⟩) (fun ch w' h1 _ h3 => ⟨F, H, kp ch h1, ρ, h3⟩)⟩
end
end Go.Proofs.YtnadmljoefecfaaGreatDoor.Vc

namespace Go.Proofs.YtnadmljoefecfaaGreatDoor.Vc
open Go Go.RowKit
section
variable {P : Program} {Γ : Ctx} {F : Fr} {H : List Ob} {Q : Exit → Fr → List Ob → Prop}
theorem Zm {ops : Array Oper} {rest : List Oper} {d : Nat} {x : Operand} {T : TypeId} {ps : String} {af : Array Edge} {y : V} (h : ovO F x = some y) (hd : d < Γ.N) (j : JO P ops rest Γ ((d, y) :: F) H Q) : JO P ops (⟨some d, .move x, T, ps, af, none⟩ :: rest) Γ F H Q := Ac (Ay h) hd j
theorem Za {ops : Array Oper} {rest : List Oper} {d : Nat} {x : Operand} {T : TypeId} {ps : String} {af : Array Edge} {y : V} (h : ovO F x = some y) (hd : d < Γ.N) (j : JO P ops rest Γ ((d, y) :: F) H Q) : JO P ops (⟨some d, .assign x, T, ps, af, none⟩ :: rest) Γ F H Q := Ac (Cm h) hd j
theorem Zs {id : Nat} {l : List Oper} {y : Code} (h : JO P l.toArray l Γ F H (I5 (fun F' H' => JC P y Γ F' H' Q) Q)) : JC P (.seq (.region id l.toArray false) y) Γ F H Q := Ae (Af h)
theorem Z1 {ops : Array Oper} {fuel : Nat} {listed : Array Bool} (i : Nat) {st : Bool} {o : Oper} {d : Nat} {y : V} (h : LO P ops st Γ o d F H y) (hi : ops[i]? = some o) (j : JA P ops fuel (listed.setIfInBounds i true) Γ ((d, y) :: F) H Q) (hs : Region.noSelect ops = true := by kernel_rfl) (hr : (Region.ready .any ops listed).contains i = true := by kernel_rfl) (hf : Zf st ops listed i = true := by kernel_rfl) (hQ : ∀ c F H d, Q (.panic c) F H → Q (.panic c) ((d, .u) :: F) H := by exact fun _ _ _ _ h => h) : JA P ops (fuel + 1) listed Γ F H Q := Abt i h hi hs hr hf hQ j
theorem Z2 {ops : Array Oper} {fuel : Nat} {listed : Array Bool} (i : Nat) (D : List Nat) {st : Bool} {o : Oper} {d : Nat} {y : V} (h : LO P ops st Γ o d F H y) (hi : ops[i]? = some o) (j : JA P ops fuel (listed.setIfInBounds i true) Γ ((d, y) :: F) H Q) (hs : Region.noSelect ops = true := by kernel_rfl) (hr : (Region.ready .any ops listed).contains i = true := by kernel_rfl) (hf : R5 st ops listed i D = true := by kernel_rfl) (hdp : Akh ops listed i D = true := by kernel_rfl) (hQ : ∀ c F H d, Q (.panic c) F H → Q (.panic c) ((d, .u) :: F) H := by exact fun _ _ _ _ h => h) : JA P ops (fuel + 1) listed Γ F H Q := Ahv i D h hi hs hr hf hdp hQ j
theorem Says.v5 {F r : Fr} {a b c d e : Nat} (h : Says F r) : Says F ((a, .u) :: (b, .u) :: (c, .u) :: (d, .u) :: (e, .u) :: r) := .u (.u (.u (.u (.u h))))
theorem Says.v9 {F r : Fr} {a b c d e f g i j k : Nat} (h : Says F r) : Says F ((a, .u) :: (b, .u) :: (c, .u) :: (d, .u) :: (e, .u) :: (f, .u) :: (g, .u) :: (i, .u) :: (j, .u) :: (k, .u) :: r) := .v5 (.v5 h)
theorem Zb {a b : Nat} (h : Nat.ble a b = true) : a ≤ b := Nat.le_of_ble_eq_true h
end

def tN (l : List Int) : Nat → Nat
  | 0 => 0
  | k + 1 => if l.getD k 0 = 0 then tN l k else k + 1
def trm (l : List Int) : List Int := l.take (tN l l.length)
theorem Acq (l : List Int) : ∀ k, tN l k ≤ k
  | 0 => Nat.le_refl _
  | k + 1 => by simp only [tN]; split <;> have := Acq l k <;> omega
theorem T3 {l : List Int} {k : Nat} (h0 : 0 < k) (h : l.getD (k - 1) 0 = 0) : tN l (k - 1) = tN l k := by
  obtain ⟨j, rfl⟩ : ∃ j, k = j + 1 := ⟨k - 1, by omega⟩
  simp only [Nat.add_sub_cancel] at h ⊢
  simp only [tN]
  rw [if_pos h]
theorem Po {l : List Int} {k : Nat} (h0 : 0 < k) (h : ¬ l.getD (k - 1) 0 = 0) : tN l k = k := by
  obtain ⟨j, rfl⟩ : ∃ j, k = j + 1 := ⟨k - 1, by omega⟩
  simp only [Nat.add_sub_cancel] at h
  simp only [tN]
  rw [if_neg h]
theorem Akz {l : List Int} {k : Nat} (h : ¬ 0 < k) : tN l k = k := by
  have : k = 0 := by omega
  subst this; rfl
theorem Cy (l : List Int) : (trm l).length ≤ l.length := by unfold trm; rw [List.length_take]; omega
theorem Iv {l : List Int} {k i : Nat} (h : i < k) : (l.take k).getD i 0 = l.getD i 0 := by
  rw [List.getD_eq_getElem?_getD, List.getD_eq_getElem?_getD, List.getElem?_take, if_pos h]
def Av (l : List Int) : Prop := ∀ x ∈ l, 0 ≤ x ∧ x < 18446744073709551616
theorem A8 {l : List Int} (h : Av l) : Av (trm l) := fun x hx => h x (List.mem_of_mem_take hx)
theorem Pm {l : List Int} (h : Av l) {i : Nat} (hi : i < l.length) : 0 ≤ l.getD i 0 ∧ l.getD i 0 < 18446744073709551616 := by
  rw [List.getD_eq_getElem?_getD, List.getElem?_eq_getElem hi]; exact h _ (List.getElem_mem hi)
theorem A2 {l : List Int} (h : Av l) (i : Nat) : 0 ≤ l.getD i 0 ∧ l.getD i 0 < 18446744073709551616 := by
  by_cases hi : i < l.length
  · exact Pm h hi
  · rw [List.getD_eq_getElem?_getD, List.getElem?_eq_none (by omega)]; exact ⟨by decide, by decide⟩
def bl : Nat → Nat → Nat
  | 0, _ => 0
  | f + 1, n => if n = 0 then 0 else 1 + bl f (n / 2)
theorem Wy : ∀ f n, bl f n ≤ f
  | 0, _ => Nat.le_refl _
  | f + 1, n => by simp only [bl]; split <;> have := Wy f (n / 2) <;> omega
theorem Wz : ∀ (f d n : Nat), n < 2 ^ f → bl (f + d) n = bl f n
  | 0, d, n, h => by
    have : n = 0 := by simpa using h
    subst this
    cases d <;> simp [bl]
  | f + 1, d, n, h => by
    rw [show f + 1 + d = (f + d) + 1 by omega]
    simp only [bl]
    split
    · rfl
    · rw [Wz f d (n / 2) (by rw [Nat.pow_succ] at h; omega)]
theorem Sp : ∀ (k f n : Nat), 2 ^ k ≤ n → bl (k + f) n = k + bl f (n / 2 ^ k)
  | 0, f, n, _ => by simp
  | k + 1, f, n, h => by
    have h2 : 2 ^ (k + 1) = 2 ^ k * 2 := Nat.pow_succ ..
    have hp : 0 < 2 ^ k := Nat.two_pow_pos k
    rw [show k + 1 + f = (k + f) + 1 by omega]
    simp only [bl]
    rw [if_neg (by omega), Sp k f (n / 2) (by omega), h2, Nat.mul_comm, ← Nat.div_div_eq_div_mul]
    omega
theorem Jd {k n : Nat} (hk : k ≤ 64) (h : 2 ^ k ≤ n) (hn : n < 2 ^ 64) : bl 64 n = k + bl 64 (n / 2 ^ k) := by
  have h1 := Sp k (64 - k) n h
  rw [show k + (64 - k) = 64 by omega] at h1
  rw [h1]
  have h2 : n / 2 ^ k < 2 ^ (64 - k) := by
    rw [Nat.div_lt_iff_lt_mul (Nat.two_pow_pos k), ← Nat.pow_add, show 64 - k + k = 64 by omega]; exact hn
  have h3 := Wz (64 - k) k _ h2
  rw [show 64 - k + k = 64 by omega] at h3
  rw [h3]
def Vo : ByteArray := ⟨((List.range 256).map fun i => (bl 8 i).toUInt8).toArray⟩
theorem Oz {i : Nat} (h : i < 256) : Hu Vo i = (bl 64 i : Int) := by
  have key : ∀ j : Fin 256, Hu Vo j.val = (bl 64 j.val : Int) := by decide +kernel
  exact key ⟨i, h⟩
theorem I2 {n k b : Nat} {kk : Int} (h : 2 ^ min kk.toNat b = k) : ((n : Int)).fdiv (2 ^ min kk.toNat b) = ((n / k : Nat) : Int) := by
  have : ((2 : Int) ^ min kk.toNat b) = ((k : Nat) : Int) := by rw [← h]; norm_cast
  rw [this]
  exact (Int.ofNat_fdiv n k).symm
def Dn (l : List Int) : Nat := if (trm l).length = 0 then 0 else 64 * ((trm l).length - 1) + bl 64 ((trm l).getD ((trm l).length - 1) 0).toNat
theorem I9 (l : List Int) : Dn l ≤ 64 * l.length := by
  unfold Dn
  have h1 := Cy l
  split
  · omega
  · have := Wy 64 ((trm l).getD ((trm l).length - 1) 0).toNat
    omega
def Jn (a b : List Int) : Nat → Int
  | 0 => 0
  | k + 1 => if a.getD k 0 < b.getD k 0 then -1 else if b.getD k 0 < a.getD k 0 then 1 else Jn a b k
def Nw (a b : List Int) : Int := if a.length < b.length then -1 else if b.length < a.length then 1 else Jn a b a.length
def adN (a b : List Int) : Nat → List Int × Int
  | 0 => ([], 0)
  | i + 1 => ((adN a b i).1 ++ [(a.getD i 0 + b.getD i 0 + (adN a b i).2) % 18446744073709551616], (a.getD i 0 + b.getD i 0 + (adN a b i).2) / 18446744073709551616)
theorem Dc (a b : List Int) : ∀ i, (adN a b i).1.length = i
  | 0 => rfl
  | i + 1 => by simp only [adN, List.length_append, Dc a b i]; rfl
theorem Qv {a b : List Int} (ha : Av a) (hb : Av b) : ∀ i, 0 ≤ (adN a b i).2 ∧ (adN a b i).2 ≤ 1
  | 0 => ⟨Int.le_refl 0, (by decide : (0 : Int) ≤ 1)⟩
  | i + 1 => by
    have h1 := A2 ha i
    have h2 := A2 hb i
    have h3 := Qv ha hb i
    simp only [adN]
    omega
theorem Qu {a b : List Int} : ∀ i, Av (adN a b i).1
  | 0 => by intro x hx; cases hx
  | i + 1 => by
    intro x hx
    simp only [adN, List.mem_append, List.mem_singleton] at hx
    rcases hx with hx | hx
    · exact Qu i x hx
    · subst hx; omega
def sbN (a b : List Int) : Nat → List Int × Int
  | 0 => ([], 0)
  | i + 1 => ((sbN a b i).1 ++ [if a.getD i 0 < b.getD i 0 + (sbN a b i).2 then a.getD i 0 - b.getD i 0 - (sbN a b i).2 + 18446744073709551616 else a.getD i 0 - b.getD i 0 - (sbN a b i).2], if a.getD i 0 < b.getD i 0 + (sbN a b i).2 then 1 else 0)
theorem Db (a b : List Int) : ∀ i, (sbN a b i).1.length = i
  | 0 => rfl
  | i + 1 => by simp only [sbN, List.length_append, Db a b i]; rfl
theorem Sz (a b : List Int) : ∀ i, 0 ≤ (sbN a b i).2 ∧ (sbN a b i).2 ≤ 1
  | 0 => ⟨Int.le_refl 0, (by decide : (0 : Int) ≤ 1)⟩
  | i + 1 => by simp only [sbN]; split <;> decide
theorem Oc {a b : List Int} (ha : Av a) (hb : Av b) : ∀ i, Av (sbN a b i).1
  | 0 => by intro x hx; cases hx
  | i + 1 => by
    have h1 := A2 ha i
    have h2 := A2 hb i
    have h3 := Sz a b i
    intro x hx
    simp only [sbN, List.mem_append, List.mem_singleton] at hx
    rcases hx with hx | hx
    · exact Oc ha hb i x hx
    · subst hx; split <;> omega
def D2 (l : List Int) (n : Nat) : List Int := l ++ List.replicate (n - l.length) 0
theorem Ff {l : List Int} {n : Nat} (h : l.length ≤ n) : (D2 l n).length = n := by unfold D2; rw [List.length_append, List.length_replicate]; omega
theorem Gi {l : List Int} {n : Nat} {v : Int} (h : l.length < n) : (D2 l n).set l.length v = D2 (l ++ [v]) n := by
  unfold D2
  obtain ⟨m, hm⟩ : ∃ m, n - l.length = m + 1 := ⟨n - l.length - 1, by omega⟩
  rw [hm, List.replicate_succ, List.set_append_right _ _ (Nat.le_refl _), Nat.sub_self, List.set_cons_zero, List.length_append, List.length_singleton, show n - (l.length + 1) = m by omega]
  simp
theorem Ed {l : List Int} {n : Nat} (h : l.length = n) : D2 l n = l := by unfold D2; rw [h, Nat.sub_self]; simp
theorem Ds {l : List Int} {i : Nat} (h : l.length ≤ i) : l.getD i 0 = 0 := by rw [List.getD_eq_getElem?_getD, List.getElem?_eq_none h]; rfl
theorem Wl {a b : List Int} {k : Nat} (h0 : 0 < k) (h : a.getD (k - 1) 0 < b.getD (k - 1) 0) : Jn a b k = -1 := by
  obtain ⟨j, rfl⟩ : ∃ j, k = j + 1 := ⟨k - 1, by omega⟩
  simp only [Nat.add_sub_cancel] at h
  simp only [Jn]; rw [if_pos h]
theorem Wm {a b : List Int} {k : Nat} (h0 : 0 < k) (h : b.getD (k - 1) 0 < a.getD (k - 1) 0) : Jn a b k = 1 := by
  obtain ⟨j, rfl⟩ : ∃ j, k = j + 1 := ⟨k - 1, by omega⟩
  simp only [Nat.add_sub_cancel] at h
  simp only [Jn]; rw [if_neg (by omega), if_pos h]
theorem Wn {a b : List Int} {k : Nat} (h0 : 0 < k) (h1 : ¬ a.getD (k - 1) 0 < b.getD (k - 1) 0) (h2 : ¬ b.getD (k - 1) 0 < a.getD (k - 1) 0) : Jn a b (k - 1) = Jn a b k := by
  obtain ⟨j, rfl⟩ : ∃ j, k = j + 1 := ⟨k - 1, by omega⟩
  simp only [Nat.add_sub_cancel] at h1 h2 ⊢
  simp only [Jn]; rw [if_neg h1, if_neg h2]
theorem V4 {X Y : List Int} {i n : Nat} (h : i < n) : (D2 (adN X Y i).1 n).set ((0 + i) * 1) ((X.getD i 0 + Y.getD i 0 + (adN X Y i).2) % 18446744073709551616) = D2 (adN X Y (i + 1)).1 n := by
  rw [Nat.zero_add, Nat.mul_one]
  have := Gi (l := (adN X Y i).1) (n := n) (v := (X.getD i 0 + Y.getD i 0 + (adN X Y i).2) % 18446744073709551616) (by rw [Dc]; exact h)
  rw [Dc] at this
  exact this
theorem V2 {X Y : List Int} {i n : Nat} (h : i < n) : (D2 (sbN X Y i).1 n).set ((0 + i) * 1) (if X.getD i 0 < Y.getD i 0 + (sbN X Y i).2 then X.getD i 0 - Y.getD i 0 - (sbN X Y i).2 + 18446744073709551616 else X.getD i 0 - Y.getD i 0 - (sbN X Y i).2) = D2 (sbN X Y (i + 1)).1 n := by
  rw [Nat.zero_add, Nat.mul_one]
  have := Gi (l := (sbN X Y i).1) (n := n) (v := if X.getD i 0 < Y.getD i 0 + (sbN X Y i).2 then X.getD i 0 - Y.getD i 0 - (sbN X Y i).2 + 18446744073709551616 else X.getD i 0 - Y.getD i 0 - (sbN X Y i).2) (by rw [Db]; exact h)
  rw [Db] at this
  exact this
theorem Iw {l : List Int} {n : Nat} {v : Int} (h : l.length = n) : (D2 l (n + 1)).set ((0 + n) * 1) v = l ++ [v] := by
  rw [Nat.zero_add, Nat.mul_one]
  subst h
  rw [Gi (by omega), Ed (by simp)]
def swL (a b : List Int) : List Int × List Int := if a.length < b.length then (b, a) else (a, b)
def Lo (a b : List Int) : List Int := (adN (swL (trm a) (trm b)).1 (swL (trm a) (trm b)).2 (swL (trm a) (trm b)).1.length).1 ++ [(adN (swL (trm a) (trm b)).1 (swL (trm a) (trm b)).2 (swL (trm a) (trm b)).1.length).2]
def Qp (a b : List Int) : List Int := (sbN (trm a) (trm b) (trm a).length).1
theorem D9 {l : List Int} {v : Int} (h : Av l) (h0 : 0 ≤ v) (h1 : v < 18446744073709551616) : Av (l ++ [v]) := fun x hx => by
  rcases List.mem_append.1 hx with hx | hx
  · exact h x hx
  · rw [List.mem_singleton] at hx; subst hx; exact ⟨h0, h1⟩
def dig (l : List Int) : List Int := l.flatMap fun v => [v % 4294967296, v / 4294967296]
theorem Ld (l : List Int) : (dig l).length = 2 * l.length := by
  induction l with
  | nil => rfl
  | cons v l ih => simp only [dig, List.flatMap_cons, List.length_append, List.length_cons, List.length_nil] at ih ⊢; omega
theorem Zx {l : List Int} {i : Nat} (h : i < l.length) : dig (l.take (i + 1)) = dig (l.take i) ++ [l.getD i 0 % 4294967296, l.getD i 0 / 4294967296] := by
  rw [List.take_succ_eq_append_getElem h, List.getD_eq_getElem?_getD, List.getElem?_eq_getElem h]
  unfold dig
  rw [List.flatMap_append]
  rfl
def Al1 : List Int → List Int
  | [] => []
  | [x] => [x]
  | x :: y :: r => IntKind.u64.wrap (x + IntKind.u64.wrap (y * 4294967296)) :: Al1 r
theorem L8 {l : List Int} {i : Nat} (h : i < l.length) : l.drop i = l.getD i 0 :: l.drop (i + 1) := by
  rw [List.drop_eq_getElem_cons h, List.getD_eq_getElem?_getD, List.getElem?_eq_getElem h]; rfl
theorem Xu {v : Int} (h0 : 0 ≤ v) (h1 : v < 18446744073709551616) : Av [v] := fun x hx => by rw [List.mem_singleton] at hx; subst hx; exact ⟨h0, h1⟩
theorem Nx {m r : Int} (h1 : 0 ≤ r) (h2 : r < 18446744073709551616) (h : m = r - 18446744073709551616) : IntKind.u64.wrap m = r := by
  subst h
  simp only [IntKind.wrap, IntKind.bits, IntKind.signed] <;> simp <;> omega


def Bs : Int := 18446744073709551616
def vl : List Int → Int
  | [] => 0
  | x :: l => x + Bs * vl l
def pB : Nat → Int
  | 0 => 1
  | k + 1 => Bs * pB k
theorem Dh : ∀ k, 0 < pB k
  | 0 => by decide
  | k + 1 => by simp only [pB]; exact Int.mul_pos (by decide) (Dh k)
theorem Fx : ∀ a b, pB (a + b) = pB a * pB b
  | 0, b => by simp [pB]
  | a + 1, b => by rw [show a + 1 + b = (a + b) + 1 by omega]; simp only [pB]; rw [Fx a b, Int.mul_assoc]
theorem D8 : ∀ a b : List Int, vl (a ++ b) = vl a + pB a.length * vl b
  | [], b => by simp [vl, pB]
  | x :: a, b => by
    simp only [List.cons_append, vl, List.length_cons, pB]
    rw [D8 a b, Int.mul_add, Int.mul_assoc, Int.add_assoc]
theorem A4 : ∀ {l : List Int}, Av l → 0 ≤ vl l
  | [], _ => Int.le_refl _
  | x :: l, h => by
    have h1 := (h x (List.mem_cons_self ..)).1
    have h2 := A4 (l := l) fun y hy => h y (List.mem_cons_of_mem _ hy)
    simp only [vl]
    have := Int.mul_nonneg (show (0 : Int) ≤ Bs by decide) h2
    omega
theorem E2 : ∀ {l : List Int}, Av l → vl l < pB l.length
  | [], _ => by decide
  | x :: l, h => by
    have h1 := (h x (List.mem_cons_self ..)).2
    have h2 := E2 (l := l) fun y hy => h y (List.mem_cons_of_mem _ hy)
    simp only [vl, List.length_cons, pB]
    have h3 : vl l + 1 ≤ pB l.length := h2
    have h4 := Int.mul_le_mul_of_nonneg_left h3 (show (0 : Int) ≤ Bs by decide)
    rw [Int.mul_add, Int.mul_one] at h4
    have h5 : x < Bs := h1
    omega
theorem Hi (n : Nat) : vl (List.replicate n 0) = 0 := by
  induction n with
  | zero => rfl
  | succ n ih => rw [List.replicate_succ]; simp [vl, ih]
def vk (l : List Int) (k : Nat) : Int := vl (l.take k)
theorem Tf (l : List Int) : vk l 0 = 0 := by unfold vk; simp [vl]
theorem Du {l : List Int} {k : Nat} (h : l.length ≤ k) : vk l k = vl l := by unfold vk; rw [List.take_of_length_le h]
theorem C4 (l : List Int) (k : Nat) : vk l (k + 1) = vk l k + pB k * l.getD k 0 := by
  unfold vk
  by_cases h : k < l.length
  · rw [List.take_succ_eq_append_getElem h, D8, List.length_take, Nat.min_eq_left (by omega), List.getD_eq_getElem?_getD, List.getElem?_eq_getElem h]
    simp [vl]
  · rw [List.take_of_length_le (by omega), List.take_of_length_le (by omega), Ds (by omega)]
    simp
theorem Afx (l : List Int) : ∀ k, k ≤ l.length → vk l (tN l k) = vk l k
  | 0, _ => rfl
  | k + 1, h => by
    simp only [tN]
    split
    · rename_i h0
      rw [Afx l k (by omega), C4, h0, Int.mul_zero, Int.add_zero]
    · rfl
theorem D7 (l : List Int) : vl (trm l) = vl l := by
  have := Afx l l.length (Nat.le_refl _)
  rw [Du (Nat.le_refl _)] at this
  exact this
theorem Qt (a b : List Int) : ∀ i, vl (adN a b i).1 + pB i * (adN a b i).2 = vk a i + vk b i
  | 0 => by simp [adN, vl, Tf, pB]
  | i + 1 => by
    have ih := Qt a b i
    simp only [adN]
    rw [D8, Dc, C4, C4]
    simp only [vl, pB]
    have e := Int.emod_add_mul_ediv (a.getD i 0 + b.getD i 0 + (adN a b i).2) 18446744073709551616
    generalize hs : a.getD i 0 + b.getD i 0 + (adN a b i).2 = s at *
    generalize hq : s / 18446744073709551616 = q at *
    generalize hr : s % 18446744073709551616 = r at *
    have hB : Bs = 18446744073709551616 := rfl
    rw [Int.mul_zero, Int.add_zero, hB, Int.mul_comm 18446744073709551616 (pB i), Int.mul_assoc]
    have e2 : pB i * r + pB i * (18446744073709551616 * q) = pB i * s := by rw [← Int.mul_add, e]
    have e3 : pB i * s = pB i * a.getD i 0 + pB i * b.getD i 0 + pB i * (adN a b i).2 := by rw [← hs, Int.mul_add, Int.mul_add]
    omega
theorem Pv (a b : List Int) : ∀ i, vl (sbN a b i).1 - pB i * (sbN a b i).2 = vk a i - vk b i
  | 0 => by simp [sbN, vl, Tf, pB]
  | i + 1 => by
    have ih := Pv a b i
    simp only [sbN]
    rw [D8, Db, C4, C4]
    simp only [vl, pB]
    have hB : Bs = 18446744073709551616 := rfl
    rw [Int.mul_zero, Int.add_zero, hB, Int.mul_comm 18446744073709551616 (pB i), Int.mul_assoc]
    split
    · rw [Int.mul_one, Int.mul_add, Int.mul_sub, Int.mul_sub]; omega
    · rw [Int.mul_sub, Int.mul_sub]; simp; omega
theorem Afv (a b : List Int) : (swL a b).2.length ≤ (swL a b).1.length ∧ vl (swL a b).1 + vl (swL a b).2 = vl a + vl b := by
  unfold swL
  split
  · exact ⟨by show a.length ≤ b.length; omega, by show vl b + vl a = _; omega⟩
  · exact ⟨by show b.length ≤ a.length; omega, rfl⟩
theorem Mj (a b : List Int) : vl (Lo a b) = vl a + vl b := by
  have h := Qt (swL (trm a) (trm b)).1 (swL (trm a) (trm b)).2 (swL (trm a) (trm b)).1.length
  obtain ⟨h1, h2⟩ := Afv (trm a) (trm b)
  rw [Du (Nat.le_refl _), Du h1, h2, D7, D7] at h
  unfold Lo
  rw [D8, Dc]
  simp only [vl]
  rw [Int.mul_zero, Int.add_zero]
  exact h
def tpd (l : List Int) : Prop := l ≠ [] → l.getD (l.length - 1) 0 ≠ 0
theorem Aay (l : List Int) : ∀ k, 0 < tN l k → l.getD (tN l k - 1) 0 ≠ 0
  | 0, h => by simp [tN] at h
  | k + 1, h => by
    simp only [tN] at h ⊢
    split
    · rename_i h0; rw [if_pos h0] at h; exact Aay l k h
    · rename_i h0; exact h0
theorem Sw (l : List Int) : (trm l).length = tN l l.length := by unfold trm; rw [List.length_take, Nat.min_eq_left (Acq _ _)]
theorem Gq (l : List Int) : tpd (trm l) := fun hne => by
  have hl := Sw l
  have hpos : 0 < tN l l.length := by
    rcases Nat.eq_zero_or_pos (tN l l.length) with h | h
    · exact absurd (List.eq_nil_of_length_eq_zero (hl.trans h)) hne
    · exact h
  rw [hl]
  unfold trm
  rw [Iv (by omega)]
  exact Aay l _ hpos
theorem Kl {l : List Int} (h : tpd l) : trm l = l := by
  unfold trm
  by_cases h0 : l = []
  · subst h0; rfl
  · have hp : 0 < l.length := List.length_pos_iff.2 h0
    rw [Po hp (h h0), List.take_length]
theorem Sv {l : List Int} (hu : Av l) (ht : tpd l) (h0 : l ≠ []) : pB (l.length - 1) ≤ vl l := by
  have hp : 0 < l.length := List.length_pos_iff.2 h0
  obtain ⟨k, hk⟩ : ∃ k, l.length = k + 1 := ⟨l.length - 1, by omega⟩
  have h1 : vl l = vk l (k + 1) := by rw [Du (by omega)]
  rw [h1, C4, hk, Nat.add_sub_cancel]
  have h2 := ht h0
  rw [hk, Nat.add_sub_cancel] at h2
  have h3 := Pm hu (i := k) (by omega)
  have h4 : 0 ≤ vk l k := A4 fun x hx => hu x (List.mem_of_mem_take hx)
  have h5 : pB k * 1 ≤ pB k * l.getD k 0 := Int.mul_le_mul_of_nonneg_left (by omega) (Int.le_of_lt (Dh k))
  omega
theorem Fs {a b : Nat} (h : a ≤ b) : pB a ≤ pB b := by
  obtain ⟨c, rfl⟩ : ∃ c, b = a + c := ⟨b - a, by omega⟩
  rw [Fx]
  have h1 := Dh c
  have h2 := Int.mul_le_mul_of_nonneg_left (show 1 ≤ pB c by omega) (Int.le_of_lt (Dh a))
  omega
theorem Sh {a b : List Int} (ha : Av a) (hb : Av b) : ∀ k, (Jn a b k = 0 ∧ vk a k = vk b k) ∨ (Jn a b k = -1 ∧ vk a k < vk b k) ∨ (Jn a b k = 1 ∧ vk b k < vk a k)
  | 0 => .inl ⟨rfl, by rw [Tf, Tf]⟩
  | k + 1 => by
    have ih := Sh ha hb k
    simp only [Jn]
    rw [C4, C4]
    have a1 : 0 ≤ vk a k := A4 fun x hx => ha x (List.mem_of_mem_take hx)
    have b1 : 0 ≤ vk b k := A4 fun x hx => hb x (List.mem_of_mem_take hx)
    have a2 : vk a k < pB k := Int.lt_of_lt_of_le (E2 fun x hx => ha x (List.mem_of_mem_take hx)) (Fs (by rw [List.length_take]; omega))
    have b2 : vk b k < pB k := Int.lt_of_lt_of_le (E2 fun x hx => hb x (List.mem_of_mem_take hx)) (Fs (by rw [List.length_take]; omega))
    have hp := Dh k
    split
    · rename_i h
      have := Int.mul_le_mul_of_nonneg_left (show a.getD k 0 + 1 ≤ b.getD k 0 by omega) (Int.le_of_lt hp)
      rw [Int.mul_add, Int.mul_one] at this
      exact .inr (.inl ⟨rfl, by omega⟩)
    · split
      · rename_i h1 h
        have := Int.mul_le_mul_of_nonneg_left (show b.getD k 0 + 1 ≤ a.getD k 0 by omega) (Int.le_of_lt hp)
        rw [Int.mul_add, Int.mul_one] at this
        exact .inr (.inr ⟨rfl, by omega⟩)
      · rename_i h1 h2
        rw [show a.getD k 0 = b.getD k 0 by omega]
        rcases ih with ⟨h, h'⟩ | ⟨h, h'⟩ | ⟨h, h'⟩
        · exact .inl ⟨h, by omega⟩
        · exact .inr (.inl ⟨h, by omega⟩)
        · exact .inr (.inr ⟨h, by omega⟩)
theorem Hm {a b : List Int} (ha : Av a) (hb : Av b) : (Nw (trm a) (trm b) = 0 ∧ vl a = vl b) ∨ (Nw (trm a) (trm b) = -1 ∧ vl a < vl b) ∨ (Nw (trm a) (trm b) = 1 ∧ vl b < vl a) := by
  have ua := A8 ha
  have ub := A8 hb
  rw [← D7 a, ← D7 b]
  have less : ∀ {x y : List Int}, Av x → Av y → tpd y → x.length < y.length → vl x < vl y := fun {x y} hx hy ht hlt => by
    have h1 := E2 hx
    have h2 := Sv hy ht (by intro e; rw [e] at hlt; simp at hlt)
    have h3 := Fs (show x.length ≤ y.length - 1 by omega)
    omega
  unfold Nw
  split
  · rename_i h; exact .inr (.inl ⟨rfl, less ua ub (Gq b) h⟩)
  · split
    · rename_i h; exact .inr (.inr ⟨rfl, less ub ua (Gq a) h⟩)
    · rename_i h1 h2
      have := Sh ua ub (trm a).length
      rw [Du (Nat.le_refl _), Du (by omega : (trm b).length ≤ (trm a).length)] at this
      exact this
theorem Ph {a b : List Int} (ha : Av a) (hb : Av b) (h : vl b ≤ vl a) : vl (Qp a b) = vl a - vl b := by
  have ua := A8 ha
  have ub := A8 hb
  have hv := Pv (trm a) (trm b) (trm a).length
  rw [Du (Nat.le_refl _), D7] at hv
  have hlen : (trm b).length ≤ (trm a).length := by
    rcases Nat.lt_or_ge (trm a).length (trm b).length with hlt | hge
    · have h1 := E2 ua
      have h2 := Sv ub (Gq b) (by intro e; rw [e] at hlt; simp at hlt)
      have h3 := Fs (show (trm a).length ≤ (trm b).length - 1 by omega)
      rw [D7] at h1 h2
      omega
    · exact hge
  rw [Du hlen, D7] at hv
  have hc := Sz (trm a) (trm b) (trm a).length
  have hs := E2 (Oc ua ub (trm a).length)
  rw [Db] at hs
  unfold Qp
  rcases (show (sbN (trm a) (trm b) (trm a).length).2 = 0 ∨ (sbN (trm a) (trm b) (trm a).length).2 = 1 by omega) with h0 | h0
  · rw [h0, Int.mul_zero] at hv; omega
  · rw [h0, Int.mul_one] at hv; omega


theorem Ps {x : Int} (h : 0 ≤ x) : x.fdiv (2 ^ min (32 : Int).toNat 64) = x / 4294967296 := by
  obtain ⟨n, rfl⟩ := Int.eq_ofNat_of_zero_le h
  exact I2 (k := 4294967296) (by decide)
theorem W3 {x : Int} (h0 : 0 ≤ x) (h1 : x < 18446744073709551616) : Gm .and .u64 x 4294967295 = x % 4294967296 := by
  obtain ⟨n, rfl⟩ := Int.eq_ofNat_of_zero_le h0
  unfold Gm
  simp only [IntKind.bits]
  have e1 : (BitVec.ofInt 64 (n : Int)).toNat = n := by
    rw [BitVec.toNat_ofInt]; simp; omega
  have e2 : (BitVec.ofInt 64 4294967295).toNat = 4294967295 := by decide
  have e3 : (BitVec.ofInt 64 (n : Int) &&& BitVec.ofInt 64 4294967295).toNat = n % 4294967296 := by
    rw [BitVec.toNat_and, e1, e2]
    have := Nat.and_two_pow_sub_one_eq_mod n 32
    simpa using this
  show IntKind.u64.wrap (((BitVec.ofInt 64 (n : Int) &&& BitVec.ofInt 64 4294967295).toNat : Nat) : Int) = _
  rw [e3, Bf (by omega) (by omega)]
  omega
theorem Ji {a b m : Int} (ha : 0 ≤ a) (hb : 0 ≤ b) (ham : a ≤ m) (hbm : b ≤ m) : 0 ≤ a * b ∧ a * b ≤ m * m := by
  refine ⟨Int.mul_nonneg ha hb, ?_⟩
  exact Int.mul_le_mul ham hbm hb (by omega)
theorem Vb (x y : Int) : x * y = (x / 4294967296) * (y / 4294967296) * 18446744073709551616 + ((x / 4294967296) * (y % 4294967296) + (x % 4294967296) * (y / 4294967296)) * 4294967296 + (x % 4294967296) * (y % 4294967296) := by
  have hx := Int.emod_add_mul_ediv x 4294967296
  have hy := Int.emod_add_mul_ediv y 4294967296
  generalize x / 4294967296 = x1 at *
  generalize x % 4294967296 = x0 at *
  generalize y / 4294967296 = y1 at *
  generalize y % 4294967296 = y0 at *
  rw [← hx, ← hy, Int.add_mul, Int.mul_add, Int.mul_add]
  have e1 : x0 * (4294967296 * y1) = 4294967296 * (x0 * y1) := by rw [Int.mul_left_comm]
  have e2 : 4294967296 * x1 * y0 = 4294967296 * (x1 * y0) := Int.mul_assoc _ _ _
  have e3 : 4294967296 * x1 * (4294967296 * y1) = 18446744073709551616 * (x1 * y1) := by
    rw [Int.mul_assoc, Int.mul_left_comm x1, ← Int.mul_assoc 4294967296 4294967296]; rfl
  rw [e1, e2, e3]
  omega
theorem Ve {x y : Int} (hx0 : 0 ≤ x) (hx : x < 18446744073709551616) (hy0 : 0 ≤ y) (hy : y < 18446744073709551616) :
    let p00 := x % 4294967296 * (y % 4294967296)
    let p10 := x / 4294967296 * (y % 4294967296)
    let p01 := x % 4294967296 * (y / 4294967296)
    let p11 := x / 4294967296 * (y / 4294967296)
    let t := p10 + p00 / 4294967296
    let u := t % 4294967296 + p01
    (0 ≤ p00 ∧ p00 ≤ 18446744065119617025) ∧ (0 ≤ p10 ∧ p10 ≤ 18446744065119617025) ∧ (0 ≤ p01 ∧ p01 ≤ 18446744065119617025) ∧ (0 ≤ p11 ∧ p11 ≤ 18446744065119617025) ∧ p11 + t / 4294967296 + u / 4294967296 = x * y / 18446744073709551616 := by
  intro p00 p10 p01 p11 t u
  have b00 := Ji (a := x % 4294967296) (b := y % 4294967296) (m := 4294967295) (by omega) (by omega) (by omega) (by omega)
  have b10 := Ji (a := x / 4294967296) (b := y % 4294967296) (m := 4294967295) (by omega) (by omega) (by omega) (by omega)
  have b01 := Ji (a := x % 4294967296) (b := y / 4294967296) (m := 4294967295) (by omega) (by omega) (by omega) (by omega)
  have b11 := Ji (a := x / 4294967296) (b := y / 4294967296) (m := 4294967295) (by omega) (by omega) (by omega) (by omega)
  have hp := Vb x y
  have em : (4294967295 : Int) * 4294967295 = 18446744065119617025 := by decide
  rw [em] at b00 b10 b01 b11
  refine ⟨b00, b10, b01, b11, ?_⟩
  show x / 4294967296 * (y / 4294967296) + (x / 4294967296 * (y % 4294967296) + x % 4294967296 * (y % 4294967296) / 4294967296) / 4294967296 + ((x / 4294967296 * (y % 4294967296) + x % 4294967296 * (y % 4294967296) / 4294967296) % 4294967296 + x % 4294967296 * (y / 4294967296)) / 4294967296 = x * y / 18446744073709551616
  generalize x / 4294967296 * (y / 4294967296) = q11 at *
  generalize x / 4294967296 * (y % 4294967296) = q10 at *
  generalize x % 4294967296 * (y / 4294967296) = q01 at *
  generalize x % 4294967296 * (y % 4294967296) = q00 at *
  rw [hp]
  omega
theorem Dv {m : Int} : IntKind.u64.wrap m = m % 18446744073709551616 := by
  simp only [IntKind.wrap, IntKind.bits, IntKind.signed] <;> simp
theorem Jf : ∀ (l : List Int) (j : Nat) (v : Int), j < l.length → vl (l.set j v) = vl l + pB j * (v - l.getD j 0)
  | [], j, v, h => by simp at h
  | x :: l, 0, v, _ => by
    have e : (x :: l).getD 0 0 = x := rfl
    simp only [List.set_cons_zero, vl, pB, e]; omega
  | x :: l, j + 1, v, h => by
    have ih := Jf l j v (by simpa using h)
    have e : (x :: l).getD (j + 1) 0 = l.getD j 0 := rfl
    simp only [List.set_cons_succ, vl, pB, e]
    rw [ih, Int.mul_add, Int.mul_assoc]; omega
theorem R4 {l : List Int} {j k : Nat} {v : Int} (hne : k ≠ j) : (l.set j v).getD k 0 = l.getD k 0 := by
  rw [List.getD_eq_getElem?_getD, List.getD_eq_getElem?_getD, List.getElem?_set_ne (Ne.symm hne)]
theorem Js {l : List Int} {j : Nat} {v : Int} (h : Av l) (h0 : 0 ≤ v) (h1 : v < 18446744073709551616) : Av (l.set j v) := fun x hx => by
  rcases List.mem_or_eq_of_mem_set hx with hx | hx
  · exact h x hx
  · subst hx; exact ⟨h0, h1⟩
theorem Pu {P c t : Int} (hP0 : 0 ≤ P) (hP : P ≤ 340282366920938463426481119284349108225) (hc0 : 0 ≤ c) (hc : c < 18446744073709551616) (ht0 : 0 ≤ t) (ht : t < 18446744073709551616) :
    0 ≤ P / 18446744073709551616 + (P % 18446744073709551616 + c + 0) / 18446744073709551616 ∧ P / 18446744073709551616 + (P % 18446744073709551616 + c + 0) / 18446744073709551616 < 18446744073709551616 ∧
    0 ≤ P / 18446744073709551616 + (P % 18446744073709551616 + c + 0) / 18446744073709551616 + (t + (P % 18446744073709551616 + c + 0) % 18446744073709551616 + 0) / 18446744073709551616 ∧
    P / 18446744073709551616 + (P % 18446744073709551616 + c + 0) / 18446744073709551616 + (t + (P % 18446744073709551616 + c + 0) % 18446744073709551616 + 0) / 18446744073709551616 < 18446744073709551616 ∧
    (t + (P % 18446744073709551616 + c + 0) % 18446744073709551616 + 0) % 18446744073709551616 + 18446744073709551616 * (P / 18446744073709551616 + (P % 18446744073709551616 + c + 0) / 18446744073709551616 + (t + (P % 18446744073709551616 + c + 0) % 18446744073709551616 + 0) / 18446744073709551616) = t + P + c := by
  omega
theorem Tl {b : List Int} (hb : Av b) (k : Nat) : ∃ r, 0 ≤ r ∧ vl b = vk b k + pB k * r := by
  refine ⟨vl (b.drop k), A4 fun x hx => hb x (List.mem_of_mem_drop hx), ?_⟩
  by_cases h : k ≤ b.length
  · have := D8 (b.take k) (b.drop k)
    rw [List.take_append_drop, List.length_take, Nat.min_eq_left h] at this
    exact this
  · rw [List.drop_eq_nil_of_le (by omega), Du (by omega)]; simp [vl]
theorem Ia {b : List Int} (hb : Av b) (k : Nat) : 0 ≤ vk b k := A4 fun x hx => hb x (List.mem_of_mem_take hx)
theorem U8 {b : List Int} (hb : Av b) {at_ k n : Nat} (hn : n ≤ at_ + k) (h : pB at_ * vl b < pB n) : vk b k = vl b := by
  obtain ⟨r, h0, h1⟩ := Tl hb k
  rcases Int.lt_or_le 0 r with hr | hr
  · exfalso
    have h2 := Int.mul_le_mul_of_nonneg_left (show 1 ≤ r by omega) (Int.le_of_lt (Dh k))
    have h3 := Ia hb k
    have h4 := Int.mul_le_mul_of_nonneg_left (show pB k ≤ vl b by omega) (Int.le_of_lt (Dh at_))
    rw [← Fx] at h4
    have h5 := Fs hn
    omega
  · have : r = 0 := by omega
    rw [this, Int.mul_zero, Int.add_zero] at h1
    exact h1.symm
theorem Oa {o o2 b : List Int} {i k : Nat} {c c2 x t s : Int} (hj : i + k < o.length) (ho2 : o2 = o.set (i + k) s) (ht : o.getD (i + k) 0 = t) {V : Int}
    (hv : vl o + c * pB (i + k) = V + x * pB i * vk b k) (hs : s + 18446744073709551616 * c2 = t + x * b.getD k 0 + c) : vl o2 + c2 * pB (i + (k + 1)) = V + x * pB i * vk b (k + 1) := by
  subst ho2
  rw [Jf _ _ _ hj, ht, C4, show i + (k + 1) = (i + k) + 1 by omega]
  simp only [pB]
  have hB : Bs = 18446744073709551616 := rfl
  have e1 : c2 * (Bs * pB (i + k)) = pB (i + k) * (18446744073709551616 * c2) := by rw [hB, ← Int.mul_assoc, Int.mul_comm (c2 * 18446744073709551616), Int.mul_comm c2]
  have e2 : x * pB i * (vk b k + pB k * b.getD k 0) = x * pB i * vk b k + pB (i + k) * (x * b.getD k 0) := by
    rw [Int.mul_add, Fx]
    congr 1
    rw [Int.mul_assoc, Int.mul_left_comm (pB i * pB k), Int.mul_assoc (pB i)]
  have e3 : pB (i + k) * (s - t) + pB (i + k) * (18446744073709551616 * c2) = pB (i + k) * (x * b.getD k 0) + pB (i + k) * c := by
    rw [← Int.mul_add, ← Int.mul_add]; congr 1; omega
  rw [e1, e2]
  have e4 : c * pB (i + k) = pB (i + k) * c := Int.mul_comm _ _
  omega
theorem Lr {o o2 a b : List Int} {i : Nat} {c : Int} (hj : i + b.length < o.length) (h0 : o.getD (i + b.length) 0 = 0) (ho2 : o2 = o.set (i + b.length) c)
    (hv : vl o + c * pB (i + b.length) = vk a i * vl b + a.getD i 0 * pB i * vk b b.length) : vl o2 = vk a (i + 1) * vl b := by
  subst ho2
  rw [Jf _ _ _ hj, h0, C4, Int.add_mul]
  rw [Du (Nat.le_refl _)] at hv
  have e : pB i * a.getD i 0 * vl b = a.getD i 0 * pB i * vl b := by rw [Int.mul_comm (pB i)]
  have e4 : c * pB (i + b.length) = pB (i + b.length) * c := Int.mul_comm _ _
  rw [e, Int.sub_zero]
  omega


theorem Hj (n : Nat) : Av (List.replicate n 0) := fun x hx => by rw [List.eq_of_mem_replicate hx]; exact ⟨by decide, by decide⟩
theorem S8 (n j : Nat) : (List.replicate n (0 : Int)).getD j 0 = 0 := by
  rw [List.getD_eq_getElem?_getD, List.getElem?_replicate]; split <;> rfl
theorem Mn {a b : List Int} (ha : Av a) (hb : Av b) : Av (a ++ b) := fun x hx => by
  rcases List.mem_append.1 hx with hx | hx
  · exact ha x hx
  · exact hb x hx
theorem Fb {a : List Int} (ha : Av a) (k : Nat) : Av (a.drop k) := fun x hx => ha x (List.mem_of_mem_drop hx)
theorem Er {a : List Int} (ha : Av a) (k : Nat) : Av (a.take k) := fun x hx => ha x (List.mem_of_mem_take hx)
theorem Ab5 {q q2 b : List Int} {i at_ : Nat} {c c2 s V : Int} (hj : i < q.length) (hi : at_ ≤ i) (hq2 : q2 = q.set i s)
    (hv : vl q + c * pB i = V + pB at_ * vk b (i - at_)) (hs : s + 18446744073709551616 * c2 = q.getD i 0 + b.getD (i - at_) 0 + c) : vl q2 + c2 * pB (i + 1) = V + pB at_ * vk b (i + 1 - at_) := by
  subst hq2
  rw [Jf _ _ _ hj, show i + 1 - at_ = (i - at_) + 1 by omega, C4]
  simp only [pB]
  have hB : Bs = 18446744073709551616 := rfl
  have e1 : c2 * (Bs * pB i) = pB i * (18446744073709551616 * c2) := by rw [hB, ← Int.mul_assoc, Int.mul_comm (c2 * 18446744073709551616), Int.mul_comm c2]
  have e2 : pB at_ * (vk b (i - at_) + pB (i - at_) * b.getD (i - at_) 0) = pB at_ * vk b (i - at_) + pB i * b.getD (i - at_) 0 := by
    rw [Int.mul_add, ← Int.mul_assoc, ← Fx, show at_ + (i - at_) = i by omega]
  have e3 : pB i * (s - q.getD i 0) + pB i * (18446744073709551616 * c2) = pB i * b.getD (i - at_) 0 + pB i * c := by
    rw [← Int.mul_add, ← Int.mul_add]; congr 1; omega
  have e4 : c * pB i = pB i * c := Int.mul_comm _ _
  rw [e1, e2]
  omega
theorem W5 {q r b : List Int} {i at_ n : Nat} {c : Int} (hq : Av q) (hr : Av r) (hb : Av b) (hc0 : 0 ≤ c) (hi : at_ ≤ i) (hfit : vl r + pB at_ * vl b < pB n) (h : n ≤ i ∨ (b.length ≤ i - at_ ∧ c ≤ 0))
    (hv : vl q + c * pB i = vl r + pB at_ * vk b (i - at_)) : vl q = vl r + pB at_ * vl b := by
  have hr0 := A4 hr
  have hq0 := A4 hq
  rcases h with h | ⟨h1, h2⟩
  · have e := U8 hb (at_ := at_) (k := i - at_) (n := n) (by omega) (by omega)
    rw [e] at hv
    have hp := Fs h
    rcases Int.lt_or_le 0 c with hc | hc
    · have := Int.mul_le_mul_of_nonneg_right (show 1 ≤ c by omega) (Int.le_of_lt (Dh i))
      omega
    · have : c = 0 := by omega
      rw [this, Int.zero_mul, Int.add_zero] at hv; exact hv
  · have : c = 0 := by omega
    rw [this, Int.zero_mul, Int.add_zero, Du h1] at hv; exact hv
theorem Agh {a b : List Int} {i : Nat} (h : i < a.length) : ((sbN a b i).1 ++ a.drop i).getD i 0 = a.getD i 0 := by
  rw [List.getD_eq_getElem?_getD, List.getElem?_append_right (by rw [Db]; exact Nat.le_refl _), Db, Nat.sub_self, List.getElem?_drop, Nat.add_zero, ← List.getD_eq_getElem?_getD]
theorem Acu {a b : List Int} {i : Nat} (h : i ≤ a.length) : ((sbN a b i).1 ++ a.drop i).length = a.length := by rw [List.length_append, Db, List.length_drop]; omega
theorem X0 {a b : List Int} {i : Nat} (h : i < a.length) : ((sbN a b i).1 ++ a.drop i).set ((0 + i) * 1) (if a.getD i 0 < b.getD i 0 + (sbN a b i).2 then a.getD i 0 - b.getD i 0 - (sbN a b i).2 + 18446744073709551616 else a.getD i 0 - b.getD i 0 - (sbN a b i).2) = (sbN a b (i + 1)).1 ++ a.drop (i + 1) := by
  rw [Nat.zero_add, Nat.mul_one, List.set_append_right _ _ (by rw [Db]; exact Nat.le_refl _), Db, Nat.sub_self, L8 h, List.set_cons_zero]
  simp only [sbN]
  rw [List.append_assoc]; rfl
theorem Afw {a b : List Int} (ha : Av a) (hb : Av b) (h : vl b ≤ vl a) : vl (sbN a b a.length).1 = vl a - vl b := by
  have hv := Pv a b a.length
  have hlt := E2 ha
  have e := U8 hb (at_ := 0) (k := a.length) (n := a.length) (by omega) (by simp only [pB, Int.one_mul]; omega)
  rw [Du (Nat.le_refl _), e] at hv
  have hc := Sz a b a.length
  have hs := E2 (Oc ha hb a.length)
  rw [Db] at hs
  rcases (show (sbN a b a.length).2 = 0 ∨ (sbN a b a.length).2 = 1 by omega) with h0 | h0
  · rw [h0, Int.mul_zero] at hv; omega
  · rw [h0, Int.mul_one] at hv; omega
theorem U3 {l : List Int} {F k : Nat} (hF : F < k) (hk : k ≤ l.length) (h : l.getD (k - 1) 0 = 0) : vl ((l.take (k - 1)).drop F) = vl ((l.take k).drop F) := by
  obtain ⟨j, rfl⟩ : ∃ j, k = j + 1 := ⟨k - 1, by omega⟩
  rw [Nat.add_sub_cancel] at h ⊢
  have e : l.take (j + 1) = l.take j ++ [l.getD j 0] := by
    rw [List.take_succ_eq_append_getElem (by omega), List.getD_eq_getElem?_getD, List.getElem?_eq_getElem (by omega)]; rfl
  rw [e, h, List.drop_append, D8]
  have : F - (l.take j).length = 0 := by rw [List.length_take]; omega
  rw [this]
  simp [vl]
theorem Yq {l : List Int} {t : Nat} : l.take (min t l.length) = l.take t := by
  rcases Nat.le_total t l.length with h | h
  · rw [Nat.min_eq_left h]
  · rw [Nat.min_eq_right h, List.take_length, List.take_of_length_le h]
theorem Yk {l : List Int} {f t : Nat} (h : f ≤ t) : (l.take (min t l.length)).drop (min f l.length) = (l.take t).drop f := by
  rw [Yq]
  rcases Nat.le_total f l.length with h1 | h1
  · rw [Nat.min_eq_left h1]
  · rw [Nat.min_eq_right h1, List.drop_eq_nil_of_le (by rw [List.length_take]; omega), List.drop_eq_nil_of_le (by rw [List.length_take]; omega)]
theorem Ie {l : List Int} (k : Nat) : vl ((l.take k).drop 0) + pB k * vl ((l.take l.length).drop k) = vl l := by
  rw [List.drop_zero, List.take_length]
  by_cases h : k ≤ l.length
  · have := D8 (l.take k) (l.drop k)
    rw [List.take_append_drop, List.length_take, Nat.min_eq_left h] at this
    exact this.symm
  · rw [List.take_of_length_le (by omega), List.drop_eq_nil_of_le (by omega)]; simp [vl]
theorem Al4 {al ah bl bh K A B lo hi mid : Int} (hA : al + K * ah = A) (hB : bl + K * bh = B) (hlo : lo = al * bl) (hhi : hi = ah * bh) (hmid : mid = (al + ah) * (bl + bh) - lo - hi) : lo + K * mid + (K * K) * hi = A * B := by
  subst hA; subst hB; subst hlo; subst hhi; subst hmid
  have e1 : (al + ah) * (bl + bh) = al * bl + al * bh + (ah * bl + ah * bh) := by rw [Int.add_mul, Int.mul_add, Int.mul_add]
  have e2 : (al + K * ah) * (bl + K * bh) = al * bl + K * (al * bh) + (K * (ah * bl) + K * K * (ah * bh)) := by
    rw [Int.add_mul, Int.mul_add, Int.mul_add]
    congr 1
    · congr 1; rw [Int.mul_left_comm]
    · congr 1
      · rw [Int.mul_assoc]
      · rw [Int.mul_assoc, Int.mul_left_comm ah, ← Int.mul_assoc]
  rw [e1, e2]
  have e3 : K * (al * bl + al * bh + (ah * bl + ah * bh) - al * bl - ah * bh) = K * (al * bh) + K * (ah * bl) := by
    rw [← Int.mul_add K]; congr 1; omega
  rw [e3]
  omega
theorem Aeg {al ah bl bh : Int} (h1 : 0 ≤ al) (h2 : 0 ≤ ah) (h3 : 0 ≤ bl) (h4 : 0 ≤ bh) : al * bl ≤ (al + ah) * (bl + bh) ∧ ah * bh ≤ (al + ah) * (bl + bh) - al * bl := by
  have e1 : (al + ah) * (bl + bh) = al * bl + al * bh + (ah * bl + ah * bh) := by rw [Int.add_mul, Int.mul_add, Int.mul_add]
  have a1 := Int.mul_nonneg h1 h4
  have a2 := Int.mul_nonneg h2 h3
  have a3 := Int.mul_nonneg h2 h4
  omega
theorem Tm {a b : List Int} (ha : Av a) (hb : Av b) : vl a * vl b < pB (a.length + b.length) := by
  have h1 := E2 ha
  have h2 := E2 hb
  have h3 := A4 ha
  have h4 := A4 hb
  rw [Fx]
  rcases Int.lt_or_le 0 (vl b) with h | h
  · have := Int.mul_lt_mul_of_pos_right h1 h
    have := Int.mul_le_mul_of_nonneg_left (Int.le_of_lt h2) (Int.le_of_lt (Dh a.length))
    omega
  · have : vl b = 0 := by omega
    rw [this, Int.mul_zero]; exact Int.mul_pos (Dh _) (Dh _)
theorem Ahx {n : Nat} (h : n < 4611686018427387904) : IntKind.i64.wrap (Int.tdiv (n : Int) 2) = ((n / 2 : Nat) : Int) := by
  rw [Int.tdiv_eq_ediv_of_nonneg (by omega), Ak (by omega) (by omega)]; omega


def sv (s : Bool) (l : List Int) : Int := if s = true then -(vl l) else vl l
def Ak9 (l : List Int) : Prop := Av l ∧ l.length ≤ 1048576
theorem Ab4 {f n : Nat} (hf : 0 < f) (h : 0 < n) : 0 < bl f n := by
  obtain ⟨g, rfl⟩ : ∃ g, f = g + 1 := ⟨f - 1, by omega⟩
  simp only [bl]
  rw [if_neg (by omega)]; omega
theorem Abs {l : List Int} (hu : Av l) (h : Dn l ≤ 67108864) : (trm l).length ≤ 1048576 := by
  unfold Dn at h
  split at h
  · omega
  · rename_i h0
    have ht := Gq l (by intro e; rw [e] at h0; exact h0 rfl)
    have hb := A2 (A8 hu) ((trm l).length - 1)
    have := Ab4 (f := 64) (n := ((trm l).getD ((trm l).length - 1) 0).toNat) (by decide) (by omega)
    omega
theorem Zc {l : List Int} (hu : Av l) (h : Dn l ≤ 67108864) : Ak9 (trm l) := ⟨A8 hu, Abs hu h⟩
theorem Hw (l : List Int) : trm (trm l) = trm l := Kl (Gq l)
theorem Fj (l : List Int) : Dn (trm l) = Dn l := by unfold Dn; rw [Hw]
theorem Aat {l : List Int} (hu : Av l) (ht : tpd l) (h : l ≠ []) : 0 < vl l := by
  have h1 := Sv hu ht h
  have h2 := Dh (l.length - 1)
  omega
theorem Mo {l : List Int} (hu : Av l) : (trm l).length = 0 ↔ vl l = 0 := by
  constructor
  · intro h
    rw [← D7, List.eq_nil_of_length_eq_zero h]; rfl
  · intro h
    rcases Nat.eq_zero_or_pos (trm l).length with h0 | h0
    · exact h0
    · have := Aat (A8 hu) (Gq l) (by intro e; rw [e] at h0; simp at h0)
      rw [D7] at this; omega
theorem Ir {l : List Int} (hu : Av l) : Dn l = 0 ↔ vl l = 0 := by
  rw [← Mo hu]
  unfold Dn
  constructor
  · intro h
    split at h
    · assumption
    · rename_i h0
      have ht := Gq l (by intro e; rw [e] at h0; exact absurd rfl h0)
      have hb := A2 (A8 hu) ((trm l).length - 1)
      have := Ab4 (f := 64) (n := ((trm l).getD ((trm l).length - 1) 0).toNat) (by decide) (by omega)
      omega
  · intro h; rw [if_pos h]
theorem T4 {s : Bool} {l : List Int} (hu : Av l) : sv (s && decide (0 < ((trm l).length : Int))) (trm l) = sv s l := by
  unfold sv
  rw [D7]
  by_cases h : (trm l).length = 0
  · have h0 := (Mo hu).1 h
    rw [h0]; simp
  · have : decide (0 < ((trm l).length : Int)) = true := decide_eq_true (by omega)
    rw [this, Bool.and_true]
theorem Age {s t : Bool} {a b r : List Int} (h : vl r = vl a * vl b) : sv (!(s == t)) r = sv s a * sv t b := by
  unfold sv
  cases s <;> cases t <;> simp [h, Int.neg_mul, Int.mul_neg]
def C8 (x : Int) : Int := if x = 0 then 0 else if x < 0 then -1 else 1
def C1 (x y : Int) : Int := if x < y then -1 else if y < x then 1 else 0
theorem Uf {s : Bool} {l : List Int} (hu : Av l) : C8 (sv s l) = if Dn l = 0 then 0 else if s = true then -1 else 1 := by
  have h := Ir hu
  have h0 := A4 hu
  unfold C8 sv
  by_cases hz : vl l = 0
  · rw [if_pos (h.2 hz)]; cases s <;> simp [hz]
  · rw [if_neg (fun e => hz (h.1 e))]
    cases s
    · simp only [Bool.false_eq_true, if_false]; rw [if_neg hz, if_neg (by omega)]
    · simp only [if_true]; rw [if_neg (by omega), if_pos (by omega)]
theorem Ug (x : Int) : C8 x = -1 ∨ C8 x = 0 ∨ C8 x = 1 := by unfold C8; split <;> (try split) <;> simp
theorem Wk {s t : Bool} {a b : List Int} (ua : Av a) (ub : Av b) : (C8 (sv s a) < C8 (sv t b) → C1 (sv s a) (sv t b) = -1) ∧ (C8 (sv t b) < C8 (sv s a) → C1 (sv s a) (sv t b) = 1) ∧
    (C8 (sv s a) = C8 (sv t b) → C8 (sv s a) * Nw (trm a) (trm b) = C1 (sv s a) (sv t b)) := by
  have ha := A4 ua
  have hb := A4 ub
  have hc := Hm ua ub
  have key : ∀ x y : Int, (C8 x < C8 y → x < y) := fun x y h => by unfold C8 at h; (repeat' split at h) <;> omega
  refine ⟨fun h => ?_, fun h => ?_, fun h => ?_⟩
  · have := key _ _ h; unfold C1; rw [if_pos this]
  · have := key _ _ h; unfold C1; rw [if_neg (by omega), if_pos this]
  · unfold C1
    have hs : ∀ (u : Bool) (l : List Int), sv u l = vl l ∨ sv u l = -(vl l) := fun u l => by unfold sv; cases u <;> simp
    have hs' : ∀ (u : Bool) (l : List Int), 0 ≤ vl l → (0 < sv u l → sv u l = vl l) ∧ (sv u l < 0 → sv u l = -(vl l)) := fun u l hl => by rcases hs u l with e | e <;> constructor <;> intro <;> omega
    have h1 := hs' s a ha
    have h2 := hs' t b hb
    have z1 := hs s a
    have z2 := hs t b
    rcases Int.lt_trichotomy (sv s a) 0 with hx | hx | hx
    · have e1 : C8 (sv s a) = -1 := by unfold C8; rw [if_neg (by omega), if_pos hx]
      have hy : sv t b < 0 := by rw [e1] at h; unfold C8 at h; (repeat' split at h) <;> omega
      rw [e1, h1.2 hx, h2.2 hy]
      rcases hc with ⟨c, v⟩ | ⟨c, v⟩ | ⟨c, v⟩
      · rw [c, if_neg (by omega), if_neg (by omega)]; rfl
      · rw [c, if_neg (by omega), if_pos (by omega)]; rfl
      · rw [c, if_pos (by omega)]; rfl
    · have e1 : C8 (sv s a) = 0 := by unfold C8; rw [if_pos hx]
      have hy : sv t b = 0 := by rw [e1] at h; unfold C8 at h; (repeat' split at h) <;> omega
      rw [e1, hx, hy, Int.zero_mul]; rfl
    · have e1 : C8 (sv s a) = 1 := by unfold C8; rw [if_neg (by omega), if_neg (by omega)]
      have hy : 0 < sv t b := by rw [e1] at h; unfold C8 at h; (repeat' split at h) <;> omega
      rw [e1, h1.1 hx, h2.1 hy, Int.one_mul]
      rcases hc with ⟨c, v⟩ | ⟨c, v⟩ | ⟨c, v⟩
      · rw [c, if_neg (by omega), if_neg (by omega)]
      · rw [c, if_pos (by omega)]
      · rw [c, if_neg (by omega), if_pos (by omega)]
theorem Ht {x y : Int} : C1 x y = 0 ↔ x = y := by unfold C1; (repeat' split) <;> constructor <;> intro h <;> omega
theorem Pp {s t : Bool} {a b r : List Int} (hst : sv s a = sv t a ∨ True) (h : vl r = vl a + vl b) : sv s r = sv s a + sv s b := by
  unfold sv; cases s <;> simp [h] <;> omega
theorem Agd {s : Bool} {a b r : List Int} (h : vl r = vl a - vl b) : sv s r = sv s a + sv (!s) b := by
  unfold sv; cases s <;> simp [h] <;> omega
theorem Ae8 {S T : Bool} {A B r : List Int} {x y : Int} (h : (S == T) = true) (hv : vl r = vl A + vl B) (e1 : sv S A = x) (e2 : sv T B = y) : sv S r = x + y := by
  have : S = T := by simpa using h
  subst this
  rw [← e1, ← e2]; exact Pp (t := S) (.inr trivial) hv
theorem T6 {S T : Bool} {A B r : List Int} {x y : Int} (h : (S == T) = false) (hv : vl r = vl A - vl B) (e1 : sv S A = x) (e2 : sv T B = y) : sv S r = x + y := by
  have : T = !S := by cases S <;> cases T <;> simp_all
  subst this
  rw [← e1, ← e2]; exact Agd hv
theorem Si {x y : Int} : -1 ≤ C1 x y ∧ C1 x y ≤ 1 := by unfold C1; (repeat' split) <;> decide
end Go.Proofs.YtnadmljoefecfaaGreatDoor.Vc
