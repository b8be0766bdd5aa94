/- surdlaw07.RatioBack answers true for every rational of bulk at most 1048576, and leaves its input as it was: Parse undoes Print, Unchain undoes Chain Texts joined: VcAE, VcAF, VcAG, VcAH, VcAI, VcAJ, VcAK, VcAM, VcAN, VcAO, VcAP, VcAQ, VcAR, Na, Nb, Nc. -/
import Derived.Test.YtpldmajdiljoaaaGreatK2
import Derived.Laws.IdiomStrings
import Derived.Laws.BytesArg
import Derived.Recover
import Derived.LoopN
set_option linter.unusedVariables false
set_option linter.unusedSimpArgs false
set_option maxHeartbeats 4000000
namespace Go.Proofs.YtpldmajdiljoaaaGreat.Vc
open Go Go.RowKit
section
variable {P : Program} {Γ : Ctx} {F : Fr} {H : List Ob} {Q : Exit → Fr → List Ob → Prop}
theorem jo_appI {ops : Array Oper} {rest : List Oper} {d T E bytes id ver len : Nat} {ty : TypeId} {ps : String} {af : Array Edge} {z : Value} {x y : Operand} {yy : V} {k : IntKind} {C : List Int} {v : Int} (hT : elP P T E 1 bytes z) (hx : ovO F x = some (.o id ver 0 len)) (hH : H[id]? = some ⟨E, 1, ver, true, ints k C⟩) (hle : len ≤ C.length) (hy : ovO F y = some yy) (hsrc : Src Γ H yy 1 1 (ints k [v]))
    (hb : (len + 1) * bytes ≤ 140737488355328) (h63 : len + 1 ≤ maxLen) (hd : d < Γ.N) (j : ∀ ver' C', len + 1 ≤ C'.length → C'.take (len + 1) = C.take len ++ [v] → JO P ops rest Γ ((d, .o id ver' 0 (len + 1)) :: F) (H.set id ⟨E, 1, ver', true, ints k C'⟩) Q) :
    JO P ops (⟨some d, .call { callee := .builtin .append, args := #[x, y], argTypes := #[T, T] }, ty, ps, af, none⟩ :: rest) Γ F H Q := by
  rcases Nat.lt_or_ge len C.length with hlt | hge
  · refine jo_appin hT hx hH hy hsrc (by decide) (by rw [ints_length]; omega) hd ?_
    rw [Nat.mul_one, show ints k [v] = [.i k v] from rfl, setV_ints]
    refine j ver (C.set len v) (by rw [List.length_set]; omega) ?_
    rw [List.take_add_one, List.take_set_of_le (Nat.le_refl _), List.getElem?_set_self hlt]
    rfl
  · refine jo_app hT hx hH (by rw [ints_length]; omega) hy hsrc hb h63 hd ?_
    rw [ints_append]
    refine j (ver + 1) (C ++ [v]) (by rw [List.length_append]; simp; omega) ?_
    rw [List.take_of_length_le (by rw [List.length_append]; simp; omega), List.take_of_length_le hge]
theorem ly_ldqf {T : TypeId} {x : Operand} {y : V} {ys : List V} (hT : oneB P T = true) (hx : ovO F x = some (.q (y :: ys))) (hz : noFr y = true) : LY P Γ (.load T x) F H y := fun ρ a w s => by
  obtain ⟨ad, hv, _, ⟨u, hc, hr⟩, _⟩ := s.ov hx
  refine ⟨u, rel_in (Nat.le_refl _) _ _ (rel_B _ _ hz hr), fun _ _ _ _ _ w' hw' => ?_⟩
  have e : (Instr.loadAt T (a.eval x)).run P w' = .ok u w' := by rw [hv]; exact run_loadAt_one hT (hw' _ _ (by simpa [Addr.add] using hc))
  exact run_v e
theorem jc_frzrc {c : Code} (i : Nat) {idB tB szB verB id ver len T sz : Nat} {csB cs : List V} (rows : List (List V)) (hB : (deadAt H id)[idB]? = some ⟨tB, szB, verB, true, csB⟩) (hi : csB[i]? = some (.o id ver 0 len)) (hH : H[id]? = some ⟨T, sz, ver, true, cs⟩) (hcs : cs = rows.flatten) (hlen : rows.length = len) (hsz : ∀ r ∈ rows, r.length = sz)
    (hpu : ∀ r ∈ rows, r.all pureV = true) (h0 : 0 < sz) (hp : ∀ b, ¬ Γ.L0 b) (j : JC P c Γ F ((deadAt H id).set idB ⟨tB, szB, verB, true, csB.set i (.l true sz rows)⟩) Q) : JC P c Γ F H Q := fun a w ⟨ρ, s⟩ => by
  have h2 := (s.dead id).recell (cs := csB) (cs' := csB.set i (.l true sz rows)) hB (by simp) ?_
  · exact j a w ⟨_, h2⟩
  intro k y' hy'
  rcases set_some hy' with ⟨rfl, rfl⟩ | ⟨hne, hy⟩
  · exact ⟨_, hi, fun u _ hu => s.frozenR hH hu hcs hlen hsz hpu h0 hp⟩
  · exact ⟨y', hy, fun u _ hu => hu⟩
theorem js_app {ops : Array Oper} {d T E sz bytes m id ver len : Nat} {ty : TypeId} {ps : String} {af : Array Edge} {z : Value} {x y : Operand} {yy : V} {zs cs : List V} {R : Fr → List Ob → Prop} (hT : elP P T E sz bytes z) (hx : ovO F x = some (.o id ver 0 len)) (hH : H[id]? = some ⟨E, sz, ver, true, cs⟩) (hcs : cs.length = len * sz) (hy : ovO F y = some yy) (hsrc : Src Γ H yy sz m zs)
    (hb : (len + m) * bytes ≤ 140737488355328) (h63 : len + m ≤ maxLen) (hd : d < Γ.N) (hm : mildB ⟨some d, .call { callee := .builtin .append, args := #[x, y], argTypes := #[T, T] }, ty, ps, af, none⟩ = false) (k : R ((d, .o id (ver + 1) 0 (len + m)) :: F) (H.set id ⟨E, sz, ver + 1, true, cs ++ zs⟩)) :
    JS P ops Γ ⟨some d, .call { callee := .builtin .append, args := #[x, y], argTypes := #[T, T] }, ty, ps, af, none⟩ F H Q R := fun a w ⟨ρ, s⟩ => by
  obtain ⟨v, w', ρ', r, s', hr⟩ := sy_app hT hx hH hcs hy hsrc hb h63 ρ a w s
  refine ⟨rfl, ?_⟩
  unfold Oper.wp
  rw [hr _ _ _ _ _]
  exact ⟨fun e => by rw [hm] at e; simp at e, _, _, k, ρ', s'.put hd r⟩
theorem src_oo {id ver off len t : Nat} {k : IntKind} {C : List Int} (hH : H[id]? = some ⟨t, 1, ver, true, ints k C⟩) (hle : off + len ≤ C.length) : Src Γ H (.o id ver off len) 1 len (ints k ((C.drop off).take len)) :=
  ⟨by rw [ints_length, List.length_take, List.length_drop]; omega, fun ρ F a w s v r => by
    obtain ⟨re, o⟩ := s.own hH rfl
    obtain ⟨re', e1, hle', hp⟩ := r
    obtain rfl : re' = re := by have := e1.symm.trans o.at_; injection this
    obtain ⟨hcap, ⟨g, ad, hg, hv, had⟩ | ⟨hg, hv, ho, hl⟩⟩ := hp (o.ok.ver.symm)
    · obtain ⟨cur, c1, c2, c3, c4, c5⟩ := o.ok.blk g hg
      have key : ∀ j, j < len → ∃ x, C[off + j]? = some x ∧ w.cell? (ad.add j) = some (.int k x) := fun j hj => by
        have hlt : off + j < C.length := by omega
        have h1 : (ints k C)[off + j]? = some (.i k C[off + j]) := by rw [ints_at, List.getElem?_eq_getElem hlt]; rfl
        obtain ⟨u, d1, d2, d3⟩ := o.cell hg h1
        have hz : re'.sz = 1 := o.ok.sz
        rw [had (.inl (by rw [ints_length] at c3; have : cur.size = re'.cap * 1 := c2; omega)), hz, addr_add_plain, Nat.mul_one, d1]
        exact ⟨C[off + j], List.getElem?_eq_getElem hlt, by rw [show u = .int k C[off + j] from d3]⟩
      refine ⟨some ad, re'.cap - off, ((C.drop off).take len).map (Value.int k), hv, by rw [List.length_map, List.length_take, List.length_drop]; omega, by intro u hu; obtain ⟨x, _, rfl⟩ := List.mem_map.1 hu; rfl, fun _ => ⟨ad, rfl, fun j u hu => ?_⟩, fun j z hz => ?_⟩
      · rw [List.getElem?_map, List.getElem?_take] at hu
        by_cases hj : j < len
        · rw [if_pos hj, List.getElem?_drop] at hu
          obtain ⟨x, hx1, hx2⟩ := key j hj
          rw [hx1] at hu
          injection hu with hu
          rw [← hu]; exact hx2
        · rw [if_neg hj] at hu; cases hu
      · rw [ints_at] at hz
        rw [List.getElem?_map]
        cases hx : ((C.drop off).take len)[j]? with
        | none => rw [hx] at hz; cases hz
        | some x => rw [hx] at hz; injection hz with hz; exact ⟨_, rfl, by rw [← hz]; rfl⟩
    · subst ho; subst hl
      exact ⟨none, 0, [], hv, by simp, by simp, by simp, fun j z hz => by simp [ints] at hz⟩⟩
theorem SpecM.ver0 {f : FuncId} {args : List V} {T sz len : Nat} {cs : List V} (hcs : cs.all (idB 0) = true) (h : SpecM P f args [] (fun o G => ∃ ver, o = .ret (.o 0 ver 0 len) ∧ G = [⟨T, sz, ver, true, cs⟩])) : SpecM P f args [] (fun o G => o = .ret (.o 0 0 0 len) ∧ G = [⟨T, sz, 0, true, cs⟩]) :=
  fun M w ρ vals h1 h2 h3 => (h M w ρ vals h1 h2 h3).mono fun e w' ⟨o, H', ρ', ⟨ver, ho, hH⟩, r1, r2, r3, r4, r5, ev, r8, r9⟩ => by
    subst ho; subst hH
    obtain ⟨re, rfl⟩ : ∃ re, ρ' = [re] := by
      have hl := r2.len
      match ρ', hl with
      | [re], _ => exact ⟨re, rfl⟩
    obtain ⟨re', k1, k2⟩ := r2.ob 0 _ rfl rfl
    obtain rfl : re = re' := by simpa using k1
    have hρ : ρ = [] := by
      have := h2.len
      simpa using this
    have hL : ∀ b, Lset M [{ re with ver := 0 }] [(⟨T, sz, 0, true, cs⟩ : Ob)] b ↔ Lset M [re] [(⟨T, sz, ver, true, cs⟩ : Ob)] b := fun b => by
      constructor
      · rintro (h | ⟨i, ob, r, m1, m2, m3, m4⟩)
        · exact .inl h
        · cases i with
          | zero => simp at m3; subst m3; exact .inr ⟨0, _, re, rfl, rfl, rfl, m4⟩
          | succ i => simp at m1
      · rintro (h | ⟨i, ob, r, m1, m2, m3, m4⟩)
        · exact .inl h
        · cases i with
          | zero => simp at m3; subst m3; exact .inr ⟨0, _, { re with ver := 0 }, rfl, rfl, rfl, m4⟩
          | succ i => simp at m1
    have hLe : Lset M [{ re with ver := 0 }] [(⟨T, sz, 0, true, cs⟩ : Ob)] = Lset M [re] [(⟨T, sz, ver, true, cs⟩ : Ob)] := funext fun b => propext (hL b)
    obtain ⟨v, rfl, re2, e1, e2, e3⟩ := r1
    obtain rfl : re = re2 := by simpa using e1
    refine ⟨_, _, [{ re with ver := 0 }], ⟨rfl, rfl⟩, ⟨v, rfl, { re with ver := 0 }, rfl, Nat.le_refl _, fun _ => e3 k2.ver.symm⟩, ⟨rfl, fun i ob m1 m2 => ?_, fun i j oi oj ri rj g hij m1 m2 m3 => ?_, fun i ob r g m1 m2 m3 m4 => ?_⟩, r3, r4, r5, ⟨ev.size, ev.blk, fun b hb hn => by rw [hLe]; exact ev.lv b hb hn, ev.bb, fun i r hi => by rw [hρ] at hi; simp at hi⟩, fun i ob r g m1 m2 m3 m4 => ?_, r9⟩
    · cases i with
      | zero =>
        simp at m1; subst m1
        refine ⟨_, rfl, rfl, k2.sz, k2.nob, fun g hg => ?_⟩
        obtain ⟨cur, c1, c2, c3, c4, c5⟩ := k2.blk g hg
        refine ⟨cur, c1, c2, c3, c4, fun j y hy => ?_⟩
        obtain ⟨u, d1, d2, d3⟩ := c5 j y hy
        refine ⟨u, d1, d2, ?_⟩
        have hcut := d3.cut (n := 0) y u (List.all_eq_true.1 hcs y (List.mem_of_getElem? hy))
        rw [hLe]
        exact rel_in (Nat.le_refl _) y u hcut
      | succ i => simp at m1
    · cases i with
      | zero =>
        cases j with
        | zero => exact absurd rfl hij
        | succ j => simp at m3
      | succ i => simp at m1
    · cases i with
      | zero => simp at m1 m3; subst m1; subst m3; exact r2.foreign 0 _ re g rfl rfl rfl m4
      | succ i => simp at m1
    · cases i with
      | zero => simp at m1 m3; subst m1; subst m3; exact r8 0 _ re g rfl rfl rfl m4
      | succ i => simp at m1
end

section
variable {P : Program} {Γ : Ctx} {F : Fr} {H : List Ob} {Q : Exit → Fr → List Ob → Prop}
theorem ly_b2s {T E T' : TypeId} {x : Operand} {fr : Bool} {s : ByteArray} (hT : P.underlying T = some (.slice E)) (hE : P.underlying E = some (.int .u8)) (hD : P.underlying T' = some .string) (hx : ovO F x = some (.n fr .u8 (bytesI s))) : LY P Γ (.convert T T' x) F H (.s s) := fun ρ a w st => by
  obtain ⟨A, c, hv, h1, h2, h3⟩ := st.ov hx
  refine ⟨.string s, rfl, fun _ _ _ _ _ w' hw' => ?_⟩
  have e : (convert T T' (a.eval x)).run P w' = .ok (.string s) w' := by
    rw [hv, bytesI_len]
    cases A with
    | none =>
      have hn : bytesI s = [] := by
        cases hb : bytesI s with
        | nil => rfl
        | cons y ys =>
          obtain ⟨ad, e1, _⟩ := h3 (by rw [hb]; simp)
          cases e1
      have hs : s = ByteArray.empty := by
        apply ByteArray.ext
        apply Array.toList_inj.1
        have : s.data.toList = [] := by
          unfold bytesI at hn
          exact List.map_eq_nil_iff.1 hn
        rw [this]; rfl
      rw [Go.run_convert_bytes_nil (P := P) w' T E hT hE _ _ T' hD, hs]
    | some ad =>
      have h4 := Go.run_convert_bytes_back (P := P) w' T T' E ad c s.data.toList hT hE hD (fun j hj => by
        have hj' : (bytesI s)[j]? = some (((s.data.toList[j]).toNat : Nat) : Int) := by
          unfold bytesI
          rw [List.getElem?_map, List.getElem?_eq_getElem hj]; rfl
        obtain ⟨ad2, e1, hb, hc⟩ := h3 (by intro e; rw [e] at hj'; simp at hj')
        injection e1 with e1; subst e1
        exact hw' _ _ (hc j _ hj'))
      have hsz : s.data.toList.length = s.size := by simp
      rw [hsz] at h4
      exact h4
  exact run_v e
theorem StA.frozenF1 {ρ : List Re} {a : Act} {w : World} (s : StA Γ ρ F H a w) {id ver T : Nat} {f : FuncId} {caps : List V} (hH : H[id]? = some ⟨T, 1, ver, true, [.f f caps]⟩) {v : Value} (r : Rel w (Lset Γ.M ρ H) Γ.w0.heap.size ρ (.p id ver 0) v)
    (hcaps : caps.all pureV = true) (hp : ∀ b, ¬ Γ.L0 b) : Rel w (Lset Γ.M ρ (deadAt H id)) Γ.w0.heap.size ρ (.q [.f f caps]) v := by
  obtain ⟨re, o⟩ := s.own hH rfl
  obtain ⟨re', e1, _, hq⟩ := r
  obtain rfl : re' = re := by have := e1.symm.trans o.at_; injection this
  obtain ⟨g, hg, hv⟩ := hq (o.ok.ver.symm)
  have hok := s.mine_dead hH rfl o.at_ hg hp false
  have ev := s.dead_ev id
  obtain ⟨u, d1, d2, d3⟩ := o.cell hg (show [V.f f caps][0]? = some _ from rfl)
  obtain ⟨us, hu, hr⟩ := d3
  rw [hv]
  exact ⟨⟨g, 0, none⟩, rfl, hok, ⟨⟨u, d1, us, hu, relL_pure _ _ hcaps (relL_ev ev _ _ hr)⟩, trivial⟩⟩
end

def GoodM (M : Nat → Prop) (c : Nat → V) (g : Nat) (w : World) : Prop :=
  ∃ es ck, w.heap[g]? = some (.map es ck) ∧ ∀ e ∈ es.toList, ∃ n : Nat, e.key = .int .i64 (n : Int) ∧ Rel w M 0 [] (c n) e.val
theorem GoodM.ev {M : Nat → Prop} {c : Nat → V} {g : Nat} {w w' : World} (h : GoodM M c g w) (hg : w'.heap[g]? = w.heap[g]?) (hs : w.heap.size ≤ w'.heap.size) (hb : ∀ b, b < w.heap.size → ¬ M b → w'.heap[b]? = w.heap[b]?) : GoodM M c g w' := by
  obtain ⟨es, ck, h1, h2⟩ := h
  refine ⟨es, ck, hg.trans h1, fun e he => ?_⟩
  obtain ⟨n, h3, h4⟩ := h2 e he
  exact ⟨n, h3, h4.ev ⟨hs, hb, fun _ _ h => h, Nat.le_refl _, fun i r h => by simp at h⟩⟩
structure CtxM (Γ : Ctx) (g : Nat) : Prop where
  m : Γ.M g
  l0 : ∀ b, Γ.L0 b ↔ b = g
  lt : g < Γ.w0.heap.size
  rho : Γ.ρ0 = []
def SpecX (P : Program) (f : FuncId) (args : List V) (c : Nat → V) (g : Nat) (post : Out → Prop) : Prop :=
  ∀ (M : Nat → Prop) (w : World) (vals : List Value), (∀ b, M b → b < w.heap.size) → M g → GoodM M c g w → RelL w M w.heap.size [] args vals →
    Calls P f vals.toArray w fun e w' => ∃ o, post o ∧ EndRel w' M w.heap.size o e ∧ GoodM M c g w' ∧ w'.os = w.os ∧ w'.tape = w.tape ∧ w'.output = w.output ∧ w.heap.size ≤ w'.heap.size ∧ ∀ b, b < w.heap.size → b ≠ g → w'.heap[b]? = w.heap[b]?
theorem SpecX.mono {P : Program} {f : FuncId} {args : List V} {c : Nat → V} {g : Nat} {post post' : Out → Prop} (h : SpecX P f args c g post) (hp : ∀ o, post o → post' o) : SpecX P f args c g post' :=
  fun M w vals h1 h2 h3 h4 => (h M w vals h1 h2 h3 h4).mono fun e w' ⟨o, k1, k2⟩ => ⟨o, hp o k1, k2⟩
section
variable {P : Program} {Γ : Ctx} {c : Nat → V} {g : Nat} {F : Fr} {𝒬 : Exit → Act → World → Prop}
def JCM (P : Program) (x : Code) (Γ : Ctx) (c : Nat → V) (g : Nat) (F : Fr) (𝒬 : Exit → Act → World → Prop) : Prop := ∀ a w, StA Γ [] F [] a w → GoodM Γ.M c g w → x.wp P 𝒬 a w
def JOM (P : Program) (ops : Array Oper) (l : List Oper) (Γ : Ctx) (c : Nat → V) (g : Nat) (F : Fr) (𝒬 : Exit → Act → World → Prop) : Prop := ∀ a w, StA Γ [] F [] a w → GoodM Γ.M c g w → wpList P ops 𝒬 l a w
def JAM (P : Program) (ops : Array Oper) (fuel : Nat) (listed : Array Bool) (Γ : Ctx) (c : Nat → V) (g : Nat) (F : Fr) (𝒬 : Exit → Act → World → Prop) : Prop := ∀ a w, StA Γ [] F [] a w → GoodM Γ.M c g w → wpAnyX P ops 𝒬 fuel listed a w
theorem jcm_seq {x y : Code} (j : JCM P x Γ c g F (Exit.then (y.wp P 𝒬) 𝒬)) : JCM P (.seq x y) Γ c g F 𝒬 := fun a w s h => wp_seq (j a w s h)
theorem jcm_skip {y : Code} (j : JCM P y Γ c g F 𝒬) : JCM P .skip Γ c g F (Exit.then (y.wp P 𝒬) 𝒬) := fun a w s h => wp_skip (j a w s h)
theorem jcm_ret (j : ∀ a w, StA Γ [] F [] a w → GoodM Γ.M c g w → 𝒬 .ret a w) : JCM P .ret Γ c g F 𝒬 := fun a w s h => wp_ret (j a w s h)
theorem jcm_litt {x y : Code} {o : Operand} (h : ovO F o = some (.b true)) (j : JCM P x Γ c g F 𝒬) : JCM P (.cond o x y) Γ c g F 𝒬 := fun a w s hg =>
  wp_cond_split (eval_b s h) (fun _ => j a w s hg) (fun e => by simp at e)
theorem jcm_litf {x y : Code} {o : Operand} (h : ovO F o = some (.b false)) (j : JCM P y Γ c g F 𝒬) : JCM P (.cond o x y) Γ c g F 𝒬 := fun a w s hg =>
  wp_cond_split (eval_b s h) (fun e => by simp at e) (fun _ => j a w s hg)
theorem jcm_region {id : Nat} {l : List Oper} (h : JOM P l.toArray l Γ c g F 𝒬) : JCM P (.region id l.toArray false) Γ c g F 𝒬 := fun a w s hg => wp_region_lit (h a w s hg)
theorem jcm_draw {id n : Nat} (ops : Array Oper) (hn : ops.size = n) (hm : P.follows .mixedOrders = true) (h : JAM P ops n (Array.replicate n false) Γ c g F 𝒬) : JCM P (.region id ops true) Γ c g F 𝒬 := fun a w s hg => by
  subst hn
  exact wp_region_any hm (wpAny_of_X _ _ _ _ (h a { w with drawn := w.drawn + 1 } (s.below ⟨rfl, rfl, rfl, Nat.le_refl _, fun _ _ => rfl⟩) (hg.ev rfl (Nat.le_refl _) fun _ _ _ => rfl)))
theorem jom_nil {ops : Array Oper} {y : Code} (j : JCM P y Γ c g F 𝒬) : JOM P ops [] Γ c g F (Exit.then (y.wp P 𝒬) 𝒬) := fun a w s hg => j a w s hg
theorem jom_l {ops : Array Oper} {rest : List Oper} {d : Nat} {op : Op} {T : TypeId} {ps : String} {af : Array Edge} {y : V} (h : LY P Γ op F [] y) (hd : d < Γ.N) (j : JOM P ops rest Γ c g ((d, y) :: F) 𝒬) : JOM P ops (⟨some d, op, T, ps, af, none⟩ :: rest) Γ c g F 𝒬 := fun a w s hg => by
  obtain ⟨v, r, hr⟩ := h [] a w s
  refine wpList_plain rfl fun K hK => ?_
  unfold Oper.wp
  rw [hr _ _ _ _ _ w (Ext.refl w)]
  exact hK _ _ (j _ _ (s.put hd r) hg)
theorem StA.mapped (hΓ : CtxM Γ g) {a : Act} {w w' : World} (s : StA Γ [] F [] a w) (h1 : w'.os = w.os) (h2 : w'.tape = w.tape) (h3 : w'.output = w.output) (h4 : w.heap.size ≤ w'.heap.size) (h5 : ∀ b, b < w.heap.size → b ≠ g → w'.heap[b]? = w.heap[b]?) : StA Γ [] F [] a w' := by
  refine ⟨⟨rfl, fun i o h => by simp at h, fun i j oi oj ri rj g _ h => by simp at h, fun i o r g h => by simp at h⟩, s.n, s.ds, fun t => (s.fr t).ev ⟨h4, fun b hb hn => h5 b hb (fun e => hn (.inl (e ▸ hΓ.m))), fun _ _ h => h, Nat.le_refl _, fun i r h => by simp at h⟩, ⟨h1.trans s.fro.os, h2.trans s.fro.tape, h3.trans s.fro.output, Nat.le_trans s.fro.size h4, fun b hb hn => (h5 b (Nat.lt_of_lt_of_le hb s.fro.size) (fun e => hn ((hΓ.l0 b).2 e))).trans (s.fro.blk b hb hn), s.fro.old, fun i o r g h => by simp at h, s.fro.rho⟩⟩
theorem wp_callX (hΓ : CtxM Γ g) {f : FuncId} {fn : Func} {dst : Option Tmp} {T : TypeId} {ps : String} {af : Array Edge} {gd : Option (Nat × Bool)} {o : Operand} {args : Array Operand} {ts : Array TypeId} {ys cs zs : List V} {post : Out → Prop}
    (hs : SpecX P f zs c g post) (hc : ovO F o = some (.f f cs)) (hf : P.funcs[f]? = some fn) (hb : fn.body.isSome = true) (hn : (fn.name == "runtime.NumGoroutine") = false) (hx : ovL F args.toList ys) (ha : ArgL (ys ++ cs) zs) {a : Act} {w : World} (s : StA Γ [] F [] a w) (hg : GoodM Γ.M c g w) {K : Act → World → Prop} {R : Exit → Act → World → Prop}
    (k : ∀ y v w', post (.ret y) → Rel w' (Lset Γ.M [] []) Γ.w0.heap.size [] y v → StA Γ [] F [] a w' → GoodM Γ.M c g w' → Ext w w' → K (a.put dst v) w') (kp : ∀ ch, ¬ post (.pan ch)) :
    (⟨dst, .call { callee := .value o, args := args, argTypes := ts }, T, ps, af, gd⟩ : Oper).wp P a w K R := by
  obtain ⟨us0, hcv, hcr⟩ := s.ov hc
  have hr := relL_app _ _ _ _ (s.ovL hx) hcr
  have hargs : args.map a.eval ++ us0.toArray = (args.toList.map a.eval ++ us0).toArray := by apply Array.ext'; simp
  have hcall := hs Γ.M w (args.toList.map a.eval ++ us0) (fun b h => Nat.lt_of_lt_of_le (s.fro.old b h) s.fro.size) hΓ.m hg (by rw [← lset_nil (M := Γ.M)]; exact ha.rel _ hr)
  have hrun : (execOp a.eval ⟨dst, .call { callee := .value o, args := args, argTypes := ts }, T, ps, af, gd⟩).run P w = .ok (.enter f (args.toList.map a.eval ++ us0).toArray) w := by
    have hb' : ¬ fn.body = none := by intro h; rw [h] at hb; cases hb
    have hn' : ¬ fn.name = "runtime.NumGoroutine" := by simpa using hn
    simp [execOp, resolve, hcv, Deferred.ofValue, invoke, callFunc, program, Sem.run, hf]
    rw [if_neg hn', if_neg hb', hargs]
  unfold Oper.wp
  rw [hrun]
  show Calls P f _ w _
  refine hcall.mono fun e w' ⟨out, h1, h2, h3, h4, h5, h6, h7, h8⟩ => ?_
  have s' := s.mapped hΓ h4 h5 h6 h7 h8
  have hext : Ext w w' := fun ad v h => by
    have hlt := World.block_lt_of_cell? w ad h
    by_cases hb : ad.block = g
    · obtain ⟨es, ck, hm, _⟩ := hg
      exfalso
      unfold World.cell? at h
      rw [hb, hm] at h
      simp at h
    · exact (World.cell?_of_block (h8 _ hlt hb)).trans h
  cases out with
  | ret y =>
    obtain ⟨v, rfl, hr'⟩ := h2
    exact k y v w' h1 (by rw [lset_nil]; exact rel_Ble s.fro.size y v hr') s' h3 hext
  | pan ch => exact absurd h1 (kp ch)
theorem jom_callX {f : FuncId} (fn : Func) (hΓ : CtxM Γ g) {ops : Array Oper} {rest : List Oper} {d : Nat} {T : TypeId} {ps : String} {af : Array Edge} {o : Operand} {args : Array Operand} {ts : Array TypeId} {ys cs zs : List V} {post : Out → Prop}
    (hs : SpecX P f zs c g post) (hc : ovO F o = some (.f f cs)) (hf : P.funcs[f]? = some fn) (hb : fn.body.isSome = true) (hn : (fn.name == "runtime.NumGoroutine") = false) (hx : ovL F args.toList ys) (ha : ArgL (ys ++ cs) zs) (hd : d < Γ.N)
    (k : ∀ y, post (.ret y) → JOM P ops rest Γ c g ((d, y) :: F) 𝒬) (kp : ∀ ch, ¬ post (.pan ch)) : JOM P ops (⟨some d, .call { callee := .value o, args := args, argTypes := ts }, T, ps, af, none⟩ :: rest) Γ c g F 𝒬 := fun a w s hg =>
  wpList_plain rfl fun K hK => wp_callX hΓ hs hc hf hb hn hx ha s hg (fun y v w' h1 h2 h3 h4 _ => hK _ _ (k y h1 _ _ (h3.put hd h2) h4)) kp
theorem jam_nil {ops : Array Oper} {fuel : Nat} {listed : Array Bool} {y : Code} (hr : Region.ready .any ops listed = []) (j : JCM P y Γ c g F 𝒬) : JAM P ops fuel listed Γ c g F (Exit.then (y.wp P 𝒬) 𝒬) := fun a w s hg => by
  cases fuel with
  | zero => exact ⟨hr, j a w s hg⟩
  | succ n => exact ⟨fun _ => j a w s hg, by rw [hr]; simp⟩
theorem jam_l2 {ops : Array Oper} {fuel : Nat} {listed : Array Bool} (i : Nat) (D : List Nat) {st : Bool} {o : Oper} {d : Nat} {y : V} (h : LO P ops st Γ o d F [] y) (hi : ops[i]? = some o) (hs : Region.noSelect ops = true)
    (hr : (Region.ready .any ops listed).contains i = true) (hf : freeX2 st ops listed i D = true) (hdp : depX ops listed i D = true) (hQ : ∀ c a w, ¬ 𝒬 (.panic c) a w)
    (j : JAM P ops fuel (listed.setIfInBounds i true) Γ c g ((d, y) :: F) 𝒬) : JAM P ops (fuel + 1) listed Γ c g F 𝒬 := fun a w s hg => by
  obtain ⟨hdst, hd, h⟩ := h
  obtain ⟨v, r, hy⟩ := h [] a w s
  have hD : ∀ j ∈ D, listed.getD j true = false ∧ ∃ oj, ops[j]? = some oj ∧ ∃ e ∈ oj.after, Region.binds .any e = true ∧ (e.on = i ∨ e.on ∈ D) := fun j hj => by
    have := List.all_eq_true.1 hdp j hj
    simp only [Bool.and_eq_true, Bool.not_eq_true'] at this
    refine ⟨this.1, ?_⟩
    cases hoj : ops[j]? with
    | none => rw [hoj] at this; simp at this
    | some oj =>
      rw [hoj] at this
      obtain ⟨e, he, hb⟩ := Array.any_eq_true'.1 this.2
      simp only [Bool.and_eq_true, Bool.or_eq_true] at hb
      exact ⟨oj, rfl, e, he, hb.1, hb.2.imp Nat.eq_of_beq_eq_true (fun h => by simpa using h)⟩
  refine wpAnyX_first2 D hi (Region.noSelect_spec hs) (fun c a w h => absurd h (hQ c _ w)) (fun j hj => (hD j hj).2) fuel listed a w (fun j hj => (hD j hj).1) (fun j oj hoj hne hun hjD => ?_) (by simpa using hr) hy (by rw [hdst]; exact j _ _ (s.put hd r) hg)
  simp only [freeX2, hi, List.all_eq_true, List.mem_range] at hf
  have h1 := hf j (Array.getElem?_eq_some_iff.1 hoj).1
  have hb : Nat.beq j i = false := by
    cases hb : Nat.beq j i
    · rfl
    · exact absurd (Nat.eq_of_beq_eq_true hb) hne
  have hc : D.contains j = false := by simpa using hjD
  simp only [hoj, hb, hun, hc, Bool.false_or, Bool.and_eq_true, Bool.or_eq_true, Bool.not_eq_true'] at h1
  exact ⟨h1.1, fun e => h1.2.resolve_left (by simp [e])⟩
theorem jam_1X {f : FuncId} (fn : Func) (i : Nat) (hΓ : CtxM Γ g) {ops : Array Oper} {fuel : Nat} {listed : Array Bool} {d : Nat} {T : TypeId} {ps : String} {af : Array Edge} {o : Operand} {args : Array Operand} {ts : Array TypeId} {ys cs zs : List V} {post : Out → Prop}
    (hs : SpecX P f zs c g post) (hi : ops[i]? = some ⟨some d, .call { callee := .value o, args := args, argTypes := ts }, T, ps, af, none⟩) (hr : Region.ready .any ops listed = [i])
    (hc : ovO F o = some (.f f cs)) (hf : P.funcs[f]? = some fn) (hb : fn.body.isSome = true) (hn : (fn.name == "runtime.NumGoroutine") = false) (hx : ovL F args.toList ys) (ha : ArgL (ys ++ cs) zs) (hd : d < Γ.N)
    (k : ∀ y, post (.ret y) → JAM P ops fuel (listed.setIfInBounds i true) Γ c g ((d, y) :: F) 𝒬) (kp : ∀ ch, ¬ post (.pan ch)) : JAM P ops (fuel + 1) listed Γ c g F 𝒬 := fun a w s hg => by
  refine ⟨fun h0 => by rw [hr] at h0; simp at h0, fun i' hi' => ?_⟩
  rw [hr] at hi'
  simp at hi'
  subst hi'
  unfold wpOp
  rw [hi]
  simp only []
  rw [if_pos (show Region.wanted (⟨some d, .call { callee := .value o, args := args, argTypes := ts }, T, ps, af, none⟩ : Oper) (yielded ops a.tmps) = true from rfl)]
  refine .inl (wp_callX hΓ hs hc hf hb hn hx ha s hg (fun y v w' h1 h2 h3 h4 h5 => ⟨fun o' ho' hm' => h5, k y h1 _ _ (h3.put hd h2) h4⟩) kp)
def qRetX (P : Program) (fn : Func) (Γ : Ctx) (c : Nat → V) (g : Nat) (post : Out → Prop) : Exit → Act → World → Prop
  | .ret, a, w | .normal, a, w => ∃ F ys, StA Γ [] F [] a w ∧ GoodM Γ.M c g w ∧ ResL P F [] fn.results.toList ys ∧ post (.ret (packV ys))
  | _, _, _ => False
theorem specX_of {f : FuncId} {fn : Func} {x : Code} {args : List V} {post : Out → Prop} (F0 : Fr) (h0 : ((args.zipIdx 0).map fun p => (p.2, p.1)) = F0) (hf : P.funcs[f]? = some fn) (hb : fn.body = some x) (hn : args.length ≤ fn.ntmps)
    (h : ∀ Γ : Ctx, Γ.N = fn.ntmps → Γ.ds = [] → CtxM Γ g → JCM P x Γ c g F0 (qRetX P fn Γ c g post)) : SpecX P f args c g post := fun M w vals hM hMg hgood hr => by
  subst h0; refine calls_of_wp hf hb ?_
  have hlen : vals.length = args.length := (relL_one args vals hr).1
  let Γ : Ctx := ⟨fn.ntmps, w, M, [], fun b => b = g, []⟩
  have Leq : ∀ b, Lset M [] [] b → M b := by
    rintro b (h | ⟨i, o, r, h1, _⟩)
    · exact h
    · simp at h1
  have s : StA Γ [] ((args.zipIdx 0).map fun p => (p.2, p.1)) [] ⟨vals.toArray ++ Array.replicate (fn.ntmps - vals.toArray.size) undef, []⟩ w := by
    refine ⟨⟨rfl, fun i o h => by simp at h, fun i j oi oj ri rj g _ h => by simp at h, fun i o r g h => by simp at h⟩, ?_, rfl, fun t => ?_, ⟨rfl, rfl, rfl, Nat.le_refl _, fun _ _ _ => rfl, hM, fun i o r g h => by simp at h, fun i r h => by have h' : ([] : List Re)[i]? = some r := h; simp at h'⟩⟩
    · show fn.ntmps ≤ (vals.toArray ++ Array.replicate (fn.ntmps - vals.toArray.size) undef).size
      simp; omega
    · have look : ∀ (ys : List V) (k t : Nat), getO ((ys.zipIdx k).map fun p => (p.2, p.1)) t = if k ≤ t then ys[t - k]? else none := by
        intro ys
        induction ys with
        | nil => intro k t; simp [getO]
        | cons y ys ih =>
          intro k t
          simp only [List.zipIdx_cons, List.map_cons, getO]
          cases hb : Nat.beq t k
          · have hne : t ≠ k := by intro e; subst e; simp at hb
            rw [ih (k + 1) t]
            by_cases h1 : k ≤ t
            · rw [if_pos h1, if_pos (by omega), show t - k = (t - (k + 1)) + 1 by omega]; rfl
            · rw [if_neg h1, if_neg (by omega)]; rfl
          · have := Nat.eq_of_beq_eq_true hb
            subst this
            simp
      unfold get
      rw [look args 0 t, if_pos (Nat.zero_le _), Nat.sub_zero]
      cases ht : args[t]? with
      | none => exact trivial
      | some y =>
        obtain ⟨u, hu, hru⟩ := relL_at args vals t y hr ht
        have hlt : t < vals.length := (List.getElem?_eq_some_iff.1 hu).1
        have e : ((vals.toArray ++ Array.replicate (fn.ntmps - vals.toArray.size) undef).getD t undef) = u := by
          rw [Array.getD_eq_getD_getElem?, Array.getElem?_append_left (by simpa using hlt)]
          simp [hu]
        show Rel w (Lset M [] []) w.heap.size [] y ((vals.toArray ++ Array.replicate (fn.ntmps - vals.toArray.size) undef).getD t undef)
        rw [e]
        exact hru.ev ⟨Nat.le_refl _, fun _ _ _ => rfl, fun b _ hn h => hn (Leq b h), Nat.le_refl _, fun i r h => by simp at h⟩
  have hΓ : CtxM Γ g := ⟨hMg, fun _ => Iff.rfl, hM g hMg, rfl⟩
  refine Code.wp_mono (fun e a w' q => ?_) (h Γ rfl rfl hΓ _ _ s hgood)
  have fin : (∃ F ys, StA Γ [] F [] a w' ∧ GoodM Γ.M c g w' ∧ ResL P F [] fn.results.toList ys ∧ post (.ret (packV ys))) → a.defers = [] ∧ ∃ v, (Go.results fn a.tmps).run P w' = .ok v w' ∧ ∃ o, post o ∧ EndRel w' M w.heap.size o (.returned v) ∧ GoodM M c g w' ∧ w'.os = w.os ∧ w'.tape = w.tape ∧ w'.output = w.output ∧ w.heap.size ≤ w'.heap.size ∧ ∀ b, b < w.heap.size → b ≠ g → w'.heap[b]? = w.heap[b]? := by
    rintro ⟨F, ys, s', hg', h1, h2⟩
    obtain ⟨v, hv, hr⟩ := s'.results h1
    refine ⟨s'.ds, v, hv, .ret (packV ys), h2, ⟨v, rfl, ?_⟩, hg', s'.fro.os, s'.fro.tape, s'.fro.output, s'.fro.size, fun b hb hne => s'.fro.blk b hb hne⟩
    rw [lset_nil] at hr
    exact hr
  cases e with
  | normal => exact fin q
  | ret => exact fin q
  | _ => exact absurd q (by simp [qRetX])
theorem findNow_good {k : IntKind} {n : Int} : ∀ (es : List MapEntry) (i : Nat), (∀ e ∈ es, ∃ m : Int, e.key = .int k m) →
    (∃ j v, Instr.findNow (.int k) (.int k n) es i = some (some (j, v)) ∧ ∃ e ∈ es, e.key = .int k n ∧ e.val = v ∧ es[j - i]? = some e ∧ i ≤ j) ∨ Instr.findNow (.int k) (.int k n) es i = some none
  | [], i, _ => .inr rfl
  | e :: es, i, h => by
    obtain ⟨m, hm⟩ := h e (List.mem_cons_self ..)
    have hsn : Instr.sameNow (.int k) (.int k n) e.key = some (n == m) := by rw [hm]; simp [Instr.sameNow]
    by_cases hnm : n = m
    · subst hnm
      refine .inl ⟨i, e.val, ?_, e, List.mem_cons_self .., hm, rfl, by simp, Nat.le_refl _⟩
      unfold Instr.findNow
      rw [hsn]; simp
    · have hstep : Instr.findNow (.int k) (.int k n) (e :: es) i = Instr.findNow (.int k) (.int k n) es (i + 1) := by
        conv => lhs; unfold Instr.findNow
        rw [hsn, show (n == m) = false by simpa using hnm]
      rw [hstep]
      rcases findNow_good es (i + 1) (fun e he => h e (List.mem_cons_of_mem _ he)) with ⟨j, v, h1, e', h2, h3, h4, h5, h6⟩ | h1
      · exact .inl ⟨j, v, h1, e', List.mem_cons_of_mem _ h2, h3, h4, by rw [show j - i = (j - (i + 1)) + 1 by omega]; simpa using h5, by omega⟩
      · exact .inr h1
theorem jom_lookup {ops : Array Oper} {rest : List Oper} {d T kT eT : Nat} {ty : TypeId} {ps : String} {af : Array Edge} {x k : Operand} {n : Nat} {z : Value} (hT : P.underlying T = some (.map kT eT)) (hk : P.underlying kT = some (.int .i64)) (hz : ∀ w, (zeroValue eT).run P w = .ok z w) (hx : ovO F x = some (.c (.map (some g)))) (hn : ovO F k = some (.i .i64 (n : Int))) (hc : noFr (c n) = true) (hd : d < Γ.N)
    (k1 : JOM P ops rest Γ c g ((d, .t [c n, .b true]) :: F) 𝒬) (k0 : JOM P ops rest Γ c g ((d, .t [.c z, .b false]) :: F) 𝒬) : JOM P ops (⟨some d, .lookup T x k true, ty, ps, af, none⟩ :: rest) Γ c g F 𝒬 := fun a w s hg => by
  have hg0 := hg
  obtain ⟨es, ck, h1, h2⟩ := hg
  refine wpList_plain rfl fun K hK => ?_
  unfold Oper.wp
  have hkey : ∀ e ∈ es.toList, ∃ m : Int, e.key = .int .i64 m := fun e he => by obtain ⟨m, hm, _⟩ := h2 e he; exact ⟨m, hm⟩
  have hck : ∀ b, (Instr.checkKey b 10000 kT (.int .i64 (n : Int))).run P w = .ok () w := fun b => by
    unfold Instr.checkKey
    simp [run_underlying hk]
  rcases findNow_good (n := (n : Int)) es.toList 0 hkey with ⟨j, v, f1, e, f2, f3, f4, _⟩ | f1
  · obtain ⟨m, hm, hr⟩ := h2 e f2
    obtain rfl : n = m := by
      rw [f3] at hm
      have : (n : Int) = m := by injection hm
      omega
    rw [f4] at hr
    have hrun : (execOp a.eval ⟨some d, .lookup T x k true, ty, ps, af, none⟩).run P w = .ok (.value (.tuple #[v, .bool true])) w := by
      have e1 : (Instr.lookup T (a.eval x) (a.eval k) true).run P w = .ok (.tuple #[v, .bool true]) w := by
        rw [eval_c s hx, eval_i s hn]
        simp [Instr.lookup, run_underlying hT, getObj, Sem.run, h1, hck, Instr.findKey, run_underlying hk, f1]
      exact run_v e1
    rw [hrun]
    exact hK _ _ (k1 _ _ (s.put hd ⟨[v, .bool true], rfl, _, _, rfl, rel_in (Nat.le_refl _) _ _ (rel_B _ _ hc (by rw [lset_nil]; exact hr)), _, _, rfl, rfl, rfl⟩) hg0)
  · have hrun : (execOp a.eval ⟨some d, .lookup T x k true, ty, ps, af, none⟩).run P w = .ok (.value (.tuple #[z, .bool false])) w := by
      have e1 : (Instr.lookup T (a.eval x) (a.eval k) true).run P w = .ok (.tuple #[z, .bool false]) w := by
        rw [eval_c s hx, eval_i s hn]
        simp [Instr.lookup, run_underlying hT, getObj, Sem.run, h1, hck, Instr.findKey, run_underlying hk, f1, hz]
      exact run_v e1
    rw [hrun]
    exact hK _ _ (k0 _ _ (s.put hd ⟨[z, .bool false], rfl, _, _, rfl, rfl, _, _, rfl, rfl, rfl⟩) hg0)
theorem jom_enter (hΓ : CtxM Γ g) {ops : Array Oper} {rest : List Oper} {T kT eT : Nat} {ty : TypeId} {ps : String} {af : Array Edge} {x k v : Operand} {n : Nat} {y : V} (hT : P.underlying T = some (.map kT eT)) (hk : P.underlying kT = some (.int .i64)) (hx : ovO F x = some (.c (.map (some g)))) (hn : ovO F k = some (.i .i64 (n : Int))) (hv : ovO F v = some y) (hy : ∀ w u, Rel w Γ.M Γ.w0.heap.size [] y u → Rel w Γ.M 0 [] (c n) u)
    (j : JOM P ops rest Γ c g F 𝒬) : JOM P ops (⟨none, .mapUpdate T x k v, ty, ps, af, none⟩ :: rest) Γ c g F 𝒬 := fun a w s hg => by
  obtain ⟨es, ck, h1, h2⟩ := hg
  have hglt : g < w.heap.size := (Array.getElem?_eq_some_iff.1 h1).1
  have hval := s.ov hv
  rw [lset_nil] at hval
  have hval0 := hy w _ hval
  have hkey : ∀ e ∈ es.toList, ∃ m : Int, e.key = .int .i64 m := fun e he => by obtain ⟨m, hm, _⟩ := h2 e he; exact ⟨m, hm⟩
  have hck : ∀ b, (Instr.checkKey b 10000 kT (.int .i64 (n : Int))).run P w = .ok () w := fun b => by
    unfold Instr.checkKey
    simp [run_underlying hk]
  have fin : ∀ (es' : Array MapEntry) (ck' : Nat), (∀ e ∈ es'.toList, ∃ m : Nat, e.key = .int .i64 (m : Int) ∧ Rel w Γ.M 0 [] (c m) e.val) → StA Γ [] F [] a { w with heap := w.heap.setIfInBounds g (.map es' ck') } ∧ GoodM Γ.M c g { w with heap := w.heap.setIfInBounds g (.map es' ck') } := fun es' ck' hes => by
    have hsz : ({ w with heap := w.heap.setIfInBounds g (.map es' ck') } : World).heap.size = w.heap.size := Array.size_setIfInBounds ..
    have hne : ∀ b, b ≠ g → ({ w with heap := w.heap.setIfInBounds g (.map es' ck') } : World).heap[b]? = w.heap[b]? := fun b hb => by
      show (w.heap.setIfInBounds g _)[b]? = _
      rw [Array.getElem?_setIfInBounds_ne (Ne.symm hb)]
    refine ⟨s.mapped hΓ rfl rfl rfl (by rw [hsz]; exact Nat.le_refl _) (fun b _ hb => hne b hb), es', ck', ?_, fun e he => ?_⟩
    · show (w.heap.setIfInBounds g _)[g]? = _
      rw [Array.getElem?_setIfInBounds_self_of_lt hglt]
    · obtain ⟨m, m1, m2⟩ := hes e he
      exact ⟨m, m1, m2.ev ⟨by rw [hsz]; exact Nat.le_refl _, fun b hb hn => hne b (fun e => hn (e ▸ hΓ.m)), fun _ _ h => h, Nat.le_refl _, fun i r h => by simp at h⟩⟩
  refine wpList_plain rfl fun K hK => ?_
  unfold Oper.wp
  rcases findNow_good (n := (n : Int)) es.toList 0 hkey with ⟨i, u, f1, e, f2, f3, f4, f5, f6⟩ | f1
  · have hrun : (execOp a.eval ⟨none, .mapUpdate T x k v, ty, ps, af, none⟩).run P w = .ok .skip { w with heap := w.heap.setIfInBounds g (.map (es.modify i fun e => { e with key := .int .i64 (n : Int), val := a.eval v }) ck) } := by
      have hi : es[i]? = some e := by rw [← Array.getElem?_toList]; simpa using f5
      simp [execOp, eval_c s hx, eval_i s hn, Instr.mapUpdate, run_underlying hT, getObj, setObj, Sem.run, h1, hck, Instr.findKey, run_underlying hk, f1, hi, Instr.keyThatStays, f3, Instr.sameBits]
    rw [hrun]
    obtain ⟨s', g'⟩ := fin (es.modify i fun e => { e with key := .int .i64 (n : Int), val := a.eval v }) ck (fun e' he' => by
      obtain ⟨q, hq⟩ := List.getElem?_of_mem he'
      rw [Array.getElem?_toList, Array.getElem?_modify] at hq
      by_cases hqi : i = q
      · rw [if_pos hqi] at hq
        cases hes : es[q]? with
        | none => rw [hes] at hq; simp at hq
        | some e0 => rw [hes] at hq; simp at hq; subst hq; exact ⟨n, rfl, hval0⟩
      · rw [if_neg hqi] at hq
        exact h2 e' (List.mem_of_getElem? (by rw [Array.getElem?_toList]; exact hq)))
    exact hK _ _ (j _ _ s' g')
  · have hrun : (execOp a.eval ⟨none, .mapUpdate T x k v, ty, ps, af, none⟩).run P w = .ok .skip { w with heap := w.heap.setIfInBounds g (.map (es.push { key := .int .i64 (n : Int), val := a.eval v, born := ck }) (ck + 1)) } := by
      simp [execOp, eval_c s hx, eval_i s hn, Instr.mapUpdate, run_underlying hT, getObj, setObj, Sem.run, h1, hck, Instr.findKey, run_underlying hk, f1]
    rw [hrun]
    obtain ⟨s', g'⟩ := fin (es.push { key := .int .i64 (n : Int), val := a.eval v, born := ck }) (ck + 1) (fun e' he' => by
      rw [Array.toList_push] at he'
      rcases List.mem_append.1 he' with he' | he'
      · exact h2 e' he'
      · simp at he'; subst he'; exact ⟨n, rfl, hval0⟩)
    exact hK _ _ (j _ _ s' g')
end

section
variable {P : Program} {Γ : Ctx} {c : Nat → V} {g : Nat} {F : Fr} {H : List Ob} {𝒬 : Exit → Act → World → Prop}
def JCP (P : Program) (x : Code) (Γ : Ctx) (F : Fr) (H : List Ob) (𝒬 : Exit → Act → World → Prop) : Prop := ∀ a w, St Γ F H a w → x.wp P 𝒬 a w
def QS (Γ : Ctx) (𝒬 : Exit → Act → World → Prop) : Exit → Fr → List Ob → Prop := fun e F' H' => ∀ a w, St Γ F' H' a w → 𝒬 e a w
theorem jcp_seq {x y : Code} (j : JC P x Γ F H (qThen (fun F' H' => JCP P y Γ F' H' 𝒬) (QS Γ 𝒬))) : JCP P (.seq x y) Γ F H 𝒬 := fun a w s =>
  wp_seq (Code.wp_mono (fun e a' w' ⟨F', H', q, s'⟩ => by
    cases e <;> first | exact q a' w' s') (j a w s))
theorem jcp_keep {x : Code} {F' : Fr} (h : Sub F' F) (j : JCP P x Γ F' H 𝒬) : JCP P x Γ F H 𝒬 := fun a w s => j a w (s.sub h)
theorem jcp_frzp {x : Code} (t : Nat) {id ver off T sz : Nat} {cs zs : List V} (hx : getO F t = some (.p id ver off)) (hH : H[id]? = some ⟨T, sz, ver, true, cs⟩) (hpu : cs.all pureV = true) (hz : cs.drop off = zs) (hp : ∀ b, ¬ Γ.L0 b)
    (j : JCP P x Γ ((t, .q zs) :: F) (deadAt H id) 𝒬) : JCP P x Γ F H 𝒬 := fun a w ⟨ρ, s⟩ =>
  j a w ⟨ρ, s.frz id t hx fun v r => hz ▸ s.frozenC hH r hpu hp⟩
theorem jcp_frzF {x : Code} (t : Nat) {id ver T : Nat} {f : FuncId} {caps : List V} (hx : getO F t = some (.p id ver 0)) (hH : H[id]? = some ⟨T, 1, ver, true, [.f f caps]⟩) (hcaps : caps.all pureV = true) (hp : ∀ b, ¬ Γ.L0 b)
    (j : JCP P x Γ ((t, .q [.f f caps]) :: F) (deadAt H id) 𝒬) : JCP P x Γ F H 𝒬 := fun a w ⟨ρ, s⟩ =>
  j a w ⟨ρ, s.frz id t hx fun v r => s.frozenF1 hH r hcaps hp⟩
theorem jcp_cyc {x : Code} (t : Nat) {id ver T : Nat} {f : FuncId} (pre post : List V) (n : Nat) (hx : getO F t = some (.p id ver 0)) (hH : H[id]? = some ⟨T, 1, ver, true, [.f f (pre ++ .p id ver 0 :: post)]⟩) (hpre : pre.all pureV = true) (hpost : post.all pureV = true) (hp : ∀ b, ¬ Γ.L0 b)
    (j : JCP P x Γ ((t, .q [cyc f pre post n]) :: F) (deadAt H id) 𝒬) : JCP P x Γ F H 𝒬 := fun a w ⟨ρ, s⟩ =>
  j a w ⟨ρ, s.frz id t hx fun v r => s.frozenF hH r hpre hpost hp n⟩
theorem enterP (hΓ : CtxM Γ g) (hF : F.all (fun p => noFr p.2) = true) {a : Act} {w : World} (s : StA Γ [] F [] a w) (hg : GoodM Γ.M c g w) :
    ∃ Γ1 : Ctx, Γ1.N = Γ.N ∧ Γ1.ds = Γ.ds ∧ (∀ b, ¬ Γ1.L0 b) ∧ Γ1.ρ0 = [] ∧ St Γ1 F [] a w ∧
      ∀ (F' : Fr) (H' : List Ob) (a' : Act) (w' : World), F'.all (fun p => idB 0 p.2) = true → St Γ1 F' H' a' w' → StA Γ [] F' [] a' w' ∧ GoodM Γ.M c g w' := by
  have mem : ∀ (l : Fr) (t : Nat) (y : V), getO l t = some y → ∃ p ∈ l, p.2 = y := fun l => by
    induction l with
    | nil => intro t y h; simp [getO] at h
    | cons p l ih =>
      intro t y h
      obtain ⟨k, z⟩ := p
      simp only [getO] at h
      cases hb : Nat.beq t k with
      | true => rw [hb] at h; injection h with h; exact ⟨_, List.mem_cons_self .., h⟩
      | false => rw [hb] at h; obtain ⟨p, h1, h2⟩ := ih t y h; exact ⟨p, List.mem_cons_of_mem _ h1, h2⟩
  refine ⟨⟨Γ.N, w, Γ.M, [], fun _ => False, Γ.ds⟩, rfl, rfl, fun _ h => h, rfl, ⟨[], ⟨rfl, fun i o h => by simp at h, fun i j oi oj ri rj g _ h => by simp at h, fun i o r g h => by simp at h⟩, s.n, s.ds, fun t => ?_, ⟨rfl, rfl, rfl, Nat.le_refl _, fun _ _ _ => rfl, fun b h => Nat.lt_of_lt_of_le (s.fro.old b h) s.fro.size, fun i o r g h => by simp at h, fun i r h => by have h' : ([] : List Re)[i]? = some r := h; simp at h'⟩⟩, fun F' H' a' w' q1 ⟨ρ', s'⟩ => ?_⟩
  · have h1 := s.fr t
    unfold get at h1 ⊢
    cases e : getO F t with
    | none => trivial
    | some y =>
      rw [e] at h1
      obtain ⟨p, hp, hpy⟩ := mem F t y e
      exact rel_B y _ (by rw [← hpy]; exact List.all_eq_true.1 hF p hp) h1
  · have s2 := s'.cut 0 q1 (by rw [List.take_zero]; exact ObsId.nil) rfl
    rw [List.take_zero, List.take_zero] at s2
    have hblk : ∀ b, b < w.heap.size → w'.heap[b]? = w.heap[b]? := fun b hb => s'.fro.blk b hb (fun h => h)
    have hsz : w.heap.size ≤ w'.heap.size := s'.fro.size
    exact ⟨⟨⟨rfl, fun i o h => by simp at h, fun i j oi oj ri rj g _ h => by simp at h, fun i o r g h => by simp at h⟩, s2.n, s2.ds, fun t => rel_Ble s.fro.size _ _ (s2.fr t), ⟨s'.fro.os.trans s.fro.os, s'.fro.tape.trans s.fro.tape, s'.fro.output.trans s.fro.output, Nat.le_trans s.fro.size hsz, fun b hb hn => (hblk b (Nat.lt_of_lt_of_le hb s.fro.size)).trans (s.fro.blk b hb hn), s.fro.old, fun i o r g h => by simp at h, fun i r h => by rw [hΓ.rho] at h; simp at h⟩⟩,
      hg.ev (hblk g (Nat.lt_of_lt_of_le hΓ.lt s.fro.size)) hsz fun b hb _ => hblk b hb⟩
theorem jcm_toP {x : Code} (hΓ : CtxM Γ g) (hF : F.all (fun p => noFr p.2) = true)
    (j : ∀ Γ1 : Ctx, Γ1.N = Γ.N → Γ1.ds = Γ.ds → (∀ b, ¬ Γ1.L0 b) → Γ1.ρ0 = [] → (∀ (z : Code) (F' : Fr) (H' : List Ob) (𝒬' : Exit → Act → World → Prop), F'.all (fun p => idB 0 p.2) = true → JCM P z Γ c g F' 𝒬' → JCP P z Γ1 F' H' 𝒬') → (∀ (e : Exit) (F' : Fr) (H' : List Ob), F'.all (fun p => idB 0 p.2) = true → (∀ a w, StA Γ [] F' [] a w → GoodM Γ.M c g w → 𝒬 e a w) → QS Γ1 𝒬 e F' H') → JCP P x Γ1 F [] 𝒬) : JCM P x Γ c g F 𝒬 := fun a w s hg => by
  obtain ⟨Γ1, h1, h2, h3, h4, h5, h6⟩ := enterP hΓ hF s hg
  exact j Γ1 h1 h2 h3 h4 (fun z F' H' 𝒬' hid jz a' w' s' => by obtain ⟨k1, k2⟩ := h6 F' H' a' w' hid s'; exact jz a' w' k1 k2) (fun e F' H' hid q a' w' s' => by obtain ⟨k1, k2⟩ := h6 F' H' a' w' hid s'; exact q a' w' k1 k2) a w h5
theorem mapBorn (c : Nat → V) {d : Nat} (hd : d < Γ.N) (hF : F.all (fun p => noFr p.2) = true) (hR : Γ.ρ0 = []) {a : Act} {w w1 : World} (s0 : StA Γ [] F [] a w) (hw1 : w1 = { w with heap := w.heap.push (.map #[] 0) }) :
    ∃ Γ' : Ctx, Γ'.N = Γ.N ∧ Γ'.ds = Γ.ds ∧ CtxM Γ' w.heap.size ∧ (∀ F a w2, StA Γ' [] F [] a w2 → StA Γ [] F [] a w2) ∧ StA Γ' [] ((d, .c (.map (some w.heap.size))) :: F) [] (a.put (some d) (.map (some w.heap.size))) w1 ∧ GoodM Γ'.M c w.heap.size w1 := by
  have mem : ∀ (l : Fr) (t : Nat) (y : V), getO l t = some y → ∃ p ∈ l, p.2 = y := fun l => by
    induction l with
    | nil => intro t y h; simp [getO] at h
    | cons p l ih =>
      intro t y h
      obtain ⟨k, z⟩ := p
      simp only [getO] at h
      cases hb : Nat.beq t k with
      | true => rw [hb] at h; injection h with h; exact ⟨_, List.mem_cons_self .., h⟩
      | false => rw [hb] at h; obtain ⟨p, h1, h2⟩ := ih t y h; exact ⟨p, List.mem_cons_of_mem _ h1, h2⟩
  have hsz : w1.heap.size = w.heap.size + 1 := by rw [hw1]; show (w.heap.push _).size = _; rw [Array.size_push]
  have hold : ∀ b, b < w.heap.size → w1.heap[b]? = w.heap[b]? := fun b hb => by rw [hw1]; show (w.heap.push _)[b]? = _; rw [Array.getElem?_push, if_neg (by omega)]
  let Γ' : Ctx := ⟨Γ.N, w1, fun b => Γ.M b ∨ b = w.heap.size, [], fun b => b = w.heap.size, Γ.ds⟩
  have hΓ' : CtxM Γ' w.heap.size := ⟨.inr rfl, fun _ => Iff.rfl, by show w.heap.size < w1.heap.size; omega, rfl⟩
  have s1 : StA Γ' [] F [] a w1 := by
    refine ⟨⟨rfl, fun i o h => by simp at h, fun i j oi oj ri rj g _ h => by simp at h, fun i o r g h => by simp at h⟩, s0.n, s0.ds, fun t => ?_, ⟨rfl, rfl, rfl, Nat.le_refl _, fun _ _ _ => rfl, fun b h => ?_, fun i o r g h => by simp at h, fun i r h => by have h' : ([] : List Re)[i]? = some r := h; simp at h'⟩⟩
    · have h1 := s0.fr t
      unfold get at h1 ⊢
      cases e : getO F t with
      | none => trivial
      | some y =>
        rw [e] at h1
        obtain ⟨p, hp, hpy⟩ := mem F t y e
        have h2 := rel_B (B' := w1.heap.size) y _ (by rw [← hpy]; exact List.all_eq_true.1 hF p hp) h1
        refine h2.ev ⟨by omega, fun b hb _ => hold b hb, fun b hb hn h => ?_, Nat.le_refl _, fun i r h => by simp at h⟩
        rcases h with (h | h) | ⟨i, o, r, h1, _⟩
        · exact hn (.inl h)
        · omega
        · simp at h1
    · rcases h with h | h
      · exact Nat.lt_of_lt_of_le (s0.fro.old b h) (by have := s0.fro.size; show _ ≤ w1.heap.size; omega)
      · show b < w1.heap.size; omega
  have hgood : GoodM Γ'.M c w.heap.size w1 := ⟨#[], 0, by rw [hw1]; show (w.heap.push _)[w.heap.size]? = _; rw [Array.getElem?_push, if_pos rfl], fun e he => by simp at he⟩
  have hreb : ∀ F a w2, StA Γ' [] F [] a w2 → StA Γ [] F [] a w2 := fun F a w2 s2 => by
    have hsz2 : w1.heap.size ≤ w2.heap.size := s2.fro.size
    refine ⟨⟨rfl, fun i o h => by simp at h, fun i j oi oj ri rj g _ h => by simp at h, fun i o r g h => by simp at h⟩, s2.n, s2.ds, fun t => ?_, ⟨?_, ?_, ?_, Nat.le_trans s0.fro.size (by omega), fun b hb hn => ?_, s0.fro.old, fun i o r g h => by simp at h, fun i r h => by rw [hR] at h; simp at h⟩⟩
    · refine rel_Ble (B := w1.heap.size) (by have := s0.fro.size; omega) _ _ ((s2.fr t).ev ⟨Nat.le_refl _, fun _ _ _ => rfl, fun b _ hn h => hn ?_, Nat.le_refl _, fun i r h => by simp at h⟩)
      rcases h with h | ⟨i, o, r, h1, _⟩
      · exact .inl (.inl h)
      · simp at h1
    · have : w2.os = w1.os := s2.fro.os
      rw [this, hw1]; exact s0.fro.os
    · have : w2.tape = w1.tape := s2.fro.tape
      rw [this, hw1]; exact s0.fro.tape
    · have : w2.output = w1.output := s2.fro.output
      rw [this, hw1]; exact s0.fro.output
    · have hbw : b < w.heap.size := Nat.lt_of_lt_of_le hb s0.fro.size
      have h1 : w2.heap[b]? = w1.heap[b]? := s2.fro.blk b (by show b < w1.heap.size; omega) (by show ¬ b = w.heap.size; omega)
      rw [h1, hold b hbw]
      exact s0.fro.blk b hb hn
  exact ⟨Γ', rfl, rfl, hΓ', hreb, s1.put hd (y := .c (.map (some w.heap.size))) rfl, hgood⟩
theorem jc_enterM2 (c : Nat → V) {Q : Exit → Fr → List Ob → Prop} {id d T : Nat} {ty : TypeId} {ps : String} {af : Array Edge} {rest : List Oper} {y : Code} (hd : d < Γ.N) (hF : F.all (fun p => noFr p.2) = true) (hFi : F.all (fun p => idB 0 p.2) = true) (hR : Γ.ρ0 = [])
    (j : ∀ (Γ' Γ1 : Ctx) (g : Nat), Γ1.N = Γ.N → Γ1.ds = Γ.ds → (∀ b, ¬ Γ1.L0 b) → Γ1.ρ0 = [] → Γ'.N = Γ.N → CtxM Γ' g → (∀ F a w, StA Γ' [] F [] a w → StA Γ [] F [] a w) → (∀ (z : Code) (F' : Fr) (H' : List Ob) (𝒬' : Exit → Act → World → Prop), F'.all (fun p => idB 0 p.2) = true → JCM P z Γ' c g F' 𝒬' → JCP P z Γ1 F' H' 𝒬') →
      JO P ((⟨some d, .makeMap T none, ty, ps, af, none⟩ : Oper) :: rest).toArray rest Γ1 ((d, .c (.map (some g))) :: F) [] (qThen (fun F' H' => JCP P y Γ1 F' H' (toQ Γ Q)) (QS Γ1 (toQ Γ Q)))) :
    JC P (.seq (.region id ((⟨some d, .makeMap T none, ty, ps, af, none⟩ : Oper) :: rest).toArray false) y) Γ F H Q := fun a w ⟨ρ, s⟩ => by
  have s0 := s.cut 0 hFi (by rw [List.take_zero]; exact ObsId.nil) hR
  rw [List.take_zero, List.take_zero] at s0
  obtain ⟨w1, hw1⟩ : ∃ w1 : World, w1 = { w with heap := w.heap.push (.map #[] 0) } := ⟨_, rfl⟩
  obtain ⟨Γ', k1, k2, k3, k4, k5, k6⟩ := mapBorn c hd hF hR s0 hw1
  obtain ⟨Γ1, h1, h2, h3, h4, h5, h6⟩ := enterP k3 (by rw [List.all_cons, hF]; rfl) k5 k6
  have jj := j Γ' Γ1 w.heap.size (h1.trans k1) (h2.trans k2) h3 h4 k1 k3 k4 (fun z F' H' 𝒬' hid jz a' w' s' => by obtain ⟨q1, q2⟩ := h6 F' H' a' w' hid s'; exact jz a' w' q1 q2) _ _ h5
  refine wp_seq (Code.wp_mono (Q := toQ Γ1 (qThen (fun F' H' => JCP P y Γ1 F' H' (toQ Γ Q)) (QS Γ1 (toQ Γ Q)))) ?_ (wp_region_lit (wpList_plain rfl fun K hK => ?_)))
  · rintro e a' w' ⟨F', H', q, s'⟩
    cases e <;> first | exact q a' w' s'
  · unfold Oper.wp
    rw [show (execOp a.eval ⟨some d, .makeMap T none, ty, ps, af, none⟩).run P w = .ok (.value (.map (some w.heap.size))) w1 by rw [hw1]; simp [execOp, Instr.makeMap, newObj, Sem.run]]
    exact hK _ _ jj
theorem zvOk {T : Nat} {z : Value} (h : (P.info? T).bind (·.zero) = some z) : ∀ w, (zeroValue T).run P w = .ok z w := fun w => by
  cases hi : P.info? T with
  | none => rw [hi] at h; cases h
  | some i =>
    rw [hi] at h
    have hz : i.zero = some z := h
    simp [zeroValue, typeInfo, hi, hz]
end
theorem Spec.weak {P : Program} {f : FuncId} {args : List V} {post post' : Out → Prop} (h : Spec P f args post) (hw : ∀ o, post o → ∃ o', post' o' ∧ ∀ (w : World) (M : Nat → Prop) (B : Nat) (e : Ending), EndRel w M B o e → EndRel w M B o' e) : Spec P f args post' := fun M w vals h1 h2 =>
  (h M w vals h1 h2).mono fun e w' ⟨o, k1, k2, k3⟩ => by
    obtain ⟨o', q1, q2⟩ := hw o k1
    exact ⟨o', q1, q2 _ _ _ _ k2, k3⟩
theorem end_nn {w : World} {M : Nat → Prop} {B : Nat} {e : Ending} {fr : Bool} {k : IntKind} {l : List Int} (h : EndRel w M B (.ret (.n fr k l)) e) : EndRel w M B (.ret (.n false k l)) e := by
  obtain ⟨v, h1, A, c, e, h3, h4, h5⟩ := h
  exact ⟨v, h1, A, c, e, h3, h4, fun hl => by obtain ⟨ad, e1, hb, hc⟩ := h5 hl; exact ⟨ad, e1, ⟨hb.1, hb.2.1, by simp⟩, hc⟩⟩
theorem end_nnT {w : World} {M : Nat → Prop} {B : Nat} {e : Ending} {fr : Bool} {k : IntKind} {l : List Int} {ys : List V} (h : EndRel w M B (.ret (.t (.n fr k l :: ys))) e) : EndRel w M B (.ret (.t (.n false k l :: ys))) e := by
  obtain ⟨v, h1, us, h2, u, us', h3, ⟨A, c, e, h6, h4, h5⟩, h7⟩ := h
  exact ⟨v, h1, us, h2, u, us', h3, ⟨A, c, e, h6, h4, fun hl => by obtain ⟨ad, e1, hb, hc⟩ := h5 hl; exact ⟨ad, e1, ⟨hb.1, hb.2.1, by simp⟩, hc⟩⟩, h7⟩
theorem Spec.nn {P : Program} {f : FuncId} {args : List V} {fr : Bool} {k : IntKind} {l : List Int} (h : Spec P f args (fun o => o = .ret (.n fr k l))) : Spec P f args (fun o => o = .ret (.n false k l)) :=
  h.weak fun o ho => by subst ho; exact ⟨_, rfl, fun _ _ _ _ h => end_nn h⟩
theorem specX_of_spec {P : Program} {f : FuncId} {args : List V} {c : Nat → V} {g : Nat} {post : Out → Prop} (h : Spec P f args post) : SpecX P f args c g post := fun M w vals h1 h2 h3 h4 =>
  (h M w vals h1 h4).mono fun e w' ⟨o, k1, k2, k3⟩ => by
    have hlt : g < w.heap.size := h1 g h2
    exact ⟨o, k1, k2, h3.ev (k3.block g hlt) k3.size (fun b hb _ => k3.block b hb), k3.os, k3.tape, k3.output, k3.size, fun b hb _ => k3.block b hb⟩

section
variable {P : Program} {Γ : Ctx} {c : Nat → V} {g : Nat} {F : Fr} {H : List Ob} {𝒬 : Exit → Act → World → Prop}
theorem Oper.wp_monoQ {o : Oper} {a : Act} {w : World} {K K' : Act → World → Prop} {Q Q' : Exit → Act → World → Prop} (h : ∀ a w, K a w → K' a w) (hq : ∀ e a w, Q e a w → Q' e a w) (hh : o.wp P a w K Q) : o.wp P a w K' Q' := by
  unfold Oper.wp at *
  generalize (execOp a.eval o).run P w = r at *
  cases r with
  | ok n w' =>
    cases n <;> simp only [Oper.upon] at hh ⊢ <;>
      first
        | exact h _ _ hh
        | exact hq _ _ _ hh
        | exact Calls.mono hh (fun e w'' he => by cases e <;> first | exact h _ _ he | exact hq _ _ _ he | exact (let ⟨a, w, h⟩ := he; ⟨a, w, hq _ _ _ h⟩))
        | exact Rows.mono hh (fun _ _ he => h _ _ he)
        | exact hh
  | halt x w' => cases x <;> simp only [Oper.upon] at hh ⊢ <;> first | exact hq _ _ _ hh | exact hh | exact (let ⟨a, w, h⟩ := hh; ⟨a, w, hq _ _ _ h⟩)
theorem wpList_monoQ {ops : Array Oper} {Q Q' : Exit → Act → World → Prop} (hq : ∀ e a w, Q e a w → Q' e a w) : ∀ (l : List Oper) (a : Act) (w : World), wpList P ops Q l a w → wpList P ops Q' l a w
  | [], a, w, h => hq _ _ _ h
  | o :: rest, a, w, h => by
    unfold wpList at h ⊢
    split
    · rename_i hw
      rw [if_pos hw] at h
      rcases h with h | ⟨h1, a', w', h2⟩
      · exact .inl (Oper.wp_monoQ (wpList_monoQ hq rest) hq h)
      · exact .inr ⟨h1, a', w', hq _ _ _ h2⟩
    · rename_i hw
      rw [if_neg hw] at h
      exact wpList_monoQ hq rest _ _ h
def SpecXN (P : Program) (f : FuncId) (args : List V) (c : Nat → V) (g : Nat) (post : Out → List Ob → Prop) : Prop :=
  ∀ (M : Nat → Prop) (w : World) (vals : List Value), (∀ b, M b → b < w.heap.size) → M g → GoodM M c g w → RelL w M w.heap.size [] args vals →
    Calls P f vals.toArray w fun e w' => ∃ o H' ρ', post o H' ∧ EndRelM w' (Lset M ρ' H') w.heap.size ρ' o e ∧ HR M w' w.heap.size ρ' H' ∧ w'.os = w.os ∧ w'.tape = w.tape ∧ w'.output = w.output ∧ w.heap.size ≤ w'.heap.size ∧
      (∀ (id : Nat) (ob : Ob) (re : Re) (gg : Nat), H'[id]? = some ob → ob.live = true → ρ'[id]? = some re → re.g = some gg → w.heap.size ≤ gg) ∧ (∀ b, b < w.heap.size → b ≠ g → w'.heap[b]? = w.heap[b]?)
def qRetXN (P : Program) (fn : Func) (Γ : Ctx) (post : Out → List Ob → Prop) : Exit → Act → World → Prop
  | .ret, a, w => ∃ F H ρ sel ys y, StA Γ ρ F H a w ∧ ResL P F H fn.results.toList ys ∧ ren sel y = packV ys ∧ idB sel.length y = true ∧ sel.Nodup ∧ idless (selL noOb sel H) ∧ post (.ret y) (selL noOb sel H)
  | _, _, _ => False
end

section
variable {P : Program} {Γ : Ctx} {F : Fr} {H : List Ob} {Q : Exit → Fr → List Ob → Prop}
theorem jo_frzr {ops : Array Oper} {rest : List Oper} (t : Nat) {id ver len T sz : Nat} {cs : List V} (rows : List (List V)) (hx : getO F t = some (.o id ver 0 len)) (hH : H[id]? = some ⟨T, sz, ver, true, cs⟩) (hcs : cs = rows.flatten) (hlen : rows.length = len) (hsz : ∀ r ∈ rows, r.length = sz) (hpu : ∀ r ∈ rows, r.all pureV = true) (h0 : 0 < sz) (hp : ∀ b, ¬ Γ.L0 b)
    (j : JO P ops rest Γ ((t, .l true sz rows) :: F) (deadAt H id) Q) : JO P ops rest Γ F H Q := fun a w ⟨ρ, s⟩ =>
  j a w ⟨ρ, s.frz id t hx fun v r => s.frozenR hH r hcs hlen hsz hpu h0 hp⟩
end
def rowsV (rows : List (List Int)) : List (List V) := rows.map fun l => [V.n false .u64 l]

def TabR (g : Nat) (cells : List V) (w : World) (M : Nat → Prop) : Prop := Rel w M w.heap.size [] (.q cells) (.pointer (some ⟨g, 0, none⟩))
def SpecT (P : Program) (f : FuncId) (g : Nat) (cells : List V) (args : List V) (post : Out → Prop) : Prop :=
  ∀ (M : Nat → Prop) (w : World) (vals : List Value), (∀ b, M b → b < w.heap.size) → TabR g cells w M → RelL w M w.heap.size [] args vals →
    Calls P f vals.toArray w fun e w' => ∃ o, post o ∧ EndRel w' M w.heap.size o e ∧ Below w.heap.size w w'
theorem SpecT.mono {P : Program} {g : Nat} {cells : List V} {f : FuncId} {args : List V} {post post' : Out → Prop} (h : SpecT P f g cells args post) (hp : ∀ o, post o → post' o) : SpecT P f g cells args post' :=
  fun M w vals hM hT hr => (h M w vals hM hT hr).mono fun e w' ⟨o, h1, h2, h3⟩ => ⟨o, hp o h1, h2, h3⟩
section
variable {P : Program} {Γ : Ctx} {F : Fr} {H : List Ob} {Q : Exit → Fr → List Ob → Prop} {g : Nat} {cells : List V}
end

section
variable {P : Program} {Γ : Ctx} {F : Fr} {H : List Ob} {Q : Exit → Fr → List Ob → Prop}
theorem jo_panic {ops : Array Oper} {rest : List Oper} {dst : Option Tmp} {T t : TypeId} {ps : String} {af : Array Edge} {x : Operand} {v : Value} (hx : ovO F x = some (.c (.iface t v))) (h : Q (.panic [{ v := .iface t v, recovered := false }]) F H) :
    JO P ops (⟨dst, .panic x, T, ps, af, none⟩ :: rest) Γ F H Q := fun a w ⟨ρ, s⟩ =>
  wpList_plain rfl fun K hK => by
    have e : a.eval x = .iface t v := s.ov hx
    unfold Oper.wp
    rw [show (execOp a.eval ⟨dst, .panic x, T, ps, af, none⟩).run P w = .halt (.panic (.iface t v)) w by simp [execOp, Instr.panic, e, goPanic, Sem.run]]
    exact ⟨F, H, h, ρ, s⟩
def Ctx.later (Γ : Ctx) (ρ : List Re) (d : Deferred) : Ctx := { Γ with ρ0 := ρ, ds := d :: Γ.ds }
theorem StA.later {ρ : List Re} {a : Act} {w : World} (s : StA Γ ρ F H a w) (d : Deferred) : StA (Γ.later ρ d) ρ F H { a with defers := d :: a.defers } w :=
  ⟨s.hr, s.n, by show d :: a.defers = d :: Γ.ds; rw [s.ds], s.fr, ⟨s.fro.os, s.fro.tape, s.fro.output, s.fro.size, s.fro.blk, s.fro.old, s.fro.mine, fun i r h => ⟨r, h, Nat.le_refl _, fun _ => rfl⟩⟩⟩
def Consts (Ho Hc : List Ob) : Prop := Hc.length = Ho.length ∧ ∀ (i : Nat) (o : Ob), Ho[i]? = some o → ∃ us : List Value, Hc[i]? = some ⟨o.t, o.sz, o.ver, true, us.map V.c⟩ ∧ us.length = o.cs.length ∧ ∀ u ∈ us, u.oneCell' = true
def capB (m : Nat) : V → Bool
  | .p id ver off => Nat.blt id m && ver == 0
  | _ => false
def Mrest (M : Nat → Prop) (ρ : List Re) (H : List Ob) (m : Nat) : Nat → Prop := fun b => M b ∨ ∃ (id : Nat) (ob : Ob) (re : Re), m ≤ id ∧ H[id]? = some ob ∧ ob.live = true ∧ ρ[id]? = some re ∧ re.g = some b
theorem take_at {α : Type} {l : List α} {m i : Nat} {x : α} (h : (l.take m)[i]? = some x) : i < m ∧ l[i]? = some x := by
  rw [List.getElem?_take] at h
  split at h
  · exact ⟨by assumption, h⟩
  · cases h
theorem at_take {α : Type} {l : List α} {m i : Nat} {x : α} (hi : i < m) (h : l[i]? = some x) : (l.take m)[i]? = some x := by rw [List.getElem?_take, if_pos hi]; exact h
theorem StA.constsn {ρ : List Re} {a : Act} {w : World} (m : Nat) (s : StA Γ ρ F H a w) (hl : ∀ o ∈ H.take m, o.live = true) :
    ∃ Hc, Consts (H.take m) Hc ∧ (∀ B, HR (Mrest Γ.M ρ H m) w B (ρ.take m) Hc) ∧ (∀ b, Lset (Mrest Γ.M ρ H m) (ρ.take m) Hc b ↔ Lset Γ.M ρ H b) ∧
      ∀ (i : Nat) (o oc : Ob), (H.take m)[i]? = some o → Hc[i]? = some oc → ∃ us : List Value, oc.cs = us.map V.c ∧ us.length = o.cs.length ∧ RelL w (Lset Γ.M ρ H) Γ.w0.heap.size ρ o.cs us := by
  have hex : ∀ i : Nat, ∃ us : List Value, ∀ o, (H.take m)[i]? = some o → us.length = o.cs.length ∧ (∀ u ∈ us, u.oneCell' = true) ∧ RelL w (Lset Γ.M ρ H) Γ.w0.heap.size ρ o.cs us ∧
      ∀ (re : Re) (g : Nat) (cur : Array Value), ρ[i]? = some re → re.g = some g → w.heap[g]? = some (.cells cur o.t (0, 0)) → ∀ (j : Nat) (u : Value), us[j]? = some u → cur[j]? = some u ∧ u.oneCell' = true := fun i => by
    cases hi : (H.take m)[i]? with
    | none => exact ⟨[], fun o h => by cases h⟩
    | some o =>
      obtain ⟨_, h1⟩ := take_at hi
      obtain ⟨re, ow⟩ := s.own h1 (hl o (List.mem_of_getElem? hi))
      cases hg : re.g with
      | none =>
        refine ⟨[], fun o' h => ?_⟩
        injection h with h; subst h
        have hc := (ow.ok.nob hg).1
        rw [hc]
        exact ⟨rfl, by simp, rfl, fun re' g cur e1 e2 => by
          obtain rfl : re' = re := by have := e1.symm.trans ow.at_; injection this
          rw [hg] at e2; cases e2⟩
      | some g =>
        obtain ⟨us, k1, k2, k3, k4⟩ := own_cells ow hg o.cs 0 (fun j y h => by rw [Nat.zero_add]; exact h)
        refine ⟨us, fun o' h => ?_⟩
        injection h with h; subst h
        refine ⟨k1, k3, k2, fun re' g' cur e1 e2 e3 j u hu => ⟨?_, k3 u (List.mem_of_getElem? hu)⟩⟩
        obtain rfl : re' = re := by have := e1.symm.trans ow.at_; injection this
        obtain rfl : g' = g := by have := e2.symm.trans hg; injection this
        have := k4 j u hu
        rw [addr_add_plain, Nat.zero_add] at this
        simpa [World.cell?, e3] using this
  let f : Nat → List Value := fun i => Classical.choose (hex i)
  have hf : ∀ i o, (H.take m)[i]? = some o → (f i).length = o.cs.length ∧ (∀ u ∈ f i, u.oneCell' = true) ∧ RelL w (Lset Γ.M ρ H) Γ.w0.heap.size ρ o.cs (f i) ∧
      ∀ (re : Re) (g : Nat) (cur : Array Value), ρ[i]? = some re → re.g = some g → w.heap[g]? = some (.cells cur o.t (0, 0)) → ∀ (j : Nat) (u : Value), (f i)[j]? = some u → cur[j]? = some u ∧ u.oneCell' = true := fun i => Classical.choose_spec (hex i)
  clear_value f
  obtain ⟨Hc, hHc⟩ : ∃ Hc : List Ob, Hc = ((H.take m).zipIdx 0).map fun p => (⟨p.1.t, p.1.sz, p.1.ver, true, (f p.2).map V.c⟩ : Ob) := ⟨_, rfl⟩
  have hc : ∀ i : Nat, Hc[i]? = ((H.take m)[i]?).map fun o => (⟨o.t, o.sz, o.ver, true, (f i).map V.c⟩ : Ob) := fun i => by
    rw [hHc, List.getElem?_map, List.getElem?_zipIdx]
    cases (H.take m)[i]? <;> simp
  have hc2 : ∀ (i : Nat) (oc : Ob), Hc[i]? = some oc → ∃ o, (H.take m)[i]? = some o ∧ oc = ⟨o.t, o.sz, o.ver, true, (f i).map V.c⟩ := fun i oc h => by
    rw [hc] at h
    cases hi : (H.take m)[i]? with
    | none => rw [hi] at h; cases h
    | some o => rw [hi] at h; injection h with h; exact ⟨o, rfl, h.symm⟩
  have hlen : Hc.length = (H.take m).length := by rw [hHc]; simp
  have back : ∀ (i : Nat) (oc : Ob) (r : Re), Hc[i]? = some oc → (ρ.take m)[i]? = some r → ∃ o, i < m ∧ H[i]? = some o ∧ o.live = true ∧ ρ[i]? = some r := fun i oc r h1 h3 => by
    obtain ⟨o, e1, _⟩ := hc2 i oc h1
    exact ⟨o, (take_at e1).1, (take_at e1).2, hl o (List.mem_of_getElem? e1), (take_at h3).2⟩
  refine ⟨Hc, ⟨hlen, fun i o hi => ⟨f i, by rw [hc, hi]; rfl, (hf i o hi).1, (hf i o hi).2.1⟩⟩, fun B => ⟨by rw [hlen]; simp [s.hr.len], fun i oc h1 h2 => ?_, fun i j oi oj ri rj g hij h1 _ h3 _ h5 h6 h7 h8 => ?_, fun i o r g h1 _ h3 h4 hM => ?_⟩, fun b => ⟨?_, ?_⟩, fun i o oc h1 h2 => ?_⟩
  · obtain ⟨o, e1, rfl⟩ := hc2 i oc h1
    obtain ⟨hin, e2⟩ := take_at e1
    have hlo := hl o (List.mem_of_getElem? e1)
    obtain ⟨r, h3, h4⟩ := s.hr.ob i o e2 hlo
    obtain ⟨k1, _, _, k3⟩ := hf i o e1
    refine ⟨r, at_take hin h3, h4.ver, h4.sz, fun hg => ?_, fun g hg => ?_⟩
    · obtain ⟨g1, g2⟩ := h4.nob hg
      refine ⟨?_, g2⟩
      have : f i = [] := List.eq_nil_of_length_eq_zero (by rw [k1, g1]; rfl)
      show (f i).map V.c = []
      rw [this]; rfl
    · obtain ⟨cur, c1, c2, c3, c4, c5⟩ := h4.blk g hg
      refine ⟨cur, c1, c2, by show ((f i).map V.c).length ≤ _; rw [List.length_map, k1]; exact c3, c4, fun j y hy => ?_⟩
      have hy' : ((f i).map V.c)[j]? = some y := hy
      rw [List.getElem?_map] at hy'
      cases hu : (f i)[j]? with
      | none => rw [hu] at hy'; cases hy'
      | some u =>
        rw [hu] at hy'
        injection hy' with hy'; subst hy'
        obtain ⟨d1, d2⟩ := k3 r g cur h3 hg c1 j u hu
        exact ⟨u, d1, d2, rfl⟩
  · obtain ⟨o1, _, q1, q2, q3⟩ := back i oi ri h1 h5
    obtain ⟨o2, _, q4, q5, q6⟩ := back j oj rj h3 h6
    exact s.hr.apart i j o1 o2 ri rj g hij q1 q2 q4 q5 q3 q6 h7 h8
  · obtain ⟨o1, hin, q1, q2, q3⟩ := back i o r h1 h3
    rcases hM with hM | ⟨i2, o2, r2, p1, p2, p3, p4, p5⟩
    · exact s.hr.foreign i o1 r g q1 q2 q3 h4 hM
    · exact s.hr.apart i i2 o1 o2 r r2 g (by omega) q1 q2 p2 p3 q3 p4 h4 p5
  · rintro ((h | ⟨i2, o2, r2, _, p2, p3, p4, p5⟩) | ⟨i, o, r, h1, h2, h3, h4⟩)
    · exact .inl h
    · exact .inr ⟨i2, o2, r2, p2, p3, p4, p5⟩
    · obtain ⟨o1, hin, q1, q2, q3⟩ := back i o r h1 h3
      exact .inr ⟨i, o1, r, q1, q2, q3, h4⟩
  · rintro (h | ⟨i, o, r, h1, h2, h3, h4⟩)
    · exact .inl (.inl h)
    · by_cases hi : i < m
      · exact .inr ⟨i, _, r, by rw [hc, at_take hi h1]; rfl, rfl, at_take hi h3, h4⟩
      · exact .inl (.inr ⟨i, o, r, by omega, h1, h2, h3, h4⟩)
  · obtain ⟨o', e1, rfl⟩ := hc2 i oc h2
    obtain rfl : o' = o := by have := e1.symm.trans h1; injection this
    obtain ⟨k1, _, k2, _⟩ := hf i o' e1
    exact ⟨f i, rfl, k1, k2⟩
def SpecD (P : Program) (g : FuncId) (args : List V) (H : List Ob) (u u' : FrameMode) (H' : List Ob) : Prop :=
  ∀ (M : Nat → Prop) (w : World) (ρ : List Re) (vals : List Value), (∀ b, M b → b < w.heap.size) → HR M w w.heap.size ρ H → RelL w (Lset M ρ H) w.heap.size ρ args vals →
    CallsD P g vals.toArray u w fun e m w' => (∃ v, e = .returned v) ∧ m = u' ∧ ∃ ρ', HR M w' w.heap.size ρ' H' ∧
      w'.os = w.os ∧ w'.tape = w.tape ∧ w'.output = w.output ∧ Ev w (Lset M ρ H) w.heap.size ρ w' (Lset M ρ' H') w.heap.size ρ' ∧
      (∀ (id : Nat) (ob : Ob) (re : Re) (g : Nat), H'[id]? = some ob → ob.live = true → ρ'[id]? = some re → re.g = some g → w.heap.size ≤ g ∨ hand ρ H g) ∧ (∀ b, b < w.heap.size → ¬ hand ρ H b → w'.heap[b]? = w.heap[b]?)
theorem caps_end {m : Nat} {w1 : World} {L1 : Nat → Prop} {B1 : Nat} {ρ1 : List Re} {w : World} {L : Nat → Prop} {B : Nat} {ρ : List Re} (hρ : ∀ (id : Nat) (re : Re), ρ1[id]? = some re → ∃ re', ρ[id]? = some re' ∧ re.ver ≤ re'.ver ∧ (re.ver = re'.ver → re' = re)) :
    ∀ (caps : List V) (us : List Value), caps.all (capB m) = true → RelL w1 L1 B1 ρ1 caps us → RelL w L B (ρ.take m) caps us
  | [], _, _, h => h
  | y :: ys, us, hc, ⟨u, us', e, h1, h2⟩ => by
    rw [List.all_cons, Bool.and_eq_true] at hc
    refine ⟨u, us', e, ?_, caps_end hρ ys us' hc.2 h2⟩
    cases y with
    | p id ver off =>
      obtain ⟨re, e1, hv, hq⟩ := h1
      obtain ⟨re', e2, e3, e4⟩ := hρ id re e1
      have hc1 := hc.1
      simp only [capB, Bool.and_eq_true, Nat.blt_eq, beq_iff_eq] at hc1
      obtain ⟨hid, rfl⟩ := hc1
      refine ⟨re', by rw [List.getElem?_take, if_pos hid]; exact e2, Nat.zero_le _, fun hz => ?_⟩
      have h0 : re.ver = re'.ver := by omega
      rw [e4 h0]
      exact hq (by omega)
    | _ => simp [capB] at hc
def FinD (P : Program) (Qf : Exit → Fr → List Ob → Prop) (g : FuncId) (caps : List V) (m : Nat) (u : FrameMode) (F : Fr) (H : List Ob) : Prop :=
  ∃ (u' : FrameMode) (H' : List Ob), u ≠ .run ∧ settle u' = .returning ∧ H'.length = m ∧ m ≤ H.length ∧ (∀ o ∈ H.take m, o.live = true) ∧
    (∀ Hc, Consts (H.take m) Hc → ∃ Hp, SpecD P g caps Hc u u' Hp ∧ Hp.length = m ∧ ∀ k : Nat, (H'[k]? = (H.take m)[k]? ∧ Hp[k]? = Hc[k]?) ∨ Hp[k]? = H'[k]?) ∧ Qf .ret F (H' ++ H.drop m)
theorem map_c_inj : ∀ (l1 l2 : List Value), l1.map V.c = l2.map V.c → l1 = l2
  | [], [], _ => rfl
  | [], _ :: _, h => by simp at h
  | _ :: _, [], h => by simp at h
  | x :: l1, y :: l2, h => by
    simp only [List.map_cons, List.cons.injEq, V.c.injEq] at h
    rw [h.1, map_c_inj l1 l2 h.2]
theorem StA.afterD {ρ : List Re} {a : Act} {w w' : World} {m : Nat} (s : StA Γ ρ F H a w) (hl : ∀ o ∈ H.take m, o.live = true) (hmH : m ≤ H.length) {Hc : List Ob} (k1 : Consts (H.take m) Hc) (k3 : ∀ b, Lset (Mrest Γ.M ρ H m) (ρ.take m) Hc b ↔ Lset Γ.M ρ H b)
    (k4 : ∀ (i : Nat) (o oc : Ob), (H.take m)[i]? = some o → Hc[i]? = some oc → ∃ us : List Value, oc.cs = us.map V.c ∧ us.length = o.cs.length ∧ RelL w (Lset Γ.M ρ H) Γ.w0.heap.size ρ o.cs us)
    {Hp H' : List Ob} {ρ' : List Re} (hH' : ∀ k : Nat, (H'[k]? = (H.take m)[k]? ∧ Hp[k]? = Hc[k]?) ∨ Hp[k]? = H'[k]?) (hHp : Hp.length = m) (hlm : H'.length = m)
    (h3 : HR (Mrest Γ.M ρ H m) w' w.heap.size ρ' Hp) (h4 : w'.os = w.os) (h5 : w'.tape = w.tape) (h6 : w'.output = w.output) (ev : Ev w (Lset (Mrest Γ.M ρ H m) (ρ.take m) Hc) w.heap.size (ρ.take m) w' (Lset (Mrest Γ.M ρ H m) ρ' Hp) w.heap.size ρ')
    (h8 : ∀ (id : Nat) (ob : Ob) (re : Re) (g : Nat), Hp[id]? = some ob → ob.live = true → ρ'[id]? = some re → re.g = some g → w.heap.size ≤ g ∨ hand (ρ.take m) Hc g) (h9 : ∀ b, b < w.heap.size → ¬ hand (ρ.take m) Hc b → w'.heap[b]? = w.heap[b]?) :
    StA Γ (ρ' ++ ρ.drop m) F (H' ++ H.drop m) a w' := by
  have hHc : Hc.length = m := by rw [k1.1]; simp; omega
  have hρ' : ρ'.length = m := by rw [h3.len]; exact hHp
  have hρm : m ≤ ρ.length := by rw [s.hr.len]; exact hmH
  -- an object of the new list, seen where it comes from
  have partH : ∀ (i : Nat) (o : Ob), (H' ++ H.drop m)[i]? = some o → (i < m ∧ H'[i]? = some o) ∨ (m ≤ i ∧ H[i]? = some o) := fun i o h => by
    by_cases hi : i < m
    · rw [List.getElem?_append_left (by omega)] at h; exact .inl ⟨hi, h⟩
    · rw [List.getElem?_append_right (by omega), hlm, List.getElem?_drop] at h
      exact .inr ⟨by omega, by rw [show m + (i - m) = i by omega] at h; exact h⟩
  have partR : ∀ (i : Nat) (r : Re), (ρ' ++ ρ.drop m)[i]? = some r → (i < m ∧ ρ'[i]? = some r) ∨ (m ≤ i ∧ ρ[i]? = some r) := fun i r h => by
    by_cases hi : i < m
    · rw [List.getElem?_append_left (by omega)] at h; exact .inl ⟨hi, h⟩
    · rw [List.getElem?_append_right (by omega), hρ', List.getElem?_drop] at h
      exact .inr ⟨by omega, by rw [show m + (i - m) = i by omega] at h; exact h⟩
  have toR1 : ∀ (i : Nat) (r : Re), i < m → ρ'[i]? = some r → (ρ' ++ ρ.drop m)[i]? = some r := fun i r hi h => by rw [List.getElem?_append_left (by omega)]; exact h
  have toR2 : ∀ (i : Nat) (r : Re), m ≤ i → ρ[i]? = some r → (ρ' ++ ρ.drop m)[i]? = some r := fun i r hi h => by
    rw [List.getElem?_append_right (by omega), hρ', List.getElem?_drop, show m + (i - m) = i by omega]; exact h
  -- an object of H', as one of Hp
  have toP : ∀ (i : Nat) (o : Ob), H'[i]? = some o → o.live = true → ∃ op : Ob, Hp[i]? = some op ∧ op.live = true := fun i o h hlo => by
    rcases hH' i with ⟨e1, e2⟩ | e
    · rw [e1] at h
      obtain ⟨us, q, _⟩ := k1.2 i o h
      exact ⟨_, e2.trans q, rfl⟩
    · exact ⟨o, e.trans h, hlo⟩
  have handIn : ∀ b, hand (ρ.take m) Hc b → ∃ (i : Nat) (o : Ob) (r : Re), i < m ∧ H[i]? = some o ∧ o.live = true ∧ ρ[i]? = some r ∧ r.g = some b := by
    rintro b ⟨i, o, r, q1, _, q3, q4⟩
    have hi : i < m := (take_at q3).1
    have hlt : i < (H.take m).length := by rw [← k1.1]; exact (List.getElem?_eq_some_iff.1 q1).1
    have hti : (H.take m)[i]? = some ((H.take m)[i]'hlt) := List.getElem?_eq_getElem hlt
    exact ⟨i, _, r, hi, (take_at hti).2, hl _ (List.mem_of_getElem? hti), (take_at q3).2, q4⟩
  have lset2 : ∀ b, b < w.heap.size → Lset Γ.M (ρ' ++ ρ.drop m) (H' ++ H.drop m) b → Lset Γ.M ρ H b := by
    rintro b hb (h | ⟨i, o, r, q1, q2, q3, q4⟩)
    · exact .inl h
    · rcases partH i o q1 with ⟨hi, p1⟩ | ⟨hi, p1⟩
      · rcases partR i r q3 with ⟨_, p3⟩ | ⟨hi2, _⟩
        · obtain ⟨op, p4, p5⟩ := toP i o p1 q2
          rcases h8 i op r b p4 p5 p3 q4 with h | h
          · omega
          · obtain ⟨i', o', r', _, z1, z2, z3, z4⟩ := handIn b h
            exact .inr ⟨i', o', r', z1, z2, z3, z4⟩
        · omega
      · rcases partR i r q3 with ⟨hi2, _⟩ | ⟨_, p3⟩
        · omega
        · exact .inr ⟨i, o, r, p1, q2, p3, q4⟩
  have evB : Ev w (Lset Γ.M ρ H) Γ.w0.heap.size ρ w' (Lset Γ.M (ρ' ++ ρ.drop m) (H' ++ H.drop m)) Γ.w0.heap.size (ρ' ++ ρ.drop m) := by
    refine ⟨ev.size, fun b hb hn => ev.blk b hb fun h => hn ((k3 b).1 h), fun b hb hn h => hn (lset2 b hb h), Nat.le_refl _, fun i r hi => ?_⟩
    by_cases him : i < m
    · obtain ⟨r', f1, f2, f3⟩ := ev.rho i r (at_take him hi)
      exact ⟨r', toR1 i r' him f1, f2, f3⟩
    · exact ⟨r, toR2 i r (by omega) hi, Nat.le_refl _, fun _ => rfl⟩
  have oldblk : ∀ (i : Nat) (o : Ob) (r : Re) (g : Nat), m ≤ i → H[i]? = some o → o.live = true → ρ[i]? = some r → r.g = some g → w'.heap[g]? = w.heap[g]? := fun i o r g hi q1 q2 q3 q4 =>
    h9 g (s.hr.lt q1 q2 q3 q4) fun h => by
      obtain ⟨i', o', r', z0, z1, z2, z3, z4⟩ := handIn g h
      exact s.hr.apart i i' o o' r r' g (by omega) q1 q2 z1 z2 q3 z3 q4 z4
  have hfirst : ∀ (i : Nat) (o : Ob), H'[i]? = some o → o.live = true → ∃ re, ρ'[i]? = some re ∧ ObOk w' (Lset Γ.M (ρ' ++ ρ.drop m) (H' ++ H.drop m)) Γ.w0.heap.size (ρ' ++ ρ.drop m) re o := fun i o q1 q2 => by
    have hi : i < m := by rw [← hlm]; exact (List.getElem?_eq_some_iff.1 q1).1
    rcases hH' i with ⟨e1, e2⟩ | e2
    · have q1' := q1
      rw [e1] at q1'
      obtain ⟨us', q5, q6, _⟩ := k1.2 i o q1'
      obtain ⟨re, r1, r2⟩ := h3.ob i _ (e2.trans q5) rfl
      obtain ⟨us2, t1, t2, t3⟩ := k4 i o _ q1' q5
      have hus : us' = us2 := map_c_inj _ _ t1
      subst hus
      refine ⟨re, r1, r2.ver, r2.sz, fun hg => ?_, fun g hg => ?_⟩
      · obtain ⟨g1, g2⟩ := r2.nob hg
        refine ⟨List.eq_nil_of_length_eq_zero ?_, g2⟩
        have g1' : us'.map V.c = [] := g1
        rw [← q6, ← List.length_map (f := V.c), g1']; rfl
      · obtain ⟨cur, c1, c2, c3, c4, c5⟩ := r2.blk g hg
        have c3' : (us'.map V.c).length ≤ cur.size := c3
        refine ⟨cur, c1, c2, by rw [List.length_map, q6] at c3'; exact c3', c4, fun j y hy => ?_⟩
        obtain ⟨uj, hu, hru⟩ := relL_at o.cs us' j y t3 hy
        obtain ⟨x, d1, d2, d3⟩ := c5 j (.c uj) (by show (us'.map V.c)[j]? = _; rw [List.getElem?_map, hu]; rfl)
        have hx : x = uj := d3
        subst hx
        exact ⟨x, d1, d2, hru.ev evB⟩
    · obtain ⟨re, r1, r2⟩ := h3.ob i o (e2.trans q1) q2
      refine ⟨re, r1, r2.ver, r2.sz, r2.nob, fun g hg => ?_⟩
      obtain ⟨cur, c1, c2, c3, c4, c5⟩ := r2.blk g hg
      refine ⟨cur, c1, c2, c3, c4, fun j y hy => ?_⟩
      obtain ⟨u, d1, d2, d3⟩ := c5 j y hy
      refine ⟨u, d1, d2, (rel_Ble s.fro.size y u d3).ev ⟨Nat.le_refl _, fun _ _ _ => rfl, fun b _ hn h => hn ?_, Nat.le_refl _, fun i r h => ?_⟩⟩
      · rcases h with h | ⟨i2, o2, r2', z1, z2, z3, z4⟩
        · exact .inl (.inl h)
        · rcases partH i2 o2 z1 with ⟨y1, y2⟩ | ⟨y1, y2⟩
          · rcases partR i2 r2' z3 with ⟨_, y3⟩ | ⟨y4, _⟩
            · obtain ⟨op, p4, p5⟩ := toP i2 o2 y2 z2
              exact .inr ⟨i2, op, r2', p4, p5, y3, z4⟩
            · omega
          · rcases partR i2 r2' z3 with ⟨y4, _⟩ | ⟨_, y3⟩
            · omega
            · exact .inl (.inr ⟨i2, o2, r2', y1, y2, z2, y3, z4⟩)
      · have him : i < m := by rw [← hρ']; exact (List.getElem?_eq_some_iff.1 h).1
        exact ⟨r, toR1 i r him h, Nat.le_refl _, fun _ => rfl⟩
  -- where blocks of the new list come from
  have src : ∀ (i : Nat) (o : Ob) (r : Re) (g : Nat), (H' ++ H.drop m)[i]? = some o → o.live = true → (ρ' ++ ρ.drop m)[i]? = some r → r.g = some g →
      (i < m ∧ ∃ op : Ob, Hp[i]? = some op ∧ op.live = true ∧ ρ'[i]? = some r) ∨ (m ≤ i ∧ H[i]? = some o ∧ ρ[i]? = some r) := fun i o r g q1 q2 q3 q4 => by
    rcases partH i o q1 with ⟨y1, y2⟩ | ⟨y1, y2⟩
    · rcases partR i r q3 with ⟨_, y3⟩ | ⟨y4, _⟩
      · obtain ⟨op, p4, p5⟩ := toP i o y2 q2
        exact .inl ⟨y1, op, p4, p5, y3⟩
      · omega
    · rcases partR i r q3 with ⟨y4, _⟩ | ⟨_, y3⟩
      · omega
      · exact .inr ⟨y1, y2, y3⟩
  refine ⟨⟨?_, fun i o q1 q2 => ?_, fun i j oi oj ri rj g hij q1 q2 q3 q4 q5 q6 q7 q8 => ?_, fun i o r g q1 q2 q3 q4 hM => ?_⟩, s.n, s.ds, fun t => (s.fr t).ev evB, ⟨h4.trans s.fro.os, h5.trans s.fro.tape, h6.trans s.fro.output, Nat.le_trans s.fro.size ev.size, fun b hlt hnl => ?_, s.fro.old, fun i o r g q1 q2 q3 q4 => ?_, fun i r hi => ?_⟩⟩
  · simp only [List.length_append, List.length_drop, hρ', hlm, s.hr.len]
  · rcases partH i o q1 with ⟨y1, y2⟩ | ⟨y1, y2⟩
    · obtain ⟨re, r1, r2⟩ := hfirst i o y2 q2
      exact ⟨re, toR1 i re y1 r1, r2⟩
    · obtain ⟨re, r1, r2⟩ := s.hr.ob i o y2 q2
      refine ⟨re, toR2 i re y1 r1, r2.ver, r2.sz, r2.nob, fun g hg => ?_⟩
      obtain ⟨cur, c1, c2, c3, c4, c5⟩ := r2.blk g hg
      refine ⟨cur, by rw [oldblk i o re g y1 y2 q2 r1 hg]; exact c1, c2, c3, c4, fun j y hy => ?_⟩
      obtain ⟨u, d1, d2, d3⟩ := c5 j y hy
      exact ⟨u, d1, d2, d3.ev evB⟩
  · rcases src i oi ri g q1 q2 q5 q7 with ⟨a1, op, a2, a3, a4⟩ | ⟨a1, a2, a3⟩ <;> rcases src j oj rj g q3 q4 q6 q8 with ⟨b1, op2, b2, b3, b4⟩ | ⟨b1, b2, b3⟩
    · exact h3.apart i j op op2 ri rj g hij a2 a3 b2 b3 a4 b4 q7 q8
    · exact h3.foreign i op ri g a2 a3 a4 q7 (.inr ⟨j, oj, rj, b1, b2, q4, b3, q8⟩)
    · exact h3.foreign j op2 rj g b2 b3 b4 q8 (.inr ⟨i, oi, ri, a1, a2, q2, a3, q7⟩)
    · exact s.hr.apart i j oi oj ri rj g hij a2 q2 b2 q4 a3 b3 q7 q8
  · rcases src i o r g q1 q2 q3 q4 with ⟨a1, op, a2, a3, a4⟩ | ⟨a1, a2, a3⟩
    · exact h3.foreign i op r g a2 a3 a4 q4 (.inl hM)
    · exact s.hr.foreign i o r g a2 q2 a3 q4 hM
  · rw [h9 b (Nat.lt_of_lt_of_le hlt s.fro.size) fun h => by
      obtain ⟨i', o', r', _, z1, z2, z3, z4⟩ := handIn b h
      rcases s.fro.mine i' o' r' b z1 z2 z3 z4 with h | h
      · omega
      · exact hnl h]
    exact s.fro.blk b hlt hnl
  · rcases src i o r g q1 q2 q3 q4 with ⟨a1, op, a2, a3, a4⟩ | ⟨a1, a2, a3⟩
    · rcases h8 i op r g a2 a3 a4 q4 with h | h
      · exact .inl (Nat.le_trans s.fro.size h)
      · obtain ⟨i', o', r', _, z1, z2, z3, z4⟩ := handIn g h
        exact s.fro.mine i' o' r' g z1 z2 z3 z4
    · exact s.fro.mine i o r g a2 q2 a3 q4
  · obtain ⟨r1, e1, e2, e3⟩ := s.fro.rho i r hi
    obtain ⟨r2, f1, f2, f3⟩ := evB.rho i r1 e1
    refine ⟨r2, f1, Nat.le_trans e2 f2, fun e => ?_⟩
    have hv1 : r.ver = r1.ver := by omega
    have : r1 = r := e3 hv1
    subst this
    exact f3 e
theorem leavesD {fn gn : Func} {g : FuncId} {caps : List V} {us : List Value} {m : Nat} {R : Ending → World → Prop} {Qf : Exit → Fr → List Ob → Prop} {u : FrameMode} (hgf : P.funcs[g]? = some gn) (hgb : gn.body.isSome = true) (hgn : (gn.name == "runtime.NumGoroutine") = false)
    (hds : Γ.ds = [⟨.fn (.func g) us.toArray, #[]⟩]) {w1 : World} {L1 : Nat → Prop} {B1 : Nat} (hcap : RelL w1 L1 B1 Γ.ρ0 caps us) (hcb : caps.all (capB m) = true)
    (hE : ∀ F H ρ a w, StA Γ ρ F H a w → Qf .ret F H → ∃ v, (results fn a.tmps).run P w = .ok v w ∧ R (.returned v) w)
    {ρ : List Re} {a : Act} {w : World} (s : StA Γ ρ F H a w) (h : FinD P Qf g caps m u F H) : Leaves P fn a.tmps R a.defers u w := by
  obtain ⟨u', H', hrun, hset, hlm, hmH, hl, hclo, hq⟩ := h
  obtain ⟨Hc, k1, k2, k3, k4⟩ := s.constsn m hl
  have hMlt : ∀ b, Mrest Γ.M ρ H m b → b < w.heap.size := by
    rintro b (h | ⟨i, o, r, _, q1, q2, q3, q4⟩)
    · exact Nat.lt_of_lt_of_le (s.fro.old b h) s.fro.size
    · exact s.hr.lt q1 q2 q3 q4
  have hcaps : RelL w (Lset (Mrest Γ.M ρ H m) (ρ.take m) Hc) w.heap.size (ρ.take m) caps us := caps_end s.fro.rho caps us hcb hcap
  rw [s.ds, hds]
  refine leaves_cons (f := g) (args := us.toArray) hrun ?_ ?_
  · have hb' : ¬ gn.body = none := by intro h; rw [h] at hgb; cases hgb
    have hn' : ¬ gn.name = "runtime.NumGoroutine" := by simpa using hgn
    simp [invoke, callFunc, program, Sem.run, hgf]
    rw [if_neg hn', if_neg hb']
  · obtain ⟨Hp, hS, hHp, hHk⟩ := hclo Hc k1
    exact (hS (Mrest Γ.M ρ H m) w (ρ.take m) us hMlt (k2 _) hcaps).mono fun e m' w' ⟨⟨v, he⟩, hm', ρ', h3, h4, h5, h6, ev, h8, h9⟩ => by
      subst he; subst hm'
      show Leaves P fn a.tmps R [] (settle m') w'
      rw [hset]
      exact hE _ _ _ _ _ (s.afterD hl hmH k1 k3 k4 hHk hHp hlm h3 h4 h5 h6 ev h8 h9) hq
def qRetD (P : Program) (Qf : Exit → Fr → List Ob → Prop) (g : FuncId) (caps : List V) (m : Nat) : Exit → Fr → List Ob → Prop
  | .ret, F, H | .normal, F, H => FinD P Qf g caps m .returning F H
  | .panic ch, F, H => FinD P Qf g caps m (.panicking ch) F H
  | _, _, _ => False
theorem qRetD_to {fn gn : Func} {g : FuncId} {caps : List V} {us : List Value} {m : Nat} {R : Ending → World → Prop} {Qf : Exit → Fr → List Ob → Prop} (hgf : P.funcs[g]? = some gn) (hgb : gn.body.isSome = true) (hgn : (gn.name == "runtime.NumGoroutine") = false)
    (hds : Γ.ds = [⟨.fn (.func g) us.toArray, #[]⟩]) {w1 : World} {L1 : Nat → Prop} {B1 : Nat} (hcap : RelL w1 L1 B1 Γ.ρ0 caps us) (hcb : caps.all (capB m) = true)
    (hE : ∀ F H ρ a w, StA Γ ρ F H a w → Qf .ret F H → ∃ v, (results fn a.tmps).run P w = .ok v w ∧ R (.returned v) w)
    (e : Exit) (a : Act) (w : World) (h : toQ Γ (qRetD P Qf g caps m) e a w) : bodyPostD P fn R e a w := by
  obtain ⟨F, H, q, ρ, s⟩ := h
  cases e with
  | normal => exact leavesD hgf hgb hgn hds hcap hcb hE s q
  | ret => exact leavesD hgf hgb hgn hds hcap hcb hE s q
  | panic ch => exact leavesD hgf hgb hgn hds hcap hcb hE s q
  | _ => exact absurd q (by simp [qRetD])
theorem wpList_app {ops : Array Oper} {𝒬 : Exit → Act → World → Prop} {post : List Oper} : ∀ (pre : List Oper) (a : Act) (w : World), wpList P ops (Exit.then (wpList P ops 𝒬 post) 𝒬) pre a w → wpList P ops 𝒬 (pre ++ post) a w
  | [], a, w, h => h
  | o :: pre, a, w, h => by
    have hQ : ∀ e a w, Exit.then (wpList P ops 𝒬 post) 𝒬 e a w → e ≠ .normal → 𝒬 e a w := fun e a w q hne => by cases e <;> first | exact absurd rfl hne | exact q
    unfold wpList at h
    show wpList P ops 𝒬 (o :: (pre ++ post)) a w
    unfold wpList
    split at h
    · rename_i hw
      rw [if_pos hw]
      rcases h with h | ⟨h1, h2⟩
      · refine .inl ?_
        unfold Oper.wp at h ⊢
        revert h
        generalize (execOp a.eval o).run P w = r
        intro h
        cases r with
        | ok n w' =>
          cases n <;> try exact h
          all_goals first
            | exact wpList_app pre _ _ h
            | skip
          case enter f args =>
            exact Calls.mono h fun e w'' q => by
              cases e with
              | returned v => exact wpList_app pre _ _ q
              | panicked ch => exact q
              | outgrown => exact q
          case row r args =>
            exact Rows.mono h fun v w'' q => wpList_app pre _ _ q
        | halt hh w' =>
          cases hh <;> first | exact h | exact h.elim
      · exact .inr ⟨h1, h2⟩
    · rename_i hw
      rw [if_neg hw]
      exact wpList_app pre _ _ h
end

section
variable {P : Program} {Γ : Ctx} {F : Fr} {H : List Ob} {Q : Exit → Fr → List Ob → Prop}
theorem jcd_defer {fn gn : Func} {g : FuncId} {caps : List V} {R : Ending → World → Prop} {Qf : Exit → Fr → List Ob → Prop} (m : Nat) {id : Nat} (pre : List Oper) {rest : List Oper} {y : Code} {x : Operand} {T : TypeId} {ps : String} {af : Array Edge} {ts : Array TypeId} {ops : List Oper} (hops : ops = pre ++ ⟨none, .defer { callee := .value x, args := #[], argTypes := ts }, T, ps, af, none⟩ :: rest)
    (hgf : P.funcs[g]? = some gn) (hgb : gn.body.isSome = true) (hgn : (gn.name == "runtime.NumGoroutine") = false) (hcb : caps.all (capB m) = true) (hds : Γ.ds = []) (hR : Γ.ρ0 = []) (hp : ∀ b, ¬ Γ.L0 b)
    (hE : ∀ F H ρ a w, StA Γ ρ F H a w → Qf .ret F H → ∃ v, (results fn a.tmps).run P w = .ok v w ∧ R (.returned v) w)
    (j : JO P ops.toArray pre Γ F H (fun e F' H' => e = .normal ∧ ovO F' x = some (.f g caps) ∧ H'.length = m ∧ ∀ Γ1 : Ctx, Γ1.N = Γ.N → (∀ b, ¬ Γ1.L0 b) → Γ1.ρ0.length = m →
      JO P ops.toArray rest Γ1 F' H' (qThen (fun F'' H'' => JC P y Γ1 F'' H'' (qRetD P Qf g caps m)) (qRetD P Qf g caps m)))) :
    JCP P (.seq (.region id ops.toArray false) y) Γ F H (bodyPostD P fn R) := fun a w s => by
  refine wp_seq (wp_region_lit ?_)
  have hj := j a w s
  generalize hA : ops.toArray = A at hj ⊢
  rw [hops]
  refine wpList_app pre a w (wpList_monoQ (fun e a' w' q => ?_) pre a w hj)
  obtain ⟨F', H', ⟨rfl, hx, hm, k⟩, ρ, s'⟩ := q
  show wpList P A _ (_ :: rest) a' w'
  obtain ⟨us, hv, hr⟩ := s'.ov hx
  refine wpList_plain rfl fun K hK => ?_
  unfold Oper.wp
  rw [show (execOp a'.eval ⟨none, .defer { callee := .value x, args := #[], argTypes := ts }, T, ps, af, none⟩).run P w' = .ok (.defer ⟨.fn (.func g) us.toArray, #[]⟩) w' by simp [execOp, resolve, hv, Deferred.ofValue, Sem.run]]
  refine hK _ _ ?_
  let d : Deferred := ⟨.fn (.func g) us.toArray, #[]⟩
  have s1 : StA (Γ.later ρ d) ρ F' H' { a' with defers := d :: a'.defers } w' := s'.later d
  have hE1 : ∀ F H ρ2 a w, StA (Γ.later ρ d) ρ2 F H a w → Qf .ret F H → ∃ v, (results fn a.tmps).run P w = .ok v w ∧ R (.returned v) w := fun F H ρ2 a w s2 q =>
    hE F H ρ2 { a with defers := Γ.ds } w ⟨s2.hr, s2.n, rfl, s2.fr, ⟨s2.fro.os, s2.fro.tape, s2.fro.output, s2.fro.size, s2.fro.blk, s2.fro.old, s2.fro.mine, fun i r h => by rw [hR] at h; simp at h⟩⟩ q
  have hq : ∀ e a w, toQ (Γ.later ρ d) (qRetD P Qf g caps m) e a w → bodyPostD P fn R e a w := fun e a w h =>
    qRetD_to (Γ := Γ.later ρ d) (m := m) hgf hgb hgn (by show d :: Γ.ds = _; rw [hds]) hr hcb hE1 e a w h
  have j1 := k (Γ.later ρ d) rfl hp (by show ρ.length = m; rw [← hm]; exact s'.hr.len) _ _ ⟨ρ, s1⟩
  refine wpList_monoQ (fun e a2 w2 q2 => ?_) rest _ _ j1
  obtain ⟨F2, H2, q3, s2⟩ := q2
  cases e with
  | normal => exact Code.wp_mono hq (q3 a2 w2 s2)
  | exit id => exact hq (.exit id) a2 w2 ⟨F2, H2, q3, s2⟩
  | goto l => exact hq (.goto l) a2 w2 ⟨F2, H2, q3, s2⟩
  | ret => exact hq .ret a2 w2 ⟨F2, H2, q3, s2⟩
  | panic ch => exact hq (.panic ch) a2 w2 ⟨F2, H2, q3, s2⟩
  | outgrown => exact hq .outgrown a2 w2 ⟨F2, H2, q3, s2⟩
theorem enterD {f : FuncId} {fn : Func} {c : Code} {args : List V} (hf : P.funcs[f]? = some fn) (hb : fn.body = some c) (hn : args.length ≤ fn.ntmps)
    (M : Nat → Prop) (w : World) (vals : List Value) (hM : ∀ b, M b → b < w.heap.size) (hr : RelL w M w.heap.size [] args vals) {R : Ending → World → Prop}
    (h : ∀ Γ : Ctx, Γ.w0 = w → Γ.M = M → Γ.N = fn.ntmps → Γ.ds = [] → (∀ b, ¬ Γ.L0 b) → Γ.ρ0 = [] → JCP P c Γ ((args.zipIdx 0).map fun p => (p.2, p.1)) [] (bodyPostD P fn R)) : Calls P f vals.toArray w R := by
  refine calls_of_wp_defers hf hb ?_
  have hlen : vals.length = args.length := (relL_one args vals hr).1
  let Γ : Ctx := ⟨fn.ntmps, w, M, [], fun _ => False, []⟩
  have Leq : ∀ b, Lset M [] [] b → M b := by
    rintro b (h | ⟨i, o, r, h1, _⟩)
    · exact h
    · simp at h1
  have s : StA Γ [] ((args.zipIdx 0).map fun p => (p.2, p.1)) [] ⟨vals.toArray ++ Array.replicate (fn.ntmps - vals.toArray.size) undef, []⟩ w := by
    refine ⟨⟨rfl, fun i o h => by simp at h, fun i j oi oj ri rj g _ h => by simp at h, fun i o r g h => by simp at h⟩, ?_, rfl, fun t => ?_, ⟨rfl, rfl, rfl, Nat.le_refl _, fun _ _ _ => rfl, hM, fun i o r g h => by simp at h, fun i r h => by have h' : ([] : List Re)[i]? = some r := h; simp at h'⟩⟩
    · show fn.ntmps ≤ (vals.toArray ++ Array.replicate (fn.ntmps - vals.toArray.size) undef).size
      simp; omega
    · have look : ∀ (ys : List V) (k t : Nat), getO ((ys.zipIdx k).map fun p => (p.2, p.1)) t = if k ≤ t then ys[t - k]? else none := by
        intro ys
        induction ys with
        | nil => intro k t; simp [getO]
        | cons y ys ih =>
          intro k t
          simp only [List.zipIdx_cons, List.map_cons, getO]
          cases hb : Nat.beq t k
          · have hne : t ≠ k := by intro e; subst e; simp at hb
            rw [ih (k + 1) t]
            by_cases h1 : k ≤ t
            · rw [if_pos h1, if_pos (by omega), show t - k = (t - (k + 1)) + 1 by omega]; rfl
            · rw [if_neg h1, if_neg (by omega)]; rfl
          · have := Nat.eq_of_beq_eq_true hb
            subst this
            simp
      unfold get
      rw [look args 0 t, if_pos (Nat.zero_le _), Nat.sub_zero]
      cases ht : args[t]? with
      | none => exact trivial
      | some y =>
        obtain ⟨u, hu, hru⟩ := relL_at args vals t y hr ht
        have hlt : t < vals.length := (List.getElem?_eq_some_iff.1 hu).1
        have e : ((vals.toArray ++ Array.replicate (fn.ntmps - vals.toArray.size) undef).getD t undef) = u := by
          rw [Array.getD_eq_getD_getElem?, Array.getElem?_append_left (by simpa using hlt)]
          simp [hu]
        show Rel w (Lset M [] []) w.heap.size [] y ((vals.toArray ++ Array.replicate (fn.ntmps - vals.toArray.size) undef).getD t undef)
        rw [e]
        exact hru.ev ⟨Nat.le_refl _, fun _ _ _ => rfl, fun b _ hn h => hn (Leq b h), Nat.le_refl _, fun i r h => by simp at h⟩
  exact h Γ rfl rfl rfl rfl (fun _ h => h) rfl _ _ ⟨_, s⟩
theorem spec_ofD {f : FuncId} {fn : Func} {c : Code} {args : List V} {post : Out → Prop} (F0 : Fr) (h0 : ((args.zipIdx 0).map fun p => (p.2, p.1)) = F0) (hf : P.funcs[f]? = some fn) (hb : fn.body = some c) (hn : args.length ≤ fn.ntmps)
    (h : ∀ (Γ : Ctx) (R : Ending → World → Prop), Γ.N = fn.ntmps → Γ.ds = [] → (∀ b, ¬ Γ.L0 b) → Γ.ρ0 = [] → (∀ F H ρ a w, StA Γ ρ F H a w → qRet P fn post .ret F H → ∃ v, (results fn a.tmps).run P w = .ok v w ∧ R (.returned v) w) →
      JCP P c Γ F0 [] (bodyPostD P fn R)) : Spec P f args post := fun M w vals hM hr => by
  subst h0; refine enterD hf hb hn M w vals hM hr fun Γ e1 e2 h1 h2 h3 h4 => h Γ _ h1 h2 h3 h4 ?_; rintro F H ρ a w' s ⟨ys, z, q1, q2, q3⟩
  obtain ⟨v, hv, hr'⟩ := s.results q1
  refine ⟨v, hv, .ret z, q3, ⟨v, rfl, ?_⟩, ?_⟩
  · have := q2.rel s h3 hr'
    rw [e1, e2] at this
    exact this
  · rw [← e1]
    exact ⟨s.fro.os, s.fro.tape, s.fro.output, s.fro.size, fun b hb => s.fro.blk b hb (h3 b)⟩
def toQS (Γ : Ctx) (c0 : Frame) (cs : List Frame) (Q : Exit → Fr → List Ob → FrameMode → Prop) : Exit → Act → List Frame → World → Prop :=
  fun e a cs' w => ∃ F H m, cs' = { c0 with mode := m } :: cs ∧ Q e F H m ∧ St Γ F H a w
def JCS (P : Program) (x : Code) (Γ : Ctx) (F : Fr) (H : List Ob) (u : FrameMode) (Q : Exit → Fr → List Ob → FrameMode → Prop) : Prop :=
  ∀ (c0 : Frame) (cs : List Frame) a w, c0.mode = u → St Γ F H a w → x.wpS P (toQS Γ c0 cs Q) a (c0 :: cs) w
variable {u : FrameMode} {QS : Exit → Fr → List Ob → FrameMode → Prop}
def qThenS (R : Fr → List Ob → FrameMode → Prop) (Q : Exit → Fr → List Ob → FrameMode → Prop) : Exit → Fr → List Ob → FrameMode → Prop
  | .normal, F, H, m => R F H m
  | e, F, H, m => Q e F H m
def recov : FrameMode → Value × FrameMode
  | .panicking ({ v, recovered := false, goexit := false } :: older) => (v, .panicking ({ v, recovered := true } :: older))
  | m => (.nilIface, m)
theorem recov_ok (c0 : Frame) (cs : List Frame) : (recoverD (c0 :: cs) = none ∧ recov c0.mode = (.nilIface, c0.mode)) ∨ recoverD (c0 :: cs) = some ((recov c0.mode).1, { c0 with mode := (recov c0.mode).2 } :: cs) := by
  obtain ⟨_, _, _, _, mode, _, _⟩ := c0
  cases mode with
  | run => exact .inl ⟨rfl, rfl⟩
  | returning => exact .inl ⟨rfl, rfl⟩
  | panicking ch =>
    cases ch with
    | nil => exact .inl ⟨rfl, rfl⟩
    | cons p older =>
      obtain ⟨v, r, g⟩ := p
      cases r <;> cases g <;> first | exact .inl ⟨rfl, rfl⟩ | exact .inr rfl
def qRetCl (P : Program) (fn : Func) (n : Nat) (u' : FrameMode) (Hp : List Ob) : Exit → Fr → List Ob → FrameMode → Prop
  | .ret, F, H, m | .normal, F, H, m => m = u' ∧ H.take n = Hp ∧ ObsId n Hp ∧ ∃ ys, ResL P F H fn.results.toList ys
  | _, _, _, _ => False
theorem specD_of {f : FuncId} {fn : Func} {c : Code} {args : List V} {H0 Hp : List Ob} {u' : FrameMode} (F0 : Fr) (h0 : ((args.zipIdx 0).map fun p => (p.2, p.1)) = F0) (n : Nat) (hn0 : H0.length = n) (hf : P.funcs[f]? = some fn) (hb : fn.body = some c) (hn : args.length ≤ fn.ntmps)
    (h : ∀ Γ : Ctx, Γ.N = fn.ntmps → Γ.ds = [] → JCS P c Γ F0 H0 u (qRetCl P fn n u' Hp)) : SpecD P f args H0 u u' Hp := fun M w ρ vals hM hR hr => by
  subst h0; subst hn0; refine callsD_of_wpS hf hb fun c₀ cs hu => ?_
  have hlen : vals.length = args.length := (relL_one args vals hr).1
  let Γ : Ctx := ⟨fn.ntmps, w, M, ρ, hand ρ H0, []⟩
  have s : StA Γ ρ ((args.zipIdx 0).map fun p => (p.2, p.1)) H0 ⟨vals.toArray ++ Array.replicate (fn.ntmps - vals.toArray.size) undef, []⟩ w := by
    refine ⟨hR, ?_, rfl, fun t => ?_, ⟨rfl, rfl, rfl, Nat.le_refl _, fun _ _ _ => rfl, hM, fun i o r g h1 h2 h3 h4 => .inr ⟨i, o, r, h1, h2, h3, h4⟩, fun i r h => ⟨r, h, Nat.le_refl _, fun _ => rfl⟩⟩⟩
    · show fn.ntmps ≤ (vals.toArray ++ Array.replicate (fn.ntmps - vals.toArray.size) undef).size
      simp; omega
    · have look : ∀ (ys : List V) (k t : Nat), getO ((ys.zipIdx k).map fun p => (p.2, p.1)) t = if k ≤ t then ys[t - k]? else none := by
        intro ys
        induction ys with
        | nil => intro k t; simp [getO]
        | cons y ys ih =>
          intro k t
          simp only [List.zipIdx_cons, List.map_cons, getO]
          cases hb : Nat.beq t k
          · have hne : t ≠ k := by intro e; subst e; simp at hb
            rw [ih (k + 1) t]
            by_cases h1 : k ≤ t
            · rw [if_pos h1, if_pos (by omega), show t - k = (t - (k + 1)) + 1 by omega]; rfl
            · rw [if_neg h1, if_neg (by omega)]; rfl
          · have := Nat.eq_of_beq_eq_true hb
            subst this
            simp
      unfold get
      rw [look args 0 t, if_pos (Nat.zero_le _), Nat.sub_zero]
      cases ht : args[t]? with
      | none => exact trivial
      | some y =>
        obtain ⟨u, hu, hru⟩ := relL_at args vals t y hr ht
        have hlt : t < vals.length := (List.getElem?_eq_some_iff.1 hu).1
        have e : ((vals.toArray ++ Array.replicate (fn.ntmps - vals.toArray.size) undef).getD t undef) = u := by
          rw [Array.getD_eq_getD_getElem?, Array.getElem?_append_left (by simpa using hlt)]
          simp [hu]
        show Rel w (Lset M ρ H0) w.heap.size ρ y ((vals.toArray ++ Array.replicate (fn.ntmps - vals.toArray.size) undef).getD t undef)
        rw [e]
        exact hru
  have hΓlen : Γ.ρ0.length ≤ H0.length := by show ρ.length ≤ _; rw [hR.len]; exact Nat.le_refl _
  intro b k hb' hr'
  obtain ⟨e, a, cs', w', ⟨F, H, m, rfl, q, ρ1, s'⟩, harr⟩ := h Γ rfl rfl c₀ cs _ w hu ⟨_, s⟩ b k hb' hr'
  refine ⟨e, a, _, w', ?_, harr⟩
  have fin : m = u' ∧ H.take H0.length = Hp ∧ ObsId H0.length Hp ∧ (∃ ys, ResL P F H fn.results.toList ys) → a.defers = [] ∧ ∃ u2, { c₀ with mode := m } :: cs = { c₀ with mode := u2 } :: cs ∧ ∃ v, (Go.results fn a.tmps).run P w' = .ok v w' ∧ (∃ x, Ending.returned v = .returned x) ∧ u2 = u' ∧ ∃ ρ', HR M w' w.heap.size ρ' Hp ∧
      w'.os = w.os ∧ w'.tape = w.tape ∧ w'.output = w.output ∧ Ev w (Lset M ρ H0) w.heap.size ρ w' (Lset M ρ' Hp) w.heap.size ρ' ∧
      (∀ (id : Nat) (ob : Ob) (re : Re) (g : Nat), Hp[id]? = some ob → ob.live = true → ρ'[id]? = some re → re.g = some g → w.heap.size ≤ g ∨ hand ρ H0 g) ∧ (∀ b, b < w.heap.size → ¬ hand ρ H0 b → w'.heap[b]? = w.heap[b]?) := by
    rintro ⟨h1, h2, h3, ys, h4⟩; subst h2
    obtain ⟨v, hv, _⟩ := s'.results h4
    obtain ⟨c1, c2, c3⟩ := s'.cutn H0.length h3 hΓlen
    refine ⟨s'.ds, m, rfl, v, hv, ⟨v, rfl⟩, h1, _, c1, c2.os, c2.tape, c2.output, ⟨c2.size, fun b hlt hL => c2.blk b hlt fun hh => hL (.inr hh), fun b hlt hL hL' => ?_, Nat.le_refl _, c2.rho⟩, fun i o r g h1 h2 h3 h4 => c2.mine i o r g h1 h2 h3 h4, fun b hlt hh => c2.blk b hlt hh⟩
    rcases hL' with hM' | ⟨i, o, r, h1, h2, h3, h4⟩
    · exact hL (.inl hM')
    · rcases c2.mine i o r b h1 h2 h3 h4 with h | h
      · have h' : w.heap.size ≤ b := h
        omega
      · exact hL (.inr h)
  cases e with
  | normal => exact fin q
  | ret => exact fin q
  | _ => exact absurd q (by simp [qRetCl])
end

section
variable {P : Program} {ops : Array Oper} {Q : Exit → Act → List Frame → World → Prop}
def wpOpS (P : Program) (ops : Array Oper) (Q : Exit → Act → List Frame → World → Prop) (i : Nat) (K : Act → List Frame → World → Prop) (a : Act) (cs : List Frame) (w : World) : Prop :=
  match ops[i]? with
  | none => K a cs w
  | some o =>
    if Region.wanted o (yielded ops a.tmps) then
      match (execOp a.eval o).run P w with
      | .ok .recover w' =>
        match recoverD cs with
        | some (v, cs') => K (a.put o.dst v) cs' w'
        | none => K (a.put o.dst .nilIface) cs w'
      | r => o.upon P a (fun a' w' => K a' cs w') (fun e a' w' => Q e a' cs w') r
    else K (a.put o.dst undef) cs w
theorem wpOpsS_cons (i : Nat) (rest : List Nat) (a : Act) (cs : List Frame) (w : World) : wpOpsS P ops Q (i :: rest) a cs w = wpOpS P ops Q i (wpOpsS P ops Q rest) a cs w := by
  cases h : ops[i]? <;> simp only [wpOpsS, wpOpS, h] <;> rfl
theorem wpOpS_mono {i : Nat} {a : Act} {cs : List Frame} {w : World} {K K' : Act → List Frame → World → Prop} (h : ∀ a cs w, K a cs w → K' a cs w) (hh : wpOpS P ops Q i K a cs w) : wpOpS P ops Q i K' a cs w := by
  unfold wpOpS at *
  cases ho : ops[i]? with
  | none => rw [ho] at hh; exact h _ _ _ hh
  | some o =>
    rw [ho] at hh
    simp only at hh ⊢
    split
    · rename_i hw
      rw [if_pos hw] at hh
      generalize (execOp a.eval o).run P w = r at *
      have gen : ∀ r, o.upon P a (fun a' w' => K a' cs w') (fun e a' w' => Q e a' cs w') r → o.upon P a (fun a' w' => K' a' cs w') (fun e a' w' => Q e a' cs w') r := by
        intro r hh
        cases r with
        | ok n w' =>
          cases n <;> simp only [Oper.upon] at hh ⊢ <;>
            first
              | exact h _ _ _ hh
              | exact Calls.mono hh (fun e w'' he => by cases e <;> first | exact h _ _ _ he | exact he)
              | exact Rows.mono hh (fun _ _ he => h _ _ _ he)
        | halt x w' => cases x <;> simp only [Oper.upon] at hh ⊢ <;> exact hh
      cases r with
      | ok n w' =>
        cases n <;> first | exact gen _ hh | skip
        revert hh
        simp only
        cases recoverD cs with
        | none => exact fun hh => h _ _ _ hh
        | some p => exact fun hh => h _ _ _ hh
      | halt x w' => exact gen _ hh
    · rename_i hw
      rw [if_neg hw] at hh
      exact h _ _ _ hh
def AnyS (P : Program) (ops : Array Oper) (Q : Exit → Act → List Frame → World → Prop) : Nat → Array Bool → Act → List Frame → World → Prop
  | 0, listed, a, cs, w => Region.ready .any ops listed = [] ∧ Q .normal a cs w
  | fuel + 1, listed, a, cs, w => (Region.ready .any ops listed = [] → Q .normal a cs w) ∧ ∀ i ∈ Region.ready .any ops listed, wpOpS P ops Q i (AnyS P ops Q fuel (listed.setIfInBounds i true)) a cs w
theorem anyS_sound : ∀ (fuel t : Nat) (listed : Array Bool) (a : Act) (cs : List Frame) (w : World), AnyS P ops Q fuel listed a cs w → wpOpsS P ops Q (Region.linearise.go .any ops fuel t listed []) a cs w := by
  intro fuel
  induction fuel with
  | zero => intro t listed a cs w h; simpa [Region.linearise.go, wpOpsS] using h.2
  | succ fuel ih =>
    intro t listed a cs w h
    obtain ⟨h₀, h₁⟩ := h
    simp only [Region.linearise.go]
    change wpOpsS P ops Q (match (Region.ready .any ops listed)[t % (Region.ready .any ops listed).length]? with
      | some i => Region.linearise.go .any ops fuel (t / (Region.ready .any ops listed).length) (listed.setIfInBounds i true) [i]
      | none => [].reverse) a cs w
    cases hi : (Region.ready .any ops listed)[t % (Region.ready .any ops listed).length]? with
    | none =>
      have hnil : Region.ready .any ops listed = [] := by
        cases hr : Region.ready .any ops listed with
        | nil => rfl
        | cons x xs =>
          rw [hr] at hi
          have hlt : t % (x :: xs).length < (x :: xs).length := Nat.mod_lt _ (by simp)
          simp at hi
          simp at hlt
          omega
      simpa [wpOpsS] using h₀ hnil
    | some i =>
      simp only []
      rw [linearise_go_acc, List.reverse_singleton, List.singleton_append, wpOpsS_cons]
      exact wpOpS_mono (fun a cs w => ih _ _ a cs w) (h₁ i (List.mem_of_getElem? hi))
theorem wpOpS_of {i : Nat} {a : Act} {cs : List Frame} {w : World} {K : Act → List Frame → World → Prop} (hout : ¬ LetsOut (fun e a w => Q e a cs w)) (h : wpOp P ops (fun e a w => Q e a cs w) i (fun a w => K a cs w) a w) : wpOpS P ops Q i K a cs w := by
  unfold wpOp at h
  unfold wpOpS
  cases ho : ops[i]? with
  | none => rw [ho] at h; exact h
  | some o =>
    rw [ho] at h
    simp only at h ⊢
    split
    · rename_i hw
      rw [if_pos hw] at h
      rcases h with h | ⟨_, h⟩
      · unfold Oper.wp at h
        generalize (execOp a.eval o).run P w = r at *
        cases r with
        | ok n w' => cases n <;> first | exact h | exact h.elim
        | halt x w' => exact h
      · exact absurd h hout
    · rename_i hw
      rw [if_neg hw] at h
      exact h
theorem anyS_of {cs : List Frame} (hout : ¬ LetsOut (fun e a w => Q e a cs w)) : ∀ (fuel : Nat) (listed : Array Bool) (a : Act) (w : World), wpAny P .any ops (fun e a w => Q e a cs w) fuel listed a w → AnyS P ops Q fuel listed a cs w
  | 0, _, _, _, h => h
  | fuel + 1, _, _, _, h => ⟨h.1, fun i hi => wpOpS_of hout (wpOp_mono (fun a' w' h' => anyS_of hout fuel _ a' w' h') (h.2 i hi))⟩
theorem wpS_region_any {id : Nat} {a : Act} {cs : List Frame} {w : World} (hm : P.follows .mixedOrders = true) (h : AnyS P ops Q ops.size (Array.replicate ops.size false) a cs { w with drawn := w.drawn + 1 }) : (Code.region id ops true).wpS P Q a cs w := fun b k hb hr => by
  have hl : ∀ t, wpOpsS P ops Q (Region.schedule (P.follows .mixedOrders) ops t) a cs { w with drawn := w.drawn + 1 } := fun t => by
    simp only [Region.schedule, hm, Bool.true_or, if_true]
    exact anyS_sound ops.size t _ a cs _ h
  obtain ⟨e, a', cs', w', q, r⟩ := wp_opsS _ a cs _ (hl (w.tape w.drawn (.order b.fn id))) b k hb hr
  exact ⟨e, a', cs', w', q, .of_steps (.one step_region_draw) r⟩
end
section
variable {P : Program} {Γ : Ctx} {F : Fr} {H : List Ob} {u : FrameMode} {QS : Exit → Fr → List Ob → FrameMode → Prop} {ops : Array Oper}
theorem wpAny_monoQ {Q Q' : Exit → Act → World → Prop} (hq : ∀ e a w, Q e a w → Q' e a w) : ∀ (fuel : Nat) (listed : Array Bool) (a : Act) (w : World), wpAny P .any ops Q fuel listed a w → wpAny P .any ops Q' fuel listed a w
  | 0, _, _, _, h => ⟨h.1, hq _ _ _ h.2⟩
  | fuel + 1, listed, a, w, h => ⟨fun e => hq _ _ _ (h.1 e), fun i hi => by
    have h1 := h.2 i hi
    unfold wpOp at h1 ⊢
    cases ho : ops[i]? with
    | none => rw [ho] at h1; exact wpAny_monoQ hq fuel _ _ _ h1
    | some o =>
      rw [ho] at h1
      simp only at h1 ⊢
      split
      · rename_i hw
        rw [if_pos hw] at h1
        rcases h1 with h1 | ⟨h1, a', w', h2⟩
        · exact .inl (Oper.wp_monoQ (wpAny_monoQ hq fuel _) hq h1)
        · exact .inr ⟨h1, a', w', hq _ _ _ h2⟩
      · rename_i hw
        rw [if_neg hw] at h1
        exact wpAny_monoQ hq fuel _ _ _ h1⟩
def JAS (P : Program) (ops : Array Oper) (fuel : Nat) (listed : Array Bool) (Γ : Ctx) (F : Fr) (H : List Ob) (u : FrameMode) (QS : Exit → Fr → List Ob → FrameMode → Prop) : Prop :=
  ∀ (c0 : Frame) (cs : List Frame) a w, c0.mode = u → St Γ F H a w → AnyS P ops (toQS Γ c0 cs QS) fuel listed a (c0 :: cs) w
theorem jcs_draw {id n : Nat} (hn : ops.size = n) (hm : P.follows .mixedOrders = true) (h : JAS P ops n (Array.replicate n false) Γ F H u QS) : JCS P (.region id ops true) Γ F H u QS := fun c0 cs a w hc ⟨ρ, s⟩ => by
  subst hn
  exact wpS_region_any hm (h c0 cs a { w with drawn := w.drawn + 1 } hc ⟨ρ, s.below ⟨rfl, rfl, rfl, Nat.le_refl _, fun _ _ => rfl⟩⟩)
theorem jas_of {fuel : Nat} {listed : Array Bool} (hno : ∀ F' H', ¬ QS .outgrown F' H' u) (j : JA P ops fuel listed Γ F H (fun e F' H' => QS e F' H' u)) : JAS P ops fuel listed Γ F H u QS := fun c0 cs a w hc s => by
  have hout : ¬ LetsOut (fun e a w => toQS Γ c0 cs QS e a (c0 :: cs) w) := by
    rintro ⟨a', w', F', H', m, e, q, _⟩
    have hm : m = u := by
      injection e with e _
      have := congrArg Frame.mode e
      rw [hc] at this
      exact this.symm
    subst hm
    exact hno _ _ q
  refine anyS_of hout fuel listed a w (wpAny_monoQ (fun e a w q => ?_) fuel listed a w (wpAny_of_X fuel listed a w (j a w s)))
  obtain ⟨F', H', q1, s1⟩ := q
  exact ⟨F', H', u, by subst hc; rfl, q1, s1⟩
def SS (P : Program) (ops : Array Oper) (fuel : Nat) (listed : Array Bool) (Γ : Ctx) (F : Fr) (H : List Ob) (u : FrameMode) (QS : Exit → Fr → List Ob → FrameMode → Prop) (i : Nat) : Prop :=
  ∀ (c0 : Frame) (cs : List Frame) a w, c0.mode = u → St Γ F H a w → wpOpS P ops (toQS Γ c0 cs QS) i (AnyS P ops (toQS Γ c0 cs QS) fuel (listed.setIfInBounds i true)) a (c0 :: cs) w
theorem jas_all {fuel : Nat} {listed : Array Bool} (rs : List Nat) (hr : Region.ready .any ops listed = rs) (hne : rs.isEmpty = false) (h : ∀ i ∈ rs, SS P ops fuel listed Γ F H u QS i) : JAS P ops (fuel + 1) listed Γ F H u QS := fun c0 cs a w hc s =>
  ⟨fun h0 => by rw [hr] at h0; rw [h0] at hne; simp at hne, fun i hi => h i (hr ▸ hi) c0 cs a w hc s⟩
theorem ss_l {fuel : Nat} {listed : Array Bool} {i d : Nat} {op : Op} {T : TypeId} {ps : String} {af : Array Edge} {y : V} (hi : ops[i]? = some ⟨some d, op, T, ps, af, none⟩) (h : LY P Γ op F H y) (hd : d < Γ.N)
    (j : JAS P ops fuel (listed.setIfInBounds i true) Γ ((d, y) :: F) H u QS) : SS P ops fuel listed Γ F H u QS i := fun c0 cs a w hc ⟨ρ, s⟩ => by
  obtain ⟨v, r, hr⟩ := h ρ a w s
  unfold wpOpS
  rw [hi]
  simp only
  rw [if_pos (by simp [Region.wanted]), hr _ _ _ _ _ w (Ext.refl w)]
  exact j c0 cs _ _ hc ⟨ρ, s.put hd r⟩
theorem ss_rec {fuel : Nat} {listed : Array Bool} {i d : Nat} {T : TypeId} {ps : String} {af : Array Edge} {ts : Array TypeId} {v : Value} {u' : FrameMode} (hi : ops[i]? = some ⟨some d, .call { callee := .builtin .recover, args := #[], argTypes := ts }, T, ps, af, none⟩) (hu : recov u = (v, u')) (hd : d < Γ.N)
    (j : JAS P ops fuel (listed.setIfInBounds i true) Γ ((d, .c v) :: F) H u' QS) : SS P ops fuel listed Γ F H u QS i := fun c0 cs a w hc ⟨ρ, s⟩ => by
  subst hc
  unfold wpOpS
  rw [hi]
  simp only
  rw [if_pos (by simp [Region.wanted])]
  have hrun : (execOp a.eval ⟨some d, .call { callee := .builtin .recover, args := #[], argTypes := ts }, T, ps, af, none⟩).run P w = .ok .recover w := by simp [execOp, resolve, invoke, builtin, Sem.run]
  rw [hrun]
  rcases recov_ok c0 cs with ⟨e1, e2⟩ | e1
  · rw [hu] at e2
    injection e2 with e3 e4; subst e3; subst e4
    rw [e1]
    exact j c0 cs _ _ rfl ⟨ρ, s.put hd (y := .c .nilIface) rfl⟩
  · rw [hu] at e1
    rw [e1]
    exact j { c0 with mode := u' } cs _ _ rfl ⟨ρ, s.put hd (y := .c v) rfl⟩
def cloOps (tx te tt fc ti : Nat) (ps : String) : List Oper :=
  [⟨some 3, .call { callee := .builtin .recover, args := #[], argTypes := #[] }, ti, ps, #[], none⟩,
   ⟨some 4, .load tx (.tmp 0), tx, ps, #[], none⟩,
   ⟨some 5, .load te (.tmp 1), te, ps, #[], none⟩,
   ⟨some 6, .call { callee := .value (.func fc), args := #[.tmp 3, .tmp 4, .tmp 5], argTypes := #[ti, tx, te] }, tt, ps, #[⟨0, .data⟩, ⟨1, .data⟩, ⟨2, .data⟩, ⟨0, .chain⟩], none⟩,
   ⟨some 2, .move (.tmp 6), tt, ps, #[⟨3, .data⟩], none⟩,
   ⟨some 7, .extract (.tmp 2) 0, tx, ps, #[⟨4, .data⟩], none⟩,
   ⟨some 8, .extract (.tmp 2) 1, te, ps, #[⟨4, .data⟩, ⟨7, .gcOnly .lateStores⟩], none⟩,
   ⟨none, .store tx (.tmp 0) (.tmp 7), 0, ps, #[⟨5, .data⟩, ⟨3, .chain⟩, ⟨0, .phase⟩, ⟨1, .phase⟩, ⟨2, .phase⟩, ⟨3, .phase⟩, ⟨4, .phase⟩, ⟨5, .phase⟩, ⟨6, .textOnly .lateStores⟩], none⟩,
   ⟨none, .store te (.tmp 1) (.tmp 8), 0, ps, #[⟨6, .data⟩, ⟨7, .chain⟩, ⟨0, .phase⟩, ⟨1, .phase⟩, ⟨2, .phase⟩, ⟨3, .phase⟩, ⟨4, .phase⟩, ⟨5, .phase⟩, ⟨6, .phase⟩, ⟨7, .phase⟩], none⟩]
theorem ja_keepF {fuel : Nat} {listed : Array Bool} {F' : Fr} {Q : Exit → Fr → List Ob → Prop} (h : Sub F' F) (j : JA P ops fuel listed Γ F' H Q) : JA P ops fuel listed Γ F H Q := fun a w s => j a w (s.sub h)
theorem clo_ok {g fc : FuncId} {fn cfn : Func} (tx te tt ti : Nat) (ps : String) (i j : Nat) {H H1 H2 : List Ob} {xv ev xv' ev' : V} {u' : FrameMode} {pv : Value}
    (hf : P.funcs[g]? = some fn) (hb : fn.body = some (.region 0 (cloOps tx te tt fc ti ps).toArray true)) (hnt : fn.ntmps = 9) (hres : fn.results = #[])
    (hcf : P.funcs[fc]? = some cfn) (hcb : cfn.body.isSome = true) (hcn : (cfn.name == "runtime.NumGoroutine") = false) (hm : P.follows .mixedOrders = true) (hu : recov u = (pv, u'))
    (hldx : ∀ (Γ : Ctx) (F : Fr), ovO F (.tmp 0) = some (.p i 0 0) → LY P Γ (.load tx (.tmp 0)) F H xv) (hlde : ∀ (Γ : Ctx) (F : Fr), ovO F (.tmp 1) = some (.p j 0 0) → LY P Γ (.load te (.tmp 1)) F H ev)
    (hs : Spec P fc [.c pv, xv, ev] (fun o => o = .ret (.t [xv', ev']))) (hax : ArgV xv xv) (hae : ArgV ev ev)
    (hstx : ∀ (Γ : Ctx) (F : Fr), ovO F (.tmp 0) = some (.p i 0 0) → ovO F (.tmp 7) = some xv' → SY P Γ (.store tx (.tmp 0) (.tmp 7)) F H H1)
    (hste : ∀ (Γ : Ctx) (F : Fr), ovO F (.tmp 1) = some (.p j 0 0) → ovO F (.tmp 8) = some ev' → SY P Γ (.store te (.tmp 1) (.tmp 8)) F H1 H2)
    (hid : ObsId H.length H2) (hlen : H2.length = H.length) : SpecD P g [.p i 0 0, .p j 0 0] H u u' H2 := by
  refine specD_of [(0, .p i 0 0), (1, .p j 0 0)] rfl H.length rfl hf hb (by rw [hnt]; exact Nat.le_of_ble_eq_true rfl) fun Γ hN hds => ?_
  have hd : ∀ d, Nat.blt d 9 = true → d < Γ.N := fun d h => by rw [hN, hnt]; exact Nat.le_of_ble_eq_true h
  have hno : ∀ F' H', ¬ qRetCl P fn H.length u' H2 .outgrown F' H' u' := fun _ _ h => h
  have hQ : ∀ (c : List PanicEntry) (F : Fr) (H' : List Ob) (d : Nat), qRetCl P fn H.length u' H2 (.panic c) F H' u' → qRetCl P fn H.length u' H2 (.panic c) ((d, .u) :: F) H' u' := fun _ _ _ _ h => h
  have tail : ∀ (F : Fr) (listed : Array Bool), listed = #[true, true, true, false, false, false, false, false, false] → Sub [(3, .c pv), (4, xv), (5, ev), (0, .p i 0 0), (1, .p j 0 0)] F → JA P (cloOps tx te tt fc ti ps).toArray 6 listed Γ F H (fun e F' H' => qRetCl P fn H.length u' H2 e F' H' u') := by
    rintro F listed rfl hsub; refine ja_keepF hsub ?_
    refine ja_1 3 (js_call cfn hs rfl hcf hcb hcn (ovL_cons rfl (ovL_cons rfl (ovL_cons rfl ovL_nil))) (.cons .c (.cons hax (.cons hae .nil))) (hd 6 rfl) ?_ (fun ch hp => by simp at hp)) rfl (by kernel_rfl)
    rintro y hy; injection hy with hy; subst hy; refine ja_l 4 (lo_mv (y := .t [xv', ev']) rfl (hd 2 rfl)) rfl (by kernel_rfl) (by kernel_rfl) (by kernel_rfl) hQ ?_; refine ja_l 5 (lo_ext (y := xv') rfl rfl (hd 7 rfl)) rfl (by kernel_rfl) (by kernel_rfl) (by kernel_rfl) hQ ?_; refine ja_l 6 (lo_ext (y := ev') rfl rfl (hd 8 rfl)) rfl (by kernel_rfl) (by kernel_rfl) (by kernel_rfl) hQ ?_
    refine ja_1 7 (js_st (hstx Γ _ rfl rfl) rfl ?_) rfl (by kernel_rfl)
    refine ja_1 8 (js_st (hste Γ _ rfl rfl) rfl ?_) rfl (by kernel_rfl)
    refine ja_nil (by kernel_rfl) ?_
    refine ⟨rfl, by rw [← hlen, List.take_length], hid, [], ?_⟩
    rw [hres]
    exact .nil
  have m1 : ∀ {p : Nat → Prop} {a : Nat}, p a → ∀ i ∈ [a], p i := fun h i hi => by simp at hi; subst hi; exact h
  have m2 : ∀ {p : Nat → Prop} {a b : Nat}, p a → p b → ∀ i ∈ [a, b], p i := fun h1 h2 i hi => by
    simp at hi
    rcases hi with rfl | rfl
    · exact h1
    · exact h2
  have m3 : ∀ {p : Nat → Prop} {a b c : Nat}, p a → p b → p c → ∀ i ∈ [a, b, c], p i := fun h1 h2 h3 i hi => by
    simp at hi
    rcases hi with rfl | rfl | rfl
    · exact h1
    · exact h2
    · exact h3
  refine jcs_draw (n := 9) rfl hm ?_
  refine jas_all [0, 1, 2] (by kernel_rfl) rfl (m3 ?_ ?_ ?_)
  · refine ss_rec rfl hu (hd 3 rfl) (jas_of hno ?_)
    refine ja_l 1 (lo_l (hldx Γ _ rfl) (hd 4 rfl)) rfl (by kernel_rfl) (by kernel_rfl) (by kernel_rfl) hQ ?_; refine ja_l 2 (lo_l (hlde Γ _ rfl) (hd 5 rfl)) rfl (by kernel_rfl) (by kernel_rfl) (by kernel_rfl) hQ ?_
    exact tail _ _ rfl (.cons rfl (.cons rfl (.cons rfl (.cons rfl (.cons rfl .nil)))))
  · refine ss_l rfl (hldx Γ _ rfl) (hd 4 rfl) ?_
    refine jas_all [0, 2] (by kernel_rfl) rfl (m2 ?_ ?_)
    · refine ss_rec rfl hu (hd 3 rfl) (jas_of hno ?_)
      refine ja_l 2 (lo_l (hlde Γ _ rfl) (hd 5 rfl)) rfl (by kernel_rfl) (by kernel_rfl) (by kernel_rfl) hQ ?_
      exact tail _ _ rfl (.cons rfl (.cons rfl (.cons rfl (.cons rfl (.cons rfl .nil)))))
    · refine ss_l rfl (hlde Γ _ rfl) (hd 5 rfl) ?_
      refine jas_all [0] (by kernel_rfl) rfl (m1 ?_)
      refine ss_rec rfl hu (hd 3 rfl) (jas_of hno ?_)
      exact tail _ _ rfl (.cons rfl (.cons rfl (.cons rfl (.cons rfl (.cons rfl .nil)))))
  · refine ss_l rfl (hlde Γ _ rfl) (hd 5 rfl) ?_
    refine jas_all [0, 1] (by kernel_rfl) rfl (m2 ?_ ?_)
    · refine ss_rec rfl hu (hd 3 rfl) (jas_of hno ?_)
      refine ja_l 1 (lo_l (hldx Γ _ rfl) (hd 4 rfl)) rfl (by kernel_rfl) (by kernel_rfl) (by kernel_rfl) hQ ?_
      exact tail _ _ rfl (.cons rfl (.cons rfl (.cons rfl (.cons rfl (.cons rfl .nil)))))
    · refine ss_l rfl (hldx Γ _ rfl) (hd 4 rfl) ?_
      refine jas_all [0] (by kernel_rfl) rfl (m1 ?_)
      refine ss_rec rfl hu (hd 3 rfl) (jas_of hno ?_)
      exact tail _ _ rfl (.cons rfl (.cons rfl (.cons rfl (.cons rfl (.cons rfl .nil)))))
end

section
variable {P : Program} {Γ : Ctx} {F : Fr} {H : List Ob} {Q : Exit → Fr → List Ob → Prop}
def ndiB (P : Program) (T : TypeId) : Bool := match P.underlying T with | some (.interface _) | none => false | _ => true
theorem ly_mi {T : TypeId} {x : Operand} {k : IntKind} {n : Int} (hT : ndiB P T = true) (hx : ovO F x = some (.a [.i k n])) : LY P Γ (.makeInterface T x) F H (.c (.iface T (.agg #[.int k n]))) := fun ρ a w s =>
  ⟨_, rfl, fun _ _ _ _ _ w' _ => by
    have e : (Instr.makeInterface T (a.eval x)).run P w' = .ok (.iface T (.agg #[.int k n])) w' := by
      obtain ⟨us, e0, u, us', e2, h1, h2⟩ := s.ov hx
      have h2' : us' = [] := h2
      have h1' : u = .int k n := h1
      subst h2'; subst h1'; subst e2
      rw [e0]
      unfold ndiB at hT
      cases hu : P.underlying T with
      | none => rw [hu] at hT; cases hT
      | some d => rw [hu] at hT; cases d <;> first | exact (Bool.false_ne_true hT).elim | simp [Instr.makeInterface, run_underlying hu]
    exact run_v e⟩
theorem ly_ta {T X : TypeId} {x : Operand} {k : IntKind} {n : Int} (hT : ndiB P T = true) (hx : ovO F x = some (.c (.iface T (.agg #[.int k n])))) : LY P Γ (.typeAssert x X T true) F H (.t [.a [.i k n], .b true]) := fun ρ a w s =>
  ⟨.tuple #[.agg #[.int k n], .bool true], ⟨_, rfl, _, _, rfl, ⟨_, rfl, _, _, rfl, rfl, rfl⟩, _, _, rfl, rfl, rfl⟩, fun _ _ _ _ _ w' _ => by
    have e : (Instr.typeAssert (a.eval x) X T true).run P w' = .ok (.tuple #[.agg #[.int k n], .bool true]) w' := by
      rw [eval_c s hx]
      unfold ndiB at hT
      cases hu : P.underlying T with
      | none => rw [hu] at hT; cases hT
      | some d => rw [hu] at hT; cases d <;> first | exact (Bool.false_ne_true hT).elim | simp [Instr.typeAssert, run_underlying hu]
    exact run_v e⟩
theorem run_eqi {T : TypeId} {ms : Array (String × TypeId)} (hT : P.underlying T = some (.interface ms)) (v : Value) (b : Bool) (hv : (v = .nilIface ∧ b = true) ∨ (∃ t u, v = .iface t u) ∧ b = false) (w : World) : (binOp .eql T v .nilIface).run P w = .ok (.bool b) w := by
  have h : ∀ d : Nat, (Op.equalIn (d + 1) T v .nilIface).run P w = .ok b w := fun d => by
    rcases hv with ⟨rfl, rfl⟩ | ⟨⟨t, u, rfl⟩, rfl⟩ <;> simp [Op.equalIn, run_underlying hT]
  rcases hv with ⟨rfl, rfl⟩ | ⟨⟨t, u, rfl⟩, rfl⟩
  · simp only [binOp]
    simp [Op.equal, Op.maxDepth, h 9999]
  · simp only [binOp]
    simp [Op.equal, Op.maxDepth, h 9999]
theorem ly_eqi0 {x : Operand} {T T' : TypeId} {ms : Array (String × TypeId)} (hT : P.underlying T = some (.interface ms)) (hx : ovO F x = some (.c .nilIface)) : LY P Γ (.binOp .eql T x (.const .nilIface) T') F H (.b true) :=
  ly_bin (u := .nilIface) (v := .nilIface) (z := .bool true) (fun _ _ _ s => eval_c s hx) (fun _ _ _ s => rfl) (fun w => by simp [eqGuard]) (fun w => run_eqi hT _ _ (.inl ⟨rfl, rfl⟩) w) (fun _ _ _ _ => rfl)
theorem ly_eqi1 {x : Operand} {T T' t : TypeId} {v : Value} {ms : Array (String × TypeId)} (hT : P.underlying T = some (.interface ms)) (hx : ovO F x = some (.c (.iface t v))) : LY P Γ (.binOp .eql T x (.const .nilIface) T') F H (.b false) :=
  ly_bin (u := .iface t v) (v := .nilIface) (z := .bool false) (fun _ _ _ s => eval_c s hx) (fun _ _ _ s => rfl) (fun w => by simp [eqGuard]) (fun w => run_eqi hT _ _ (.inr ⟨⟨_, _, rfl⟩, rfl⟩) w) (fun _ _ _ _ => rfl)
theorem one_c3 {H : List Ob} {a b c : Value} (ha : a.oneCell' = true) (hb : b.oneCell' = true) (hc : c.oneCell' = true) : [V.c a, V.c b, V.c c].all (oneO H) = true := by simp [oneO, oneV, ha, hb, hc]
theorem one_c3V {a b c : Value} (ha : a.oneCell' = true) (hb : b.oneCell' = true) (hc : c.oneCell' = true) : [V.c a, V.c b, V.c c].all oneV = true := by simp [oneV, ha, hb, hc]
def xvOf (ag : Bool) (us : List Value) : V := if ag then .a (us.map V.c) else .c (us.headD undef)
def gave (tg : TypeId) (e : Int) (rec : Bool) : List PanicEntry := [{ v := .iface tg (.agg #[.int .i64 e]), recovered := rec }]
structure Clo (P : Program) (g : FuncId) (tx te n : Nat) (ag : Bool) (tg : TypeId) (zv : V) : Prop where
  shape : ∃ (fn cfn : Func) (fc : FuncId) (tt ti : TypeId) (ps : String), P.funcs[g]? = some fn ∧ fn.body = some (.region 0 (cloOps tx te tt fc ti ps).toArray true) ∧ fn.ntmps = 9 ∧ fn.results = #[] ∧ P.funcs[fc]? = some cfn ∧ cfn.body.isSome = true ∧ (cfn.name == "runtime.NumGoroutine") = false ∧
    (∀ (us : List Value) (ue : Value), us.length = n → (∀ u ∈ us, u.oneCell' = true) → ue.oneCell' = true → Spec P fc [.c .nilIface, xvOf ag us, .c ue] (fun o => o = .ret (.t [xvOf ag us, .c ue]))) ∧
    (∀ (us : List Value) (ue : Value) (e : Int), us.length = n → (∀ u ∈ us, u.oneCell' = true) → ue.oneCell' = true → Spec P fc [.c (.iface tg (.agg #[.int .i64 e])), xvOf ag us, .c ue] (fun o => o = .ret (.t [zv, .i .i64 e])))
  hm : P.follows .mixedOrders = true
  hld : (ag = true ∧ aggB P tx n = true) ∨ (ag = false ∧ n = 1 ∧ oneB P tx = true)
  hsz : (P.info? tx).any (·.size == n) = true
  hle : oneB P te = true
  hz1 : (cellsV zv).length = n
  hz2 : (cellsV zv).all oneV = true
  hz3 : ∀ k, (cellsV zv).all (idB k) = true
theorem xv_cells {ag : Bool} {us : List Value} {n : Nat} (hn : us.length = n) (h : ag = true ∨ (ag = false ∧ n = 1)) : cellsV (xvOf ag us) = us.map V.c := by
  rcases h with rfl | ⟨rfl, rfl⟩
  · rfl
  · match us, hn with
    | [u], _ => rfl
theorem xv_arg {ag : Bool} {us : List Value} : ArgV (xvOf ag us) (xvOf ag us) := by
  cases ag with
  | false => exact .c
  | true =>
    show ArgV (.a (us.map V.c)) (.a (us.map V.c))
    induction us with
    | nil => exact .a0
    | cons u us ih => exact .a1 .c ih
theorem consts_id {Ho Hc : List Ob} (h : Consts Ho Hc) (k : Nat) : ∀ ob ∈ Hc, ∀ y ∈ ob.cs, idB k y = true := fun ob ho y hy => by
  obtain ⟨i, hi⟩ := List.getElem?_of_mem ho
  have hlt : i < Ho.length := by rw [← h.1]; exact (List.getElem?_eq_some_iff.1 hi).1
  obtain ⟨us, e, _⟩ := h.2 i _ (List.getElem?_eq_getElem hlt)
  rw [hi] at e
  injection e with e
  rw [e] at hy
  obtain ⟨u, _, rfl⟩ := List.mem_map.1 hy
  rfl
theorem oneO_of {H : List Ob} : ∀ {y : V}, oneV y = true → oneO H y = true
  | .i _ _, h => h
  | .b _, h => h
  | .s _, h => h
  | .c _, h => h
  | .n _ _ _, h => h
  | .l _ _ _, h => h
  | .q _, h => h
  | .f _ _, h => h
  | .u, h => by cases h
  | .a _, h => by cases h
  | .t _, h => by cases h
  | .p _ _ _, h => by cases h
  | .o _ _ _ _, h => by cases h
theorem all_oneO {H : List Ob} {l : List V} (h : l.all oneV = true) : l.all (oneO H) = true := List.all_eq_true.2 fun y hy => oneO_of (List.all_eq_true.1 h y hy)
variable {g tx te n : Nat} {ag : Bool} {tg : TypeId} {zv : V}
theorem Clo.hag (c : Clo P g tx te n ag tg zv) : ag = true ∨ (ag = false ∧ n = 1) := by rcases c.hld with h | h; exact .inl h.1; exact .inr ⟨h.1, h.2.1⟩
theorem Clo.load (c : Clo P g tx te n ag tg zv) {i : Nat} {us : List Value} (hn : us.length = n) {x : Operand} (hx : ovO F x = some (.p i 0 0)) (hH : H[i]? = some ⟨tx, n, 0, true, us.map V.c⟩) : LY P Γ (.load tx x) F H (xvOf ag us) := by
  rcases c.hld with ⟨rfl, h⟩ | ⟨rfl, rfl, h⟩
  · exact ly_lda h hx hH (takeV_all (by rw [List.length_map, hn])) (by rw [List.length_map, hn])
  · match us, hn with
    | [u], _ => exact ly_ld h hx hH rfl
theorem Clo.ret (c : Clo P g tx te n ag tg zv) {Ho Hc : List Ob} {i j sz : Nat} {cs : List V} {y : V} (hi : Ho[i]? = some ⟨tx, n, 0, true, cs⟩) (hcs : cs.length = n) (hj : Ho[j]? = some ⟨te, sz, 0, true, [y]⟩) (k : Consts Ho Hc) :
    SpecD P g [.p i 0 0, .p j 0 0] Hc .returning .returning Hc := by
  obtain ⟨fn, cfn, fc, tt, ti, ps, h1, h2, h3, h4, h5, h6, h7, h8, h9⟩ := c.shape
  obtain ⟨us, e1, e2, e3⟩ := k.2 i _ hi
  obtain ⟨ue, f1, f2, f3⟩ := k.2 j _ hj
  have e2' : us.length = n := by rw [e2]; exact hcs
  obtain ⟨ux, rfl⟩ : ∃ ux, ue = [ux] := by
    match ue, f2 with
    | [u], _ => exact ⟨u, rfl⟩
  have hux := f3 ux (List.mem_cons_self ..)
  have hsame : ∀ (l : List Ob) (k : Nat) (o : Ob), l[k]? = some o → l.set k o = l := fun l k o h => by
    have hlt := (List.getElem?_eq_some_iff.1 h).1
    have he := (List.getElem?_eq_some_iff.1 h).2
    rw [← he]; exact List.set_getElem_self hlt
  refine clo_ok (H1 := Hc) tx te tt ti ps i j h1 h2 h3 h4 h5 h6 h7 c.hm rfl (fun Γ F hx => c.load e2' hx e1) (fun Γ F hx => ly_ld (y := .c ux) c.hle hx f1 rfl) (h8 us ux e2' e3 hux) xv_arg .c (fun Γ F hx hz => ?_) (fun Γ F hx hz => ?_) (fun ob ho _ y hy => consts_id k _ ob ho y hy) rfl
  · have := sy_store (P := P) (Γ := Γ) (T := tx) (n := n) hx hz e1 c.hsz (by rw [xv_cells e2' c.hag, List.length_map, e2']) (by
      rw [xv_cells e2' c.hag]
      refine List.all_eq_true.2 fun y hy => ?_
      obtain ⟨u, hu, rfl⟩ := List.mem_map.1 hy
      exact e3 u hu) (by rw [List.length_map, e2']; omega)
    rw [xv_cells e2' c.hag, setV_all _ _ rfl, hsame _ _ _ e1] at this
    exact this
  · have := sy_store (P := P) (Γ := Γ) (T := te) (n := 1) hx hz f1 (oneB_size c.hle) rfl (by simp [cellsV, oneO, oneV, hux]) (by simp)
    rw [show cellsV (V.c ux) = [V.c ux] from rfl, show List.map V.c [ux] = [V.c ux] from rfl, setV_all _ _ rfl] at this
    rw [hsame _ _ _ (show Hc[j]? = some ⟨te, sz, 0, true, [V.c ux]⟩ from f1)] at this
    exact this
theorem Clo.pan (c : Clo P g tx te n ag tg zv) {Ho Hc : List Ob} {i j sz : Nat} {cs : List V} {y : V} (hij : i ≠ j) (hi : Ho[i]? = some ⟨tx, n, 0, true, cs⟩) (hcs : cs.length = n) (hj : Ho[j]? = some ⟨te, sz, 0, true, [y]⟩) (k : Consts Ho Hc) (e : Int) :
    SpecD P g [.p i 0 0, .p j 0 0] Hc (.panicking (gave tg e false)) (.panicking (gave tg e true)) ((Hc.set i ⟨tx, n, 0, true, cellsV zv⟩).set j ⟨te, sz, 0, true, [.i .i64 e]⟩) := by
  obtain ⟨fn, cfn, fc, tt, ti, ps, h1, h2, h3, h4, h5, h6, h7, h8, h9⟩ := c.shape
  obtain ⟨us, e1, e2, e3⟩ := k.2 i _ hi
  obtain ⟨ue, f1, f2, f3⟩ := k.2 j _ hj
  have e2' : us.length = n := by rw [e2]; exact hcs
  obtain ⟨ux, rfl⟩ : ∃ ux, ue = [ux] := by
    match ue, f2 with
    | [u], _ => exact ⟨u, rfl⟩
  have hux := f3 ux (List.mem_cons_self ..)
  have f1' : (Hc.set i ⟨tx, n, 0, true, cellsV zv⟩)[j]? = some ⟨te, sz, 0, true, [V.c ux]⟩ := by rw [List.getElem?_set_ne hij]; exact f1
  refine clo_ok (H1 := Hc.set i ⟨tx, n, 0, true, cellsV zv⟩) (xv' := zv) (ev' := .i .i64 e) tx te tt ti ps i j h1 h2 h3 h4 h5 h6 h7 c.hm rfl (fun Γ F hx => c.load e2' hx e1) (fun Γ F hx => ly_ld (y := .c ux) c.hle hx f1 rfl) (h9 us ux e e2' e3 hux) xv_arg .c (fun Γ F hx hz => ?_) (fun Γ F hx hz => ?_) (fun ob ho _ y hy => ?_) (by simp)
  · have := sy_store (P := P) (Γ := Γ) (T := tx) (n := n) hx hz e1 c.hsz c.hz1 (all_oneO c.hz2) (by rw [List.length_map, e2']; omega)
    rw [setV_all _ _ (by rw [List.length_map, e2', c.hz1])] at this
    exact this
  · have := sy_store (P := P) (Γ := Γ) (T := te) (n := 1) hx hz f1' (oneB_size c.hle) rfl rfl (by simp)
    exact this
  · rcases List.mem_or_eq_of_mem_set ho with ho | rfl
    · rcases List.mem_or_eq_of_mem_set ho with ho | rfl
      · exact consts_id k _ ob ho y hy
      · exact List.all_eq_true.1 (c.hz3 _) y hy
    · have hy' : y ∈ [V.i .i64 e] := hy
      simp at hy'; subst hy'; rfl
theorem Clo.fin (c : Clo P g tx te n ag tg zv) {Qf : Exit → Fr → List Ob → Prop} {m i j sz : Nat} {cs : List V} {y : V} (hmH : m ≤ H.length) (hl : (H.take m).all (·.live) = true) (hi : (H.take m)[i]? = some ⟨tx, n, 0, true, cs⟩) (hcs : cs.length = n) (hj : (H.take m)[j]? = some ⟨te, sz, 0, true, [y]⟩)
    (hq : Qf .ret F H) : FinD P Qf g [.p i 0 0, .p j 0 0] m .returning F H :=
  ⟨.returning, H.take m, by simp, rfl, by simp; omega, hmH, List.all_eq_true.1 hl, fun Hc k => ⟨Hc, c.ret hi hcs hj k, by rw [k.1]; simp; omega, fun k => .inl ⟨rfl, rfl⟩⟩, by rw [List.take_append_drop]; exact hq⟩
def noPan (Q : Exit → Fr → List Ob → Prop) : Exit → Fr → List Ob → Prop
  | .panic _, _, _ => False
  | e, F, H => Q e F H
theorem jc_nopan {x : Code} (j : JC P x Γ F H (noPan Q)) : JC P x Γ F H Q := JC_mono (fun e F' H' q => by cases e <;> first | exact q | exact q.elim) j
end

section
variable {P : Program} {Γ : Ctx} {F : Fr} {H : List Ob} {Q : Exit → Fr → List Ob → Prop} {c : Code}
def JR (P : Program) (c : Code) (Γ : Ctx) (Q : Exit → Fr → List Ob → Prop) : Nat → Fr → List Ob → Prop
  | 0, _, _ => False
  | n + 1, F, H => JC P c Γ F H (qThen (JR P c Γ Q n) Q)
end
section
variable {P : Program} {Γ : Ctx} {F : Fr} {H : List Ob} {Q : Exit → Fr → List Ob → Prop}
end

section
variable {P : Program} {Γ : Ctx} {F : Fr} {H : List Ob} {Q : Exit → Fr → List Ob → Prop}
theorem StA.cut' {ρ : List Re} {a : Act} {w : World} (n : Nat) (s : StA Γ ρ F H a w) (hF : F.all (fun p => idB n p.2) = true) (hO : ObsId n (H.take n)) (hΓ : Γ.ρ0.length ≤ n) : StA Γ (ρ.take n) F (H.take n) a w := by
  have at1 : ∀ (i : Nat) (o : Ob), (H.take n)[i]? = some o → i < n ∧ H[i]? = some o := fun i o h => by
    rw [List.getElem?_take] at h
    split at h
    · exact ⟨by assumption, h⟩
    · cases h
  have at2 : ∀ (i : Nat) (r : Re), (ρ.take n)[i]? = some r → ρ[i]? = some r := fun i r h => by
    rw [List.getElem?_take] at h
    split at h
    · exact h
    · cases h
  have lsub : ∀ b, Lset Γ.M (ρ.take n) (H.take n) b → Lset Γ.M ρ H b := by
    rintro b (h | ⟨i, o, r, h1, h2, h3, h4⟩)
    · exact .inl h
    · exact .inr ⟨i, o, r, (at1 i o h1).2, h2, at2 i r h3, h4⟩
  have ev : Ev w (Lset Γ.M ρ H) Γ.w0.heap.size (ρ.take n) w (Lset Γ.M (ρ.take n) (H.take n)) Γ.w0.heap.size (ρ.take n) :=
    ⟨Nat.le_refl _, fun _ _ _ => rfl, fun b _ hn h => hn (lsub b h), Nat.le_refl _, fun i r h => ⟨r, h, Nat.le_refl _, fun _ => rfl⟩⟩
  refine ⟨⟨by simp [s.hr.len], fun i o h1 h2 => ?_, fun i j oi oj ri rj g hij h1 h2 h3 h4 h5 h6 => s.hr.apart i j oi oj ri rj g hij (at1 i oi h1).2 h2 (at1 j oj h3).2 h4 (at2 i ri h5) (at2 j rj h6), fun i o r g h1 h2 h3 => s.hr.foreign i o r g (at1 i o h1).2 h2 (at2 i r h3)⟩, s.n, s.ds, fun t => ?_,
    ⟨s.fro.os, s.fro.tape, s.fro.output, s.fro.size, s.fro.blk, s.fro.old, fun i o r g h1 h2 h3 => s.fro.mine i o r g (at1 i o h1).2 h2 (at2 i r h3), fun i r h => by
      have hi := (List.getElem?_eq_some_iff.1 h).1
      obtain ⟨r2, h1, h2, h3⟩ := s.fro.rho i r h
      exact ⟨r2, by rw [List.getElem?_take, if_pos (by omega)]; exact h1, h2, h3⟩⟩⟩
  · obtain ⟨hin, h1'⟩ := at1 i o h1
    obtain ⟨r, h3, h4⟩ := s.hr.ob i o h1' h2
    refine ⟨r, by rw [List.getElem?_take, if_pos hin]; exact h3, h4.ver, h4.sz, h4.nob, fun g hg => ?_⟩
    obtain ⟨cur, c1, c2, c3, c4, c5⟩ := h4.blk g hg
    exact ⟨cur, c1, c2, c3, c4, fun j y hy => by
      obtain ⟨u, d1, d2, d3⟩ := c5 j y hy
      exact ⟨u, d1, d2, (d3.cut y u (hO o (List.mem_of_getElem? h1) h2 y (List.mem_of_getElem? hy))).ev ev⟩⟩
  · have := s.fr t
    have hid : idB n (get F t) = true := by
      unfold get
      cases e : getO F t with
      | none => rfl
      | some y =>
        have : ∀ (F : Fr) y, F.all (fun p => idB n p.2) = true → getO F t = some y → idB n y = true := by
          intro F
          induction F with
          | nil => intro y _ h; simp [getO] at h
          | cons p F ih =>
            intro y ha h
            simp only [List.all_cons, Bool.and_eq_true] at ha
            simp only [getO] at h
            cases hb : Nat.beq t p.1
            · rw [hb] at h; exact ih y ha.2 h
            · rw [hb] at h; injection h with h; rw [← h]; exact ha.1
        exact this F y hF e
    exact (this.cut _ _ hid).ev ev
theorem jc_loopDD {c : Code} {G : Type} (n : Nat) (C : G → Prop) (m : G → Fr) (Hg : G → List Ob) (μ : G → Nat) (g0 : G) (h0 : C g0) (hF : Says F (m g0)) (hH : H = Hg g0) (hΓ : Γ.ρ0.length ≤ n) (hFn : F.all (fun p => idB n p.2) = true)
    (hm : ∀ g, C g → (m g).all (fun p => idB n p.2) = true) (hO : ∀ g, C g → ObsId n (Hg g))
    (round : ∀ g, C g → JC P c Γ (m g ++ F) (Hg g) (qThen (fun F' H' => ∃ g', C g' ∧ μ g' < μ g ∧ H'.take n = Hg g' ∧ Cov F' (m g') F) Q)) : JC P (.loop c) Γ F H Q :=
  jc_loop C (fun g => m g ++ F) Hg μ g0 h0 (fun a w s => hH ▸ s.cov (cov_start hF)) fun g hg =>
    JC_mono (fun e F' H' q => by
      cases e with
      | normal =>
        obtain ⟨g', h1, h2, h3, h4⟩ := q
        refine ⟨g', h1, h2, fun a w s => ?_⟩
        obtain ⟨ρ, s'⟩ := s.cov h4
        exact ⟨_, h3 ▸ s'.cut' n (by rw [List.all_append, hFn, hm g' h1]; rfl) (by rw [h3]; exact hO g' h1) hΓ⟩
      | _ => exact q) (round g hg)
end

section
variable {P : Program} {Γ : Ctx} {F : Fr} {H : List Ob} {Q : Exit → Fr → List Ob → Prop}
theorem zmv {ops : Array Oper} {rest : List Oper} {d : Nat} {x : Operand} {T : TypeId} {ps : String} {af : Array Edge} {y : V} (h : ovO F x = some y) (hd : d < Γ.N) (j : JO P ops rest Γ ((d, y) :: F) H Q) : JO P ops (⟨some d, .move x, T, ps, af, none⟩ :: rest) Γ F H Q := jo_l (ly_mv h) hd j
theorem zas {ops : Array Oper} {rest : List Oper} {d : Nat} {x : Operand} {T : TypeId} {ps : String} {af : Array Edge} {y : V} (h : ovO F x = some y) (hd : d < Γ.N) (j : JO P ops rest Γ ((d, y) :: F) H Q) : JO P ops (⟨some d, .assign x, T, ps, af, none⟩ :: rest) Γ F H Q := jo_l (ly_as h) hd j
theorem zsr {id : Nat} {l : List Oper} {y : Code} (h : JO P l.toArray l Γ F H (qThen (fun F' H' => JC P y Γ F' H' Q) Q)) : JC P (.seq (.region id l.toArray false) y) Γ F H Q := jc_seq (jc_region h)
theorem zal {ops : Array Oper} {fuel : Nat} {listed : Array Bool} (i : Nat) {st : Bool} {o : Oper} {d : Nat} {y : V} (h : LO P ops st Γ o d F H y) (hi : ops[i]? = some o) (j : JA P ops fuel (listed.setIfInBounds i true) Γ ((d, y) :: F) H Q) (hs : Region.noSelect ops = true := by kernel_rfl) (hr : (Region.ready .any ops listed).contains i = true := by kernel_rfl) (hf : freeX st ops listed i = true := by kernel_rfl) (hQ : ∀ c F H d, Q (.panic c) F H → Q (.panic c) ((d, .u) :: F) H := by exact fun _ _ _ _ h => h) : JA P ops (fuel + 1) listed Γ F H Q := ja_l i h hi hs hr hf hQ j
theorem zal2 {ops : Array Oper} {fuel : Nat} {listed : Array Bool} (i : Nat) (D : List Nat) {st : Bool} {o : Oper} {d : Nat} {y : V} (h : LO P ops st Γ o d F H y) (hi : ops[i]? = some o) (j : JA P ops fuel (listed.setIfInBounds i true) Γ ((d, y) :: F) H Q) (hs : Region.noSelect ops = true := by kernel_rfl) (hr : (Region.ready .any ops listed).contains i = true := by kernel_rfl) (hf : freeX2 st ops listed i D = true := by kernel_rfl) (hdp : depX ops listed i D = true := by kernel_rfl) (hQ : ∀ c F H d, Q (.panic c) F H → Q (.panic c) ((d, .u) :: F) H := by exact fun _ _ _ _ h => h) : JA P ops (fuel + 1) listed Γ F H Q := ja_l2 i D h hi hs hr hf hdp hQ j
theorem zlb {a b : Nat} (h : Nat.ble a b = true) : a ≤ b := Nat.le_of_ble_eq_true h
end

def tN (l : List Int) : Nat → Nat
  | 0 => 0
  | k + 1 => if l.getD k 0 = 0 then tN l k else k + 1
def trm (l : List Int) : List Int := l.take (tN l l.length)
theorem tN_le (l : List Int) : ∀ k, tN l k ≤ k
  | 0 => Nat.le_refl _
  | k + 1 => by simp only [tN]; split <;> have := tN_le l k <;> omega
theorem tN_down {l : List Int} {k : Nat} (h0 : 0 < k) (h : l.getD (k - 1) 0 = 0) : tN l (k - 1) = tN l k := by
  obtain ⟨j, rfl⟩ : ∃ j, k = j + 1 := ⟨k - 1, by omega⟩
  simp only [Nat.add_sub_cancel] at h ⊢
  simp only [tN]
  rw [if_pos h]
theorem tN_stop {l : List Int} {k : Nat} (h0 : 0 < k) (h : ¬ l.getD (k - 1) 0 = 0) : tN l k = k := by
  obtain ⟨j, rfl⟩ : ∃ j, k = j + 1 := ⟨k - 1, by omega⟩
  simp only [Nat.add_sub_cancel] at h
  simp only [tN]
  rw [if_neg h]
theorem tN_0 {l : List Int} {k : Nat} (h : ¬ 0 < k) : tN l k = k := by
  have : k = 0 := by omega
  subst this; rfl
theorem trm_len (l : List Int) : (trm l).length ≤ l.length := by unfold trm; rw [List.length_take]; omega
theorem getD_take {l : List Int} {k i : Nat} (h : i < k) : (l.take k).getD i 0 = l.getD i 0 := by
  rw [List.getD_eq_getElem?_getD, List.getD_eq_getElem?_getD, List.getElem?_take, if_pos h]
def u64s (l : List Int) : Prop := ∀ x ∈ l, 0 ≤ x ∧ x < 18446744073709551616
theorem u64s_trm {l : List Int} (h : u64s l) : u64s (trm l) := fun x hx => h x (List.mem_of_mem_take hx)
theorem u64s_at {l : List Int} (h : u64s l) {i : Nat} (hi : i < l.length) : 0 ≤ l.getD i 0 ∧ l.getD i 0 < 18446744073709551616 := by
  rw [List.getD_eq_getElem?_getD, List.getElem?_eq_getElem hi]; exact h _ (List.getElem_mem hi)
theorem u64s_getD {l : List Int} (h : u64s l) (i : Nat) : 0 ≤ l.getD i 0 ∧ l.getD i 0 < 18446744073709551616 := by
  by_cases hi : i < l.length
  · exact u64s_at h hi
  · rw [List.getD_eq_getElem?_getD, List.getElem?_eq_none (by omega)]; exact ⟨by decide, by decide⟩
def bl : Nat → Nat → Nat
  | 0, _ => 0
  | f + 1, n => if n = 0 then 0 else 1 + bl f (n / 2)
theorem bl_le : ∀ f n, bl f n ≤ f
  | 0, _ => Nat.le_refl _
  | f + 1, n => by simp only [bl]; split <;> have := bl_le f (n / 2) <;> omega
theorem bl_fuel : ∀ (f d n : Nat), n < 2 ^ f → bl (f + d) n = bl f n
  | 0, d, n, h => by
    have : n = 0 := by simpa using h
    subst this
    cases d <;> simp [bl]
  | f + 1, d, n, h => by
    rw [show f + 1 + d = (f + d) + 1 by omega]
    simp only [bl]
    split
    · rfl
    · rw [bl_fuel f d (n / 2) (by rw [Nat.pow_succ] at h; omega)]
theorem bl_shift : ∀ (k f n : Nat), 2 ^ k ≤ n → bl (k + f) n = k + bl f (n / 2 ^ k)
  | 0, f, n, _ => by simp
  | k + 1, f, n, h => by
    have h2 : 2 ^ (k + 1) = 2 ^ k * 2 := Nat.pow_succ ..
    have hp : 0 < 2 ^ k := Nat.two_pow_pos k
    rw [show k + 1 + f = (k + f) + 1 by omega]
    simp only [bl]
    rw [if_neg (by omega), bl_shift k f (n / 2) (by omega), h2, Nat.mul_comm, ← Nat.div_div_eq_div_mul]
    omega
theorem bl64_shift {k n : Nat} (hk : k ≤ 64) (h : 2 ^ k ≤ n) (hn : n < 2 ^ 64) : bl 64 n = k + bl 64 (n / 2 ^ k) := by
  have h1 := bl_shift k (64 - k) n h
  rw [show k + (64 - k) = 64 by omega] at h1
  rw [h1]
  have h2 : n / 2 ^ k < 2 ^ (64 - k) := by
    rw [Nat.div_lt_iff_lt_mul (Nat.two_pow_pos k), ← Nat.pow_add, show 64 - k + k = 64 by omega]; exact hn
  have h3 := bl_fuel (64 - k) k _ h2
  rw [show 64 - k + k = 64 by omega] at h3
  rw [h3]
def lenTab : ByteArray := ⟨((List.range 256).map fun i => (bl 8 i).toUInt8).toArray⟩
theorem lenTab_at {i : Nat} (h : i < 256) : byteAt lenTab i = (bl 64 i : Int) := by
  have key : ∀ j : Fin 256, byteAt lenTab j.val = (bl 64 j.val : Int) := by decide +kernel
  exact key ⟨i, h⟩
theorem shr_nat {n k b : Nat} {kk : Int} (h : 2 ^ min kk.toNat b = k) : ((n : Int)).fdiv (2 ^ min kk.toNat b) = ((n / k : Nat) : Int) := by
  have : ((2 : Int) ^ min kk.toNat b) = ((k : Nat) : Int) := by rw [← h]; norm_cast
  rw [this]
  exact (Int.ofNat_fdiv n k).symm
def lenN (l : List Int) : Nat := if (trm l).length = 0 then 0 else 64 * ((trm l).length - 1) + bl 64 ((trm l).getD ((trm l).length - 1) 0).toNat
theorem lenN_le (l : List Int) : lenN l ≤ 64 * l.length := by
  unfold lenN
  have h1 := trm_len l
  split
  · omega
  · have := bl_le 64 ((trm l).getD ((trm l).length - 1) 0).toNat
    omega
def cmpN (a b : List Int) : Nat → Int
  | 0 => 0
  | k + 1 => if a.getD k 0 < b.getD k 0 then -1 else if b.getD k 0 < a.getD k 0 then 1 else cmpN a b k
def cmpL (a b : List Int) : Int := if a.length < b.length then -1 else if b.length < a.length then 1 else cmpN a b a.length
def adN (a b : List Int) : Nat → List Int × Int
  | 0 => ([], 0)
  | i + 1 => ((adN a b i).1 ++ [(a.getD i 0 + b.getD i 0 + (adN a b i).2) % 18446744073709551616], (a.getD i 0 + b.getD i 0 + (adN a b i).2) / 18446744073709551616)
theorem adN_len (a b : List Int) : ∀ i, (adN a b i).1.length = i
  | 0 => rfl
  | i + 1 => by simp only [adN, List.length_append, adN_len a b i]; rfl
theorem adN_c {a b : List Int} (ha : u64s a) (hb : u64s b) : ∀ i, 0 ≤ (adN a b i).2 ∧ (adN a b i).2 ≤ 1
  | 0 => ⟨Int.le_refl 0, (by decide : (0 : Int) ≤ 1)⟩
  | i + 1 => by
    have h1 := u64s_getD ha i
    have h2 := u64s_getD hb i
    have h3 := adN_c ha hb i
    simp only [adN]
    omega
theorem adN_u {a b : List Int} : ∀ i, u64s (adN a b i).1
  | 0 => by intro x hx; cases hx
  | i + 1 => by
    intro x hx
    simp only [adN, List.mem_append, List.mem_singleton] at hx
    rcases hx with hx | hx
    · exact adN_u i x hx
    · subst hx; omega
def sbN (a b : List Int) : Nat → List Int × Int
  | 0 => ([], 0)
  | i + 1 => ((sbN a b i).1 ++ [if a.getD i 0 < b.getD i 0 + (sbN a b i).2 then a.getD i 0 - b.getD i 0 - (sbN a b i).2 + 18446744073709551616 else a.getD i 0 - b.getD i 0 - (sbN a b i).2], if a.getD i 0 < b.getD i 0 + (sbN a b i).2 then 1 else 0)
theorem sbN_len (a b : List Int) : ∀ i, (sbN a b i).1.length = i
  | 0 => rfl
  | i + 1 => by simp only [sbN, List.length_append, sbN_len a b i]; rfl
theorem sbN_c (a b : List Int) : ∀ i, 0 ≤ (sbN a b i).2 ∧ (sbN a b i).2 ≤ 1
  | 0 => ⟨Int.le_refl 0, (by decide : (0 : Int) ≤ 1)⟩
  | i + 1 => by simp only [sbN]; split <;> decide
theorem sbN_u {a b : List Int} (ha : u64s a) (hb : u64s b) : ∀ i, u64s (sbN a b i).1
  | 0 => by intro x hx; cases hx
  | i + 1 => by
    have h1 := u64s_getD ha i
    have h2 := u64s_getD hb i
    have h3 := sbN_c a b i
    intro x hx
    simp only [sbN, List.mem_append, List.mem_singleton] at hx
    rcases hx with hx | hx
    · exact sbN_u ha hb i x hx
    · subst hx; split <;> omega
def fillI (l : List Int) (n : Nat) : List Int := l ++ List.replicate (n - l.length) 0
theorem fillI_len {l : List Int} {n : Nat} (h : l.length ≤ n) : (fillI l n).length = n := by unfold fillI; rw [List.length_append, List.length_replicate]; omega
theorem fillI_set {l : List Int} {n : Nat} {v : Int} (h : l.length < n) : (fillI l n).set l.length v = fillI (l ++ [v]) n := by
  unfold fillI
  obtain ⟨m, hm⟩ : ∃ m, n - l.length = m + 1 := ⟨n - l.length - 1, by omega⟩
  rw [hm, List.replicate_succ, List.set_append_right _ _ (Nat.le_refl _), Nat.sub_self, List.set_cons_zero, List.length_append, List.length_singleton, show n - (l.length + 1) = m by omega]
  simp
theorem fillI_full {l : List Int} {n : Nat} (h : l.length = n) : fillI l n = l := by unfold fillI; rw [h, Nat.sub_self]; simp
theorem getD_ge {l : List Int} {i : Nat} (h : l.length ≤ i) : l.getD i 0 = 0 := by rw [List.getD_eq_getElem?_getD, List.getElem?_eq_none h]; rfl
theorem cmpN_lt {a b : List Int} {k : Nat} (h0 : 0 < k) (h : a.getD (k - 1) 0 < b.getD (k - 1) 0) : cmpN a b k = -1 := by
  obtain ⟨j, rfl⟩ : ∃ j, k = j + 1 := ⟨k - 1, by omega⟩
  simp only [Nat.add_sub_cancel] at h
  simp only [cmpN]; rw [if_pos h]
theorem cmpN_gt {a b : List Int} {k : Nat} (h0 : 0 < k) (h : b.getD (k - 1) 0 < a.getD (k - 1) 0) : cmpN a b k = 1 := by
  obtain ⟨j, rfl⟩ : ∃ j, k = j + 1 := ⟨k - 1, by omega⟩
  simp only [Nat.add_sub_cancel] at h
  simp only [cmpN]; rw [if_neg (by omega), if_pos h]
theorem cmpN_eq {a b : List Int} {k : Nat} (h0 : 0 < k) (h1 : ¬ a.getD (k - 1) 0 < b.getD (k - 1) 0) (h2 : ¬ b.getD (k - 1) 0 < a.getD (k - 1) 0) : cmpN a b (k - 1) = cmpN a b k := by
  obtain ⟨j, rfl⟩ : ∃ j, k = j + 1 := ⟨k - 1, by omega⟩
  simp only [Nat.add_sub_cancel] at h1 h2 ⊢
  simp only [cmpN]; rw [if_neg h1, if_neg h2]
theorem fill_ad {X Y : List Int} {i n : Nat} (h : i < n) : (fillI (adN X Y i).1 n).set ((0 + i) * 1) ((X.getD i 0 + Y.getD i 0 + (adN X Y i).2) % 18446744073709551616) = fillI (adN X Y (i + 1)).1 n := by
  rw [Nat.zero_add, Nat.mul_one]
  have := fillI_set (l := (adN X Y i).1) (n := n) (v := (X.getD i 0 + Y.getD i 0 + (adN X Y i).2) % 18446744073709551616) (by rw [adN_len]; exact h)
  rw [adN_len] at this
  exact this
theorem fill_sb {X Y : List Int} {i n : Nat} (h : i < n) : (fillI (sbN X Y i).1 n).set ((0 + i) * 1) (if X.getD i 0 < Y.getD i 0 + (sbN X Y i).2 then X.getD i 0 - Y.getD i 0 - (sbN X Y i).2 + 18446744073709551616 else X.getD i 0 - Y.getD i 0 - (sbN X Y i).2) = fillI (sbN X Y (i + 1)).1 n := by
  rw [Nat.zero_add, Nat.mul_one]
  have := fillI_set (l := (sbN X Y i).1) (n := n) (v := if X.getD i 0 < Y.getD i 0 + (sbN X Y i).2 then X.getD i 0 - Y.getD i 0 - (sbN X Y i).2 + 18446744073709551616 else X.getD i 0 - Y.getD i 0 - (sbN X Y i).2) (by rw [sbN_len]; exact h)
  rw [sbN_len] at this
  exact this
theorem fill_last {l : List Int} {n : Nat} {v : Int} (h : l.length = n) : (fillI l (n + 1)).set ((0 + n) * 1) v = l ++ [v] := by
  rw [Nat.zero_add, Nat.mul_one]
  subst h
  rw [fillI_set (by omega), fillI_full (by simp)]
def swL (a b : List Int) : List Int × List Int := if a.length < b.length then (b, a) else (a, b)
def sumL (a b : List Int) : List Int := (adN (swL (trm a) (trm b)).1 (swL (trm a) (trm b)).2 (swL (trm a) (trm b)).1.length).1 ++ [(adN (swL (trm a) (trm b)).1 (swL (trm a) (trm b)).2 (swL (trm a) (trm b)).1.length).2]
def difL (a b : List Int) : List Int := (sbN (trm a) (trm b) (trm a).length).1
theorem u64s_app1 {l : List Int} {v : Int} (h : u64s l) (h0 : 0 ≤ v) (h1 : v < 18446744073709551616) : u64s (l ++ [v]) := fun x hx => by
  rcases List.mem_append.1 hx with hx | hx
  · exact h x hx
  · rw [List.mem_singleton] at hx; subst hx; exact ⟨h0, h1⟩
def dig (l : List Int) : List Int := l.flatMap fun v => [v % 4294967296, v / 4294967296]
theorem dig_len (l : List Int) : (dig l).length = 2 * l.length := by
  induction l with
  | nil => rfl
  | cons v l ih => simp only [dig, List.flatMap_cons, List.length_append, List.length_cons, List.length_nil] at ih ⊢; omega
theorem dig_snoc {l : List Int} {i : Nat} (h : i < l.length) : dig (l.take (i + 1)) = dig (l.take i) ++ [l.getD i 0 % 4294967296, l.getD i 0 / 4294967296] := by
  rw [List.take_succ_eq_append_getElem h, List.getD_eq_getElem?_getD, List.getElem?_eq_getElem h]
  unfold dig
  rw [List.flatMap_append]
  rfl
def lims : List Int → List Int
  | [] => []
  | [x] => [x]
  | x :: y :: r => IntKind.u64.wrap (x + IntKind.u64.wrap (y * 4294967296)) :: lims r
theorem drop_cons' {l : List Int} {i : Nat} (h : i < l.length) : l.drop i = l.getD i 0 :: l.drop (i + 1) := by
  rw [List.drop_eq_getElem_cons h, List.getD_eq_getElem?_getD, List.getElem?_eq_getElem h]; rfl
theorem u64s1 {v : Int} (h0 : 0 ≤ v) (h1 : v < 18446744073709551616) : u64s [v] := fun x hx => by rw [List.mem_singleton] at hx; subst hx; exact ⟨h0, h1⟩
theorem wrap_u64' {m r : Int} (h1 : 0 ≤ r) (h2 : r < 18446744073709551616) (h : m = r - 18446744073709551616) : IntKind.u64.wrap m = r := by
  subst h
  simp only [IntKind.wrap, IntKind.bits, IntKind.signed] <;> simp <;> omega


def Bs : Int := 18446744073709551616
def vl : List Int → Int
  | [] => 0
  | x :: l => x + Bs * vl l
def pB : Nat → Int
  | 0 => 1
  | k + 1 => Bs * pB k
theorem pB_pos : ∀ k, 0 < pB k
  | 0 => by decide
  | k + 1 => by simp only [pB]; exact Int.mul_pos (by decide) (pB_pos k)
theorem pB_add : ∀ a b, pB (a + b) = pB a * pB b
  | 0, b => by simp [pB]
  | a + 1, b => by rw [show a + 1 + b = (a + b) + 1 by omega]; simp only [pB]; rw [pB_add a b, Int.mul_assoc]
theorem vl_app : ∀ a b : List Int, vl (a ++ b) = vl a + pB a.length * vl b
  | [], b => by simp [vl, pB]
  | x :: a, b => by
    simp only [List.cons_append, vl, List.length_cons, pB]
    rw [vl_app a b, Int.mul_add, Int.mul_assoc, Int.add_assoc]
theorem vl_nonneg : ∀ {l : List Int}, u64s l → 0 ≤ vl l
  | [], _ => Int.le_refl _
  | x :: l, h => by
    have h1 := (h x (List.mem_cons_self ..)).1
    have h2 := vl_nonneg (l := l) fun y hy => h y (List.mem_cons_of_mem _ hy)
    simp only [vl]
    have := Int.mul_nonneg (show (0 : Int) ≤ Bs by decide) h2
    omega
theorem vl_lt : ∀ {l : List Int}, u64s l → vl l < pB l.length
  | [], _ => by decide
  | x :: l, h => by
    have h1 := (h x (List.mem_cons_self ..)).2
    have h2 := vl_lt (l := l) fun y hy => h y (List.mem_cons_of_mem _ hy)
    simp only [vl, List.length_cons, pB]
    have h3 : vl l + 1 ≤ pB l.length := h2
    have h4 := Int.mul_le_mul_of_nonneg_left h3 (show (0 : Int) ≤ Bs by decide)
    rw [Int.mul_add, Int.mul_one] at h4
    have h5 : x < Bs := h1
    omega
theorem vl_zeros (n : Nat) : vl (List.replicate n 0) = 0 := by
  induction n with
  | zero => rfl
  | succ n ih => rw [List.replicate_succ]; simp [vl, ih]
def vk (l : List Int) (k : Nat) : Int := vl (l.take k)
theorem vk_0 (l : List Int) : vk l 0 = 0 := by unfold vk; simp [vl]
theorem vk_all {l : List Int} {k : Nat} (h : l.length ≤ k) : vk l k = vl l := by unfold vk; rw [List.take_of_length_le h]
theorem vk_succ (l : List Int) (k : Nat) : vk l (k + 1) = vk l k + pB k * l.getD k 0 := by
  unfold vk
  by_cases h : k < l.length
  · rw [List.take_succ_eq_append_getElem h, vl_app, List.length_take, Nat.min_eq_left (by omega), List.getD_eq_getElem?_getD, List.getElem?_eq_getElem h]
    simp [vl]
  · rw [List.take_of_length_le (by omega), List.take_of_length_le (by omega), getD_ge (by omega)]
    simp
theorem vk_tN (l : List Int) : ∀ k, k ≤ l.length → vk l (tN l k) = vk l k
  | 0, _ => rfl
  | k + 1, h => by
    simp only [tN]
    split
    · rename_i h0
      rw [vk_tN l k (by omega), vk_succ, h0, Int.mul_zero, Int.add_zero]
    · rfl
theorem vl_trm (l : List Int) : vl (trm l) = vl l := by
  have := vk_tN l l.length (Nat.le_refl _)
  rw [vk_all (Nat.le_refl _)] at this
  exact this
theorem adN_val (a b : List Int) : ∀ i, vl (adN a b i).1 + pB i * (adN a b i).2 = vk a i + vk b i
  | 0 => by simp [adN, vl, vk_0, pB]
  | i + 1 => by
    have ih := adN_val a b i
    simp only [adN]
    rw [vl_app, adN_len, vk_succ, vk_succ]
    simp only [vl, pB]
    have e := Int.emod_add_mul_ediv (a.getD i 0 + b.getD i 0 + (adN a b i).2) 18446744073709551616
    generalize hs : a.getD i 0 + b.getD i 0 + (adN a b i).2 = s at *
    generalize hq : s / 18446744073709551616 = q at *
    generalize hr : s % 18446744073709551616 = r at *
    have hB : Bs = 18446744073709551616 := rfl
    rw [Int.mul_zero, Int.add_zero, hB, Int.mul_comm 18446744073709551616 (pB i), Int.mul_assoc]
    have e2 : pB i * r + pB i * (18446744073709551616 * q) = pB i * s := by rw [← Int.mul_add, e]
    have e3 : pB i * s = pB i * a.getD i 0 + pB i * b.getD i 0 + pB i * (adN a b i).2 := by rw [← hs, Int.mul_add, Int.mul_add]
    omega
theorem sbN_val (a b : List Int) : ∀ i, vl (sbN a b i).1 - pB i * (sbN a b i).2 = vk a i - vk b i
  | 0 => by simp [sbN, vl, vk_0, pB]
  | i + 1 => by
    have ih := sbN_val a b i
    simp only [sbN]
    rw [vl_app, sbN_len, vk_succ, vk_succ]
    simp only [vl, pB]
    have hB : Bs = 18446744073709551616 := rfl
    rw [Int.mul_zero, Int.add_zero, hB, Int.mul_comm 18446744073709551616 (pB i), Int.mul_assoc]
    split
    · rw [Int.mul_one, Int.mul_add, Int.mul_sub, Int.mul_sub]; omega
    · rw [Int.mul_sub, Int.mul_sub]; simp; omega
theorem vl_swL (a b : List Int) : (swL a b).2.length ≤ (swL a b).1.length ∧ vl (swL a b).1 + vl (swL a b).2 = vl a + vl b := by
  unfold swL
  split
  · exact ⟨by show a.length ≤ b.length; omega, by show vl b + vl a = _; omega⟩
  · exact ⟨by show b.length ≤ a.length; omega, rfl⟩
theorem vl_sumL (a b : List Int) : vl (sumL a b) = vl a + vl b := by
  have h := adN_val (swL (trm a) (trm b)).1 (swL (trm a) (trm b)).2 (swL (trm a) (trm b)).1.length
  obtain ⟨h1, h2⟩ := vl_swL (trm a) (trm b)
  rw [vk_all (Nat.le_refl _), vk_all h1, h2, vl_trm, vl_trm] at h
  unfold sumL
  rw [vl_app, adN_len]
  simp only [vl]
  rw [Int.mul_zero, Int.add_zero]
  exact h
def tpd (l : List Int) : Prop := l ≠ [] → l.getD (l.length - 1) 0 ≠ 0
theorem tN_top (l : List Int) : ∀ k, 0 < tN l k → l.getD (tN l k - 1) 0 ≠ 0
  | 0, h => by simp [tN] at h
  | k + 1, h => by
    simp only [tN] at h ⊢
    split
    · rename_i h0; rw [if_pos h0] at h; exact tN_top l k h
    · rename_i h0; exact h0
theorem trm_length (l : List Int) : (trm l).length = tN l l.length := by unfold trm; rw [List.length_take, Nat.min_eq_left (tN_le _ _)]
theorem tpd_trm (l : List Int) : tpd (trm l) := fun hne => by
  have hl := trm_length l
  have hpos : 0 < tN l l.length := by
    rcases Nat.eq_zero_or_pos (tN l l.length) with h | h
    · exact absurd (List.eq_nil_of_length_eq_zero (hl.trans h)) hne
    · exact h
  rw [hl]
  unfold trm
  rw [getD_take (by omega)]
  exact tN_top l _ hpos
theorem trm_id {l : List Int} (h : tpd l) : trm l = l := by
  unfold trm
  by_cases h0 : l = []
  · subst h0; rfl
  · have hp : 0 < l.length := List.length_pos_iff.2 h0
    rw [tN_stop hp (h h0), List.take_length]
theorem vl_ge {l : List Int} (hu : u64s l) (ht : tpd l) (h0 : l ≠ []) : pB (l.length - 1) ≤ vl l := by
  have hp : 0 < l.length := List.length_pos_iff.2 h0
  obtain ⟨k, hk⟩ : ∃ k, l.length = k + 1 := ⟨l.length - 1, by omega⟩
  have h1 : vl l = vk l (k + 1) := by rw [vk_all (by omega)]
  rw [h1, vk_succ, hk, Nat.add_sub_cancel]
  have h2 := ht h0
  rw [hk, Nat.add_sub_cancel] at h2
  have h3 := u64s_at hu (i := k) (by omega)
  have h4 : 0 ≤ vk l k := vl_nonneg fun x hx => hu x (List.mem_of_mem_take hx)
  have h5 : pB k * 1 ≤ pB k * l.getD k 0 := Int.mul_le_mul_of_nonneg_left (by omega) (Int.le_of_lt (pB_pos k))
  omega
theorem pB_mono {a b : Nat} (h : a ≤ b) : pB a ≤ pB b := by
  obtain ⟨c, rfl⟩ : ∃ c, b = a + c := ⟨b - a, by omega⟩
  rw [pB_add]
  have h1 := pB_pos c
  have h2 := Int.mul_le_mul_of_nonneg_left (show 1 ≤ pB c by omega) (Int.le_of_lt (pB_pos a))
  omega
theorem cmpN_val {a b : List Int} (ha : u64s a) (hb : u64s b) : ∀ k, (cmpN a b k = 0 ∧ vk a k = vk b k) ∨ (cmpN a b k = -1 ∧ vk a k < vk b k) ∨ (cmpN a b k = 1 ∧ vk b k < vk a k)
  | 0 => .inl ⟨rfl, by rw [vk_0, vk_0]⟩
  | k + 1 => by
    have ih := cmpN_val ha hb k
    simp only [cmpN]
    rw [vk_succ, vk_succ]
    have a1 : 0 ≤ vk a k := vl_nonneg fun x hx => ha x (List.mem_of_mem_take hx)
    have b1 : 0 ≤ vk b k := vl_nonneg fun x hx => hb x (List.mem_of_mem_take hx)
    have a2 : vk a k < pB k := Int.lt_of_lt_of_le (vl_lt fun x hx => ha x (List.mem_of_mem_take hx)) (pB_mono (by rw [List.length_take]; omega))
    have b2 : vk b k < pB k := Int.lt_of_lt_of_le (vl_lt fun x hx => hb x (List.mem_of_mem_take hx)) (pB_mono (by rw [List.length_take]; omega))
    have hp := pB_pos k
    split
    · rename_i h
      have := Int.mul_le_mul_of_nonneg_left (show a.getD k 0 + 1 ≤ b.getD k 0 by omega) (Int.le_of_lt hp)
      rw [Int.mul_add, Int.mul_one] at this
      exact .inr (.inl ⟨rfl, by omega⟩)
    · split
      · rename_i h1 h
        have := Int.mul_le_mul_of_nonneg_left (show b.getD k 0 + 1 ≤ a.getD k 0 by omega) (Int.le_of_lt hp)
        rw [Int.mul_add, Int.mul_one] at this
        exact .inr (.inr ⟨rfl, by omega⟩)
      · rename_i h1 h2
        rw [show a.getD k 0 = b.getD k 0 by omega]
        rcases ih with ⟨h, h'⟩ | ⟨h, h'⟩ | ⟨h, h'⟩
        · exact .inl ⟨h, by omega⟩
        · exact .inr (.inl ⟨h, by omega⟩)
        · exact .inr (.inr ⟨h, by omega⟩)
theorem cmpL_val {a b : List Int} (ha : u64s a) (hb : u64s b) : (cmpL (trm a) (trm b) = 0 ∧ vl a = vl b) ∨ (cmpL (trm a) (trm b) = -1 ∧ vl a < vl b) ∨ (cmpL (trm a) (trm b) = 1 ∧ vl b < vl a) := by
  have ua := u64s_trm ha
  have ub := u64s_trm hb
  rw [← vl_trm a, ← vl_trm b]
  have less : ∀ {x y : List Int}, u64s x → u64s y → tpd y → x.length < y.length → vl x < vl y := fun {x y} hx hy ht hlt => by
    have h1 := vl_lt hx
    have h2 := vl_ge hy ht (by intro e; rw [e] at hlt; simp at hlt)
    have h3 := pB_mono (show x.length ≤ y.length - 1 by omega)
    omega
  unfold cmpL
  split
  · rename_i h; exact .inr (.inl ⟨rfl, less ua ub (tpd_trm b) h⟩)
  · split
    · rename_i h; exact .inr (.inr ⟨rfl, less ub ua (tpd_trm a) h⟩)
    · rename_i h1 h2
      have := cmpN_val ua ub (trm a).length
      rw [vk_all (Nat.le_refl _), vk_all (by omega : (trm b).length ≤ (trm a).length)] at this
      exact this
theorem vl_difL {a b : List Int} (ha : u64s a) (hb : u64s b) (h : vl b ≤ vl a) : vl (difL a b) = vl a - vl b := by
  have ua := u64s_trm ha
  have ub := u64s_trm hb
  have hv := sbN_val (trm a) (trm b) (trm a).length
  rw [vk_all (Nat.le_refl _), vl_trm] at hv
  have hlen : (trm b).length ≤ (trm a).length := by
    rcases Nat.lt_or_ge (trm a).length (trm b).length with hlt | hge
    · have h1 := vl_lt ua
      have h2 := vl_ge ub (tpd_trm b) (by intro e; rw [e] at hlt; simp at hlt)
      have h3 := pB_mono (show (trm a).length ≤ (trm b).length - 1 by omega)
      rw [vl_trm] at h1 h2
      omega
    · exact hge
  rw [vk_all hlen, vl_trm] at hv
  have hc := sbN_c (trm a) (trm b) (trm a).length
  have hs := vl_lt (sbN_u ua ub (trm a).length)
  rw [sbN_len] at hs
  unfold difL
  rcases (show (sbN (trm a) (trm b) (trm a).length).2 = 0 ∨ (sbN (trm a) (trm b) (trm a).length).2 = 1 by omega) with h0 | h0
  · rw [h0, Int.mul_zero] at hv; omega
  · rw [h0, Int.mul_one] at hv; omega


theorem shr32 {x : Int} (h : 0 ≤ x) : x.fdiv (2 ^ min (32 : Int).toNat 64) = x / 4294967296 := by
  obtain ⟨n, rfl⟩ := Int.eq_ofNat_of_zero_le h
  exact shr_nat (k := 4294967296) (by decide)
theorem and32 {x : Int} (h0 : 0 ≤ x) (h1 : x < 18446744073709551616) : bitop .and .u64 x 4294967295 = x % 4294967296 := by
  obtain ⟨n, rfl⟩ := Int.eq_ofNat_of_zero_le h0
  unfold bitop
  simp only [IntKind.bits]
  have e1 : (BitVec.ofInt 64 (n : Int)).toNat = n := by
    rw [BitVec.toNat_ofInt]; simp; omega
  have e2 : (BitVec.ofInt 64 4294967295).toNat = 4294967295 := by decide
  have e3 : (BitVec.ofInt 64 (n : Int) &&& BitVec.ofInt 64 4294967295).toNat = n % 4294967296 := by
    rw [BitVec.toNat_and, e1, e2]
    have := Nat.and_two_pow_sub_one_eq_mod n 32
    simpa using this
  show IntKind.u64.wrap (((BitVec.ofInt 64 (n : Int) &&& BitVec.ofInt 64 4294967295).toNat : Nat) : Int) = _
  rw [e3, wrap_u64 (by omega) (by omega)]
  omega
theorem mul_bd {a b m : Int} (ha : 0 ≤ a) (hb : 0 ≤ b) (ham : a ≤ m) (hbm : b ≤ m) : 0 ≤ a * b ∧ a * b ≤ m * m := by
  refine ⟨Int.mul_nonneg ha hb, ?_⟩
  exact Int.mul_le_mul ham hbm hb (by omega)
theorem mul_parts (x y : Int) : x * y = (x / 4294967296) * (y / 4294967296) * 18446744073709551616 + ((x / 4294967296) * (y % 4294967296) + (x % 4294967296) * (y / 4294967296)) * 4294967296 + (x % 4294967296) * (y % 4294967296) := by
  have hx := Int.emod_add_mul_ediv x 4294967296
  have hy := Int.emod_add_mul_ediv y 4294967296
  generalize x / 4294967296 = x1 at *
  generalize x % 4294967296 = x0 at *
  generalize y / 4294967296 = y1 at *
  generalize y % 4294967296 = y0 at *
  rw [← hx, ← hy, Int.add_mul, Int.mul_add, Int.mul_add]
  have e1 : x0 * (4294967296 * y1) = 4294967296 * (x0 * y1) := by rw [Int.mul_left_comm]
  have e2 : 4294967296 * x1 * y0 = 4294967296 * (x1 * y0) := Int.mul_assoc _ _ _
  have e3 : 4294967296 * x1 * (4294967296 * y1) = 18446744073709551616 * (x1 * y1) := by
    rw [Int.mul_assoc, Int.mul_left_comm x1, ← Int.mul_assoc 4294967296 4294967296]; rfl
  rw [e1, e2, e3]
  omega
theorem mul64_val {x y : Int} (hx0 : 0 ≤ x) (hx : x < 18446744073709551616) (hy0 : 0 ≤ y) (hy : y < 18446744073709551616) :
    let p00 := x % 4294967296 * (y % 4294967296)
    let p10 := x / 4294967296 * (y % 4294967296)
    let p01 := x % 4294967296 * (y / 4294967296)
    let p11 := x / 4294967296 * (y / 4294967296)
    let t := p10 + p00 / 4294967296
    let u := t % 4294967296 + p01
    (0 ≤ p00 ∧ p00 ≤ 18446744065119617025) ∧ (0 ≤ p10 ∧ p10 ≤ 18446744065119617025) ∧ (0 ≤ p01 ∧ p01 ≤ 18446744065119617025) ∧ (0 ≤ p11 ∧ p11 ≤ 18446744065119617025) ∧ p11 + t / 4294967296 + u / 4294967296 = x * y / 18446744073709551616 := by
  intro p00 p10 p01 p11 t u
  have b00 := mul_bd (a := x % 4294967296) (b := y % 4294967296) (m := 4294967295) (by omega) (by omega) (by omega) (by omega)
  have b10 := mul_bd (a := x / 4294967296) (b := y % 4294967296) (m := 4294967295) (by omega) (by omega) (by omega) (by omega)
  have b01 := mul_bd (a := x % 4294967296) (b := y / 4294967296) (m := 4294967295) (by omega) (by omega) (by omega) (by omega)
  have b11 := mul_bd (a := x / 4294967296) (b := y / 4294967296) (m := 4294967295) (by omega) (by omega) (by omega) (by omega)
  have hp := mul_parts x y
  have em : (4294967295 : Int) * 4294967295 = 18446744065119617025 := by decide
  rw [em] at b00 b10 b01 b11
  refine ⟨b00, b10, b01, b11, ?_⟩
  show x / 4294967296 * (y / 4294967296) + (x / 4294967296 * (y % 4294967296) + x % 4294967296 * (y % 4294967296) / 4294967296) / 4294967296 + ((x / 4294967296 * (y % 4294967296) + x % 4294967296 * (y % 4294967296) / 4294967296) % 4294967296 + x % 4294967296 * (y / 4294967296)) / 4294967296 = x * y / 18446744073709551616
  generalize x / 4294967296 * (y / 4294967296) = q11 at *
  generalize x / 4294967296 * (y % 4294967296) = q10 at *
  generalize x % 4294967296 * (y / 4294967296) = q01 at *
  generalize x % 4294967296 * (y % 4294967296) = q00 at *
  rw [hp]
  omega
theorem u64_wrap_mod {m : Int} : IntKind.u64.wrap m = m % 18446744073709551616 := by
  simp only [IntKind.wrap, IntKind.bits, IntKind.signed] <;> simp
theorem vl_set : ∀ (l : List Int) (j : Nat) (v : Int), j < l.length → vl (l.set j v) = vl l + pB j * (v - l.getD j 0)
  | [], j, v, h => by simp at h
  | x :: l, 0, v, _ => by
    have e : (x :: l).getD 0 0 = x := rfl
    simp only [List.set_cons_zero, vl, pB, e]; omega
  | x :: l, j + 1, v, h => by
    have ih := vl_set l j v (by simpa using h)
    have e : (x :: l).getD (j + 1) 0 = l.getD j 0 := rfl
    simp only [List.set_cons_succ, vl, pB, e]
    rw [ih, Int.mul_add, Int.mul_assoc]; omega
theorem getD_set {l : List Int} {j k : Nat} {v : Int} (hne : k ≠ j) : (l.set j v).getD k 0 = l.getD k 0 := by
  rw [List.getD_eq_getElem?_getD, List.getD_eq_getElem?_getD, List.getElem?_set_ne (Ne.symm hne)]
theorem u64s_set {l : List Int} {j : Nat} {v : Int} (h : u64s l) (h0 : 0 ≤ v) (h1 : v < 18446744073709551616) : u64s (l.set j v) := fun x hx => by
  rcases List.mem_or_eq_of_mem_set hx with hx | hx
  · exact h x hx
  · subst hx; exact ⟨h0, h1⟩
theorem school_step {P c t : Int} (hP0 : 0 ≤ P) (hP : P ≤ 340282366920938463426481119284349108225) (hc0 : 0 ≤ c) (hc : c < 18446744073709551616) (ht0 : 0 ≤ t) (ht : t < 18446744073709551616) :
    0 ≤ P / 18446744073709551616 + (P % 18446744073709551616 + c + 0) / 18446744073709551616 ∧ P / 18446744073709551616 + (P % 18446744073709551616 + c + 0) / 18446744073709551616 < 18446744073709551616 ∧
    0 ≤ P / 18446744073709551616 + (P % 18446744073709551616 + c + 0) / 18446744073709551616 + (t + (P % 18446744073709551616 + c + 0) % 18446744073709551616 + 0) / 18446744073709551616 ∧
    P / 18446744073709551616 + (P % 18446744073709551616 + c + 0) / 18446744073709551616 + (t + (P % 18446744073709551616 + c + 0) % 18446744073709551616 + 0) / 18446744073709551616 < 18446744073709551616 ∧
    (t + (P % 18446744073709551616 + c + 0) % 18446744073709551616 + 0) % 18446744073709551616 + 18446744073709551616 * (P / 18446744073709551616 + (P % 18446744073709551616 + c + 0) / 18446744073709551616 + (t + (P % 18446744073709551616 + c + 0) % 18446744073709551616 + 0) / 18446744073709551616) = t + P + c := by
  omega
theorem vl_rest {b : List Int} (hb : u64s b) (k : Nat) : ∃ r, 0 ≤ r ∧ vl b = vk b k + pB k * r := by
  refine ⟨vl (b.drop k), vl_nonneg fun x hx => hb x (List.mem_of_mem_drop hx), ?_⟩
  by_cases h : k ≤ b.length
  · have := vl_app (b.take k) (b.drop k)
    rw [List.take_append_drop, List.length_take, Nat.min_eq_left h] at this
    exact this
  · rw [List.drop_eq_nil_of_le (by omega), vk_all (by omega)]; simp [vl]
theorem vk_nonneg {b : List Int} (hb : u64s b) (k : Nat) : 0 ≤ vk b k := vl_nonneg fun x hx => hb x (List.mem_of_mem_take hx)
theorem no_rest {b : List Int} (hb : u64s b) {at_ k n : Nat} (hn : n ≤ at_ + k) (h : pB at_ * vl b < pB n) : vk b k = vl b := by
  obtain ⟨r, h0, h1⟩ := vl_rest hb k
  rcases Int.lt_or_le 0 r with hr | hr
  · exfalso
    have h2 := Int.mul_le_mul_of_nonneg_left (show 1 ≤ r by omega) (Int.le_of_lt (pB_pos k))
    have h3 := vk_nonneg hb k
    have h4 := Int.mul_le_mul_of_nonneg_left (show pB k ≤ vl b by omega) (Int.le_of_lt (pB_pos at_))
    rw [← pB_add] at h4
    have h5 := pB_mono hn
    omega
  · have : r = 0 := by omega
    rw [this, Int.mul_zero, Int.add_zero] at h1
    exact h1.symm
theorem school_in {o o2 b : List Int} {i k : Nat} {c c2 x t s : Int} (hj : i + k < o.length) (ho2 : o2 = o.set (i + k) s) (ht : o.getD (i + k) 0 = t) {V : Int}
    (hv : vl o + c * pB (i + k) = V + x * pB i * vk b k) (hs : s + 18446744073709551616 * c2 = t + x * b.getD k 0 + c) : vl o2 + c2 * pB (i + (k + 1)) = V + x * pB i * vk b (k + 1) := by
  subst ho2
  rw [vl_set _ _ _ hj, ht, vk_succ, show i + (k + 1) = (i + k) + 1 by omega]
  simp only [pB]
  have hB : Bs = 18446744073709551616 := rfl
  have e1 : c2 * (Bs * pB (i + k)) = pB (i + k) * (18446744073709551616 * c2) := by rw [hB, ← Int.mul_assoc, Int.mul_comm (c2 * 18446744073709551616), Int.mul_comm c2]
  have e2 : x * pB i * (vk b k + pB k * b.getD k 0) = x * pB i * vk b k + pB (i + k) * (x * b.getD k 0) := by
    rw [Int.mul_add, pB_add]
    congr 1
    rw [Int.mul_assoc, Int.mul_left_comm (pB i * pB k), Int.mul_assoc (pB i)]
  have e3 : pB (i + k) * (s - t) + pB (i + k) * (18446744073709551616 * c2) = pB (i + k) * (x * b.getD k 0) + pB (i + k) * c := by
    rw [← Int.mul_add, ← Int.mul_add]; congr 1; omega
  rw [e1, e2]
  have e4 : c * pB (i + k) = pB (i + k) * c := Int.mul_comm _ _
  omega
theorem school_row {o o2 a b : List Int} {i : Nat} {c : Int} (hj : i + b.length < o.length) (h0 : o.getD (i + b.length) 0 = 0) (ho2 : o2 = o.set (i + b.length) c)
    (hv : vl o + c * pB (i + b.length) = vk a i * vl b + a.getD i 0 * pB i * vk b b.length) : vl o2 = vk a (i + 1) * vl b := by
  subst ho2
  rw [vl_set _ _ _ hj, h0, vk_succ, Int.add_mul]
  rw [vk_all (Nat.le_refl _)] at hv
  have e : pB i * a.getD i 0 * vl b = a.getD i 0 * pB i * vl b := by rw [Int.mul_comm (pB i)]
  have e4 : c * pB (i + b.length) = pB (i + b.length) * c := Int.mul_comm _ _
  rw [e, Int.sub_zero]
  omega
end Go.Proofs.YtpldmajdiljoaaaGreat.Vc
