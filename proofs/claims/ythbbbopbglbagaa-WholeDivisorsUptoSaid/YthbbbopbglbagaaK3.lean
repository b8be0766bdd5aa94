/- surdlaw06.WholeDivisors answers true for every two numbers of bulk at most 1048576, and leaves its input as it was: the greatest common divisor with its factors, inverses Texts joined: VcAC, VcAD, VcAE, VcAF, VcAG, VcAH, VcAI, VcAJ, VcAK, VcAM, VcAN, VcAO, VcAP, VcAQ, VcAR, VcAS, VcAT, Na, Nb, Nc, Nd, Ne, Nf, Ng, Nh, Ni, Nj, Ty. -/
import Derived.Test.YthbbbopbglbagaaK2
import Derived.Laws.IdiomStrings
import Derived.Laws.BytesArg
import Derived.Recover
import Derived.LoopN
import Derived.Test.YthbbbopbglbagaaRows
set_option linter.unusedVariables false
set_option linter.unusedSimpArgs false
set_option maxHeartbeats 4000000
namespace Go.Proofs.Ythbbbopbglbagaa.Vc
open Go Go.RowKit
inductive SelD (H : List Ob) (sel0 : List Nat) : List Nat → List Ob → Prop
  | nil : SelD H sel0 [] []
  | cons {i t sz ver : Nat} {sel : List Nat} {cs cs' : List V} {H0 : List Ob} (h : H[i]? = some ⟨t, sz, ver, true, cs'⟩) (hc : cs' = renL sel0 cs) (hs : SelD H sel0 sel H0) : SelD H sel0 (i :: sel) (⟨t, sz, ver, true, cs⟩ :: H0)
  | dead {i t sz ver : Nat} {sel : List Nat} {cs : List V} {H0 : List Ob} (hs : SelD H sel0 sel H0) : SelD H sel0 (i :: sel) (⟨t, sz, ver, false, cs⟩ :: H0)
theorem SelD.len {H : List Ob} {sel0 sel : List Nat} {H0 : List Ob} (h : SelD H sel0 sel H0) : sel.length = H0.length := by
  induction h with
  | nil => rfl
  | cons _ _ _ ih => simp [ih]
  | dead _ ih => simp [ih]
theorem SelD.at_ {H : List Ob} {sel0 sel : List Nat} {H0 : List Ob} (h : SelD H sel0 sel H0) : ∀ {j : Nat} {o : Ob}, H0[j]? = some o → o.live = true → ∃ i, sel[j]? = some i ∧ H[i]? = some { o with cs := renL sel0 o.cs } := by
  induction h with
  | nil => intro j o h; simp at h
  | cons h hc _ ih =>
    intro j o hj hl
    cases j with
    | zero => simp at hj; subst hj; exact ⟨_, rfl, hc ▸ h⟩
    | succ j => simp at hj; obtain ⟨i, e1, e2⟩ := ih hj hl; exact ⟨i, by simpa using e1, e2⟩
  | dead _ ih =>
    intro j o hj hl
    cases j with
    | zero => simp at hj; subst hj; cases hl
    | succ j => simp at hj; obtain ⟨i, e1, e2⟩ := ih hj hl; exact ⟨i, by simpa using e1, e2⟩
theorem Gd (sel : List Nat) : ∀ cs : List V, (renL sel cs).length = cs.length
  | [] => rfl
  | y :: ys => by simp [renL, Gd sel ys]
section
variable {P : Program} {Γ : Ctx} {F : Fr} {H : List Ob} {Q : Exit → Fr → List Ob → Prop}
theorem StA.selS {ρ : List Re} {a : Act} {w : World} {sel : List Nat} {H0 : List Ob} {F0 : Fr} (s : StA Γ ρ F H a w) (hsel : SelD H sel sel H0) (hF : ∀ t y, Cl F0 t = some y → y = .u ∨ (Cl F t = some (ren sel y) ∧ idB sel.length y = true)) (hnd : sel.Nodup) (hO : ObsId sel.length H0) (hΓ : Γ.ρ0 = []) : StA Γ (C3 Gm sel ρ) F0 H0 a w := by
  have hre : ∀ {j : Nat} {o : Ob} {r : Re}, H0[j]? = some o → o.live = true → (C3 Gm sel ρ)[j]? = some r → ∃ i, sel[j]? = some i ∧ H[i]? = some { o with cs := renL sel o.cs } ∧ ρ[i]? = some r := by
    intro j o r h1 hl h3
    obtain ⟨i, k1, k2⟩ := hsel.at_ h1 hl
    obtain ⟨i', k3, k4⟩ := I6 h3
    obtain rfl : i = i' := by rw [k1] at k3; injection k3
    have : i < ρ.length := by rw [s.hr.len]; exact (List.getElem?_eq_some_iff.1 k2).1
    rw [List.getElem?_eq_getElem this] at k4
    exact ⟨i, k1, k2, by rw [List.getElem?_eq_getElem this]; exact congrArg some k4⟩
  have hsub : ∀ b, Bv Γ.M (C3 Gm sel ρ) H0 b → Bv Γ.M ρ H b := by
    rintro b (h | ⟨j, o, r, h1, h2, h3, h4⟩)
    · exact .inl h
    · obtain ⟨i, k1, k2, k3⟩ := hre h1 h2 h3
      exact .inr ⟨i, _, r, k2, h2, k3, h4⟩
  have ev0 : Ev w (Bv Γ.M ρ H) Γ.w0.heap.size (C3 Gm sel ρ) w (Bv Γ.M (C3 Gm sel ρ) H0) Γ.w0.heap.size (C3 Gm sel ρ) :=
    ⟨Nat.le_refl _, fun _ _ _ => rfl, fun b _ hn h => hn (hsub b h), Nat.le_refl _, fun i r h => ⟨r, h, Nat.le_refl _, fun _ => rfl⟩⟩
  refine ⟨⟨by simp [C3, hsel.len], fun j o h1 h2 => ?_, fun j j' oj oj' rj rj' g hjj h1 h2 h3 h4 h5 h6 hg => ?_, fun j o r g h1 h2 h3 h4 => ?_⟩, s.n, s.ds, fun t => ?_, ⟨s.fro.os, s.fro.tape, s.fro.output, s.fro.size, s.fro.blk, s.fro.old, fun j o r g h1 h2 h3 h4 => ?_, fun i r h => ?_⟩⟩
  · obtain ⟨i, k1, k2⟩ := hsel.at_ h1 h2
    obtain ⟨r, k3, k4⟩ := s.hr.ob i _ k2 h2
    refine ⟨r, F5 k1 k3, k4.ver, k4.sz, fun hg => ?_, fun g hg => ?_⟩
    · obtain ⟨e1, e2⟩ := k4.nob hg
      have e1' : renL sel o.cs = [] := e1
      refine ⟨?_, e2⟩
      cases hcs : o.cs with
      | nil => rfl
      | cons y ys => rw [hcs] at e1'; simp [renL] at e1'
    · obtain ⟨cur, c1, c2, c3, c4, c5⟩ := k4.blk g hg
      refine ⟨cur, c1, c2, by rw [← Gd sel o.cs]; exact c3, c4, fun q y hy => ?_⟩
      obtain ⟨u, d1, d2, d3⟩ := c5 q (ren sel y) (L1 sel o.cs q y hy)
      exact ⟨u, d1, d2, (Rel.unren y u (hO o (List.mem_of_getElem? h1) h2 y (List.mem_of_getElem? hy)) d3).ev ev0⟩
  · obtain ⟨i, k1, k2, k3⟩ := hre h1 h2 h5
    obtain ⟨i', k1', k2', k3'⟩ := hre h3 h4 h6
    refine s.hr.apart i i' _ _ rj rj' g (fun e => hjj ?_) k2 h2 k2' h4 k3 k3' hg
    subst e
    have hj : j < sel.length := (List.getElem?_eq_some_iff.1 k1).1
    exact (List.getElem?_inj hj hnd).1 (k1.trans k1'.symm)
  · obtain ⟨i, k1, k2, k3⟩ := hre h1 h2 h3
    exact s.hr.foreign i _ r g k2 h2 k3 h4
  · unfold get
    cases e : Cl F0 t with
    | none => trivial
    | some y =>
      rcases hF t y e with rfl | ⟨h1, h2⟩
      · trivial
      · have h3 := s.fr t
        unfold get at h3
        rw [h1] at h3
        exact (Rel.unren y _ h2 h3).ev ev0
  · obtain ⟨i, k1, k2, k3⟩ := hre h1 h2 h3
    exact s.fro.mine i _ r g k2 h2 k3 h4
  · rw [hΓ] at h; simp at h
theorem Ta {sel : List Nat} {n : Nat} (h : ∀ i, i < n → sel[i]? = some i) {i : Nat} (hi : Nat.blt i n = true) : sel.getD i 0 = i := by
  rw [List.getD_eq_getElem?_getD, h i (by simpa using hi)]; rfl
mutual
theorem Sm (sel : List Nat) (n : Nat) (h : ∀ i, i < n → sel[i]? = some i) : ∀ y, idB n y = true → ren sel y = y
  | .p id ver off, h1 => by
    simp only [ren]; rw [Ta h h1]
  | .o id ver off len, h1 => by
    simp only [ren]; rw [Ta h h1]
  | .f fn cs, h1 => by simp only [ren]; rw [Ju sel n h cs h1]
  | .a cs, h1 => by simp only [ren]; rw [Ju sel n h cs h1]
  | .t cs, h1 => by simp only [ren]; rw [Ju sel n h cs h1]
  | .i _ _, _ => rfl
  | .b _, _ => rfl
  | .s _, _ => rfl
  | .c _, _ => rfl
  | .n _ _ _, _ => rfl
  | .l _ _ _, _ => rfl
  | .q _, _ => rfl
  | .u, _ => rfl
theorem Ju (sel : List Nat) (n : Nat) (h : ∀ i, i < n → sel[i]? = some i) : ∀ ys, Ng n ys = true → renL sel ys = ys
  | [], _ => rfl
  | y :: ys, h1 => by
    simp only [Ng, Bool.and_eq_true] at h1
    simp only [renL]; rw [Sm sel n h y h1.1, Ju sel n h ys h1.2]
end
mutual
theorem P3 {n m : Nat} (h : n ≤ m) : ∀ y, idB n y = true → idB m y = true
  | .p id ver off, h1 => by simp only [idB, Nat.blt_eq] at h1 ⊢; omega
  | .o id ver off len, h1 => by simp only [idB, Nat.blt_eq] at h1 ⊢; omega
  | .f fn cs, h1 => Is h cs h1
  | .a cs, h1 => Is h cs h1
  | .t cs, h1 => Is h cs h1
  | .i _ _, _ => rfl
  | .b _, _ => rfl
  | .s _, _ => rfl
  | .c _, _ => rfl
  | .n _ _ _, _ => rfl
  | .l _ _ _, _ => rfl
  | .q _, _ => rfl
  | .u, _ => rfl
theorem Is {n m : Nat} (h : n ≤ m) : ∀ ys, Ng n ys = true → Ng m ys = true
  | [], _ => rfl
  | y :: ys, h1 => by
    simp only [Ng, Bool.and_eq_true] at h1 ⊢
    exact ⟨P3 h y h1.1, Is h ys h1.2⟩
end
def K6 {α : Type} : List Nat → List α → List α → List α
  | [], xs, new => xs ++ new
  | i :: sel, xs, x :: new => K6 sel (xs.set i x) new
  | _ :: _, xs, [] => xs
theorem Ig {α : Type} : ∀ (sel : List Nat) (xs new : List α), sel.length ≤ new.length → (K6 sel xs new).length = xs.length + (new.length - sel.length)
  | [], xs, new, _ => by simp [K6]
  | i :: sel, xs, x :: new, h => by
    simp only [List.length_cons, Nat.add_le_add_iff_right] at h
    rw [K6, Ig sel _ _ h]; simp
  | _ :: _, xs, [], h => by simp at h
def M7 (sel : List Nat) (n j : Nat) : Nat := if j < sel.length then sel.getD j 0 else n + (j - sel.length)
theorem M5 {α : Type} : ∀ (sel : List Nat) (xs new : List α), sel.length ≤ new.length → (∀ i ∈ sel, i < xs.length) → ∀ i x, (K6 sel xs new)[i]? = some x → (∃ j, M7 sel xs.length j = i ∧ new[j]? = some x) ∨ (i ∉ sel ∧ i < xs.length ∧ xs[i]? = some x)
  | [], xs, new, _, _, i, x, h => by
    rw [K6] at h
    rcases Nat.lt_or_ge i xs.length with hlt | hge
    · rw [List.getElem?_append_left hlt] at h; exact .inr ⟨by simp, hlt, h⟩
    · rw [List.getElem?_append_right hge] at h; exact .inl ⟨i - xs.length, by simp [M7]; omega, h⟩
  | k :: sel, xs, y :: new, hl, hs, i, x, h => by
    rw [K6] at h
    simp only [List.length_cons, Nat.add_le_add_iff_right] at hl
    rcases M5 sel (xs.set k y) new hl (fun i hi => by rw [List.length_set]; exact hs i (List.mem_cons_of_mem _ hi)) i x h with ⟨j, h1, h2⟩ | ⟨h1, h2, h3⟩
    · refine .inl ⟨j + 1, ?_, by simpa using h2⟩
      rw [← h1]
      unfold M7
      simp only [List.length_cons, List.length_set]
      by_cases hj : j < sel.length
      · rw [if_pos (by omega), if_pos hj]; simp
      · rw [if_neg (by omega), if_neg hj]; omega
    · rw [List.length_set] at h2
      by_cases e : k = i
      · subst e
        rw [List.getElem?_set_self h2] at h3
        exact .inl ⟨0, by simp [M7], by simpa using h3⟩
      · rw [List.getElem?_set_ne e] at h3
        exact .inr ⟨by simp [h1]; exact fun e' => e e'.symm, h2, h3⟩
  | _ :: _, xs, [], hl, _, _, _, _ => by simp at hl
theorem G7 {α : Type} : ∀ (sel : List Nat) (xs new : List α), ∀ i, i ∉ sel → i < xs.length → (K6 sel xs new)[i]? = xs[i]?
  | [], xs, new, i, _, h => by rw [K6, List.getElem?_append_left h]
  | k :: sel, xs, y :: new, i, h1, h2 => by
    simp only [List.mem_cons, not_or] at h1
    rw [K6, G7 sel _ new i h1.2 (by rw [List.length_set]; exact h2), List.getElem?_set_ne (fun e => h1.1 e.symm)]
  | _ :: _, xs, [], i, _, h => rfl
theorem L5 {α : Type} : ∀ (sel : List Nat) (xs new : List α), sel.Nodup → (∀ i ∈ sel, i < xs.length) → ∀ j, j < new.length → sel.length ≤ new.length → (K6 sel xs new)[M7 sel xs.length j]? = new[j]?
  | [], xs, new, _, _, j, _, _ => by rw [K6, M7, if_neg (by simp), List.getElem?_append_right (by simp)]; simp
  | k :: sel, xs, y :: new, hnd, hs, j, hj, hl => by
    simp only [List.length_cons, Nat.add_le_add_iff_right] at hl
    rw [K6]
    rw [List.nodup_cons] at hnd
    cases j with
    | zero =>
      rw [show M7 (k :: sel) xs.length 0 = k by simp [M7], G7 sel _ new k hnd.1 (by rw [List.length_set]; exact hs k (List.mem_cons_self ..)), List.getElem?_set_self (hs k (List.mem_cons_self ..))]
      rfl
    | succ j =>
      have e : M7 (k :: sel) xs.length (j + 1) = M7 sel (xs.set k y).length j := by
        unfold M7
        simp only [List.length_cons, List.length_set]
        by_cases hj : j < sel.length
        · rw [if_pos (by omega), if_pos hj]; simp
        · rw [if_neg (by omega), if_neg hj]; omega
      rw [e, L5 sel (xs.set k y) new hnd.2 (fun i hi => by rw [List.length_set]; exact hs i (List.mem_cons_of_mem _ hi)) j (by simpa using hj) hl]
      simp
  | _ :: _, xs, [], _, _, j, hj, _ => by simp at hj
def Kz (sel : List Nat) (n k : Nat) : List Nat := (List.range k).map (M7 sel n)
theorem Ww {sel : List Nat} {n k j : Nat} (h : j < k) : (Kz sel n k).getD j 0 = M7 sel n j := by
  simp [Kz, h]
end

theorem Iy : ∀ {sel : List Nat} {H : List Ob} {i : Nat}, i ∉ sel → (Fb H sel)[i]? = H[i]?
  | [], H, i, _ => rfl
  | j :: sel, H, i, h => by
    simp only [List.mem_cons, not_or] at h
    rw [Fb, Iy h.2, Ef, List.getElem?_modify]
    have e : ¬ j = i := fun e => h.1 e.symm
    cases H[i]? <;> simp [e]
def Sn (σ : List Nat) (G : List Ob) : List Ob := G.map fun o => { o with cs := renL σ o.cs }
theorem Zf {σ : List Nat} {G : List Ob} {j : Nat} {o : Ob} (h : (Sn σ G)[j]? = some o) : ∃ o', G[j]? = some o' ∧ o = { o' with cs := renL σ o'.cs } := by
  unfold Sn at h
  rw [List.getElem?_map] at h
  cases hj : G[j]? with
  | none => rw [hj] at h; cases h
  | some o' => rw [hj] at h; injection h with h; exact ⟨o', rfl, h.symm⟩
mutual
theorem Rel.ren {w : World} {L : Nat → Prop} {B : Nat} {ρ ρ2 : List Re} {σ : List Nat} (h : ∀ (i : Nat) (re : Re), ρ[i]? = some re → ρ2[σ.getD i 0]? = some re) : ∀ (y : V) (v : Value), Rel w L B ρ y v → Rel w L B ρ2 (Vc.ren σ y) v
  | .i _ _, _, h1 => h1
  | .b _, _, h1 => h1
  | .s _, _, h1 => h1
  | .c _, _, h1 => h1
  | .n _ _ _, _, h1 => h1
  | .l _ _ _, _, h1 => h1
  | .q _, _, h1 => h1
  | .u, _, _ => trivial
  | .p id ver off, v, ⟨re, h1, h2⟩ => ⟨re, h id re h1, h2⟩
  | .o id ver off len, v, ⟨re, h1, h2⟩ => ⟨re, h id re h1, h2⟩
  | .f fn cs, v, ⟨us, e, h1⟩ => ⟨us, e, RelL.ren h cs us h1⟩
  | .a cs, v, ⟨us, e, h1⟩ => ⟨us, e, RelL.ren h cs us h1⟩
  | .t cs, v, ⟨us, e, h1⟩ => ⟨us, e, RelL.ren h cs us h1⟩
theorem RelL.ren {w : World} {L : Nat → Prop} {B : Nat} {ρ ρ2 : List Re} {σ : List Nat} (h : ∀ (i : Nat) (re : Re), ρ[i]? = some re → ρ2[σ.getD i 0]? = some re) : ∀ (ys : List V) (us : List Value), RelL w L B ρ ys us → RelL w L B ρ2 (Vc.renL σ ys) us
  | [], _, h1 => h1
  | y :: ys, us, ⟨u, us', e, h1, h2⟩ => ⟨u, us', e, Rel.ren h y u h1, RelL.ren h ys us' h2⟩
end
theorem M0 {σ : List Nat} : ∀ (cs : List V) (q : Nat) (y : V), (renL σ cs)[q]? = some y → ∃ z, cs[q]? = some z ∧ y = ren σ z
  | [], _, _, h => by simp [renL] at h
  | c :: cs, 0, y, h => by simp [renL] at h; exact ⟨c, rfl, h.symm⟩
  | c :: cs, q + 1, y, h => by simp [renL] at h; simpa using M0 cs q y h
section
variable {P : Program} {Γ : Ctx} {F : Fr} {H : List Ob} {Q : Exit → Fr → List Ob → Prop}
theorem Vm {f : FuncId} {fn : Func} {dst : Option Tmp} {T : TypeId} {ps : String} {af : Array Edge} {g : Option (Nat × Bool)} {c : Operand} {args : Array Operand} {ts : Array TypeId} {sel : List Nat} {ys cs zs : List V} {H0 : List Ob} {post : Out → List Ob → Prop}
    (hc : ovO F c = some (.f f cs)) (hf : P.funcs[f]? = some fn) (hb : fn.body.isSome = true) (hn : (fn.name == "runtime.NumGoroutine") = false) (hx : ovL F args.toList ys) (ha : ArgML (ys ++ cs) (renL sel zs)) (hzi : Ng sel.length zs = true) (hzf : Kw zs = true) (hsel : SelOk H sel sel H0) (hnd : sel.Nodup) (hO : ObsId sel.length H0) (hfl : D8 H0) (hs : SpecM P f zs H0 post) {ρ : List Re} {a : Act} {w : World} (s : StA Γ ρ F H a w) {K : Act → World → Prop} {R : Exit → Act → World → Prop}
    (k : ∀ y v w' G ρ', post (.ret y) G → Rel w' (Bv Γ.M ρ' (K6 sel H (Sn (Kz sel H.length G.length) G))) Γ.w0.heap.size ρ' (ren (Kz sel H.length G.length) y) v → StA Γ ρ' F (K6 sel H (Sn (Kz sel H.length G.length) G)) a w' → K (a.put dst v) w')
    (kp : ∀ ch w' G ρ', post (.pan ch) G → StA Γ ρ' F (K6 sel H (Sn (Kz sel H.length G.length) G)) a w' → R (.panic ch) a w') :
    (⟨dst, .call { callee := .value c, args := args, argTypes := ts }, T, ps, af, g⟩ : Oper).wp P a w K R := by
  obtain ⟨us0, hcv, hcr⟩ := s.ov hc
  have hr := Pn _ _ _ _ (s.ovL hx) hcr
  have hargs : args.map a.eval ++ us0.toArray = (args.toList.map a.eval ++ us0).toArray := by apply Array.ext'; simp
  have hin : ∀ i ∈ sel, i < H.length := by
    have key : ∀ {sel' : List Nat} {H0' : List Ob}, SelOk H sel sel' H0' → ∀ i ∈ sel', i < H.length := fun h => by
      induction h with
      | nil => simp
      | cons h _ _ ih =>
        intro i hi
        rcases List.mem_cons.1 hi with rfl | hi
        · exact (List.getElem?_eq_some_iff.1 h).1
        · exact ih i hi
    exact key hsel
  have hlen := s.hr.len
  have lsub : ∀ b, Bv Γ.M ρ (Fb H sel) b → Bv Γ.M ρ H b := by
    rintro b (h | ⟨i, o, r, h1, h2, h3, h4⟩)
    · exact .inl h
    · exact .inr ⟨i, o, r, (Dt h1 h2).2, h2, h3, h4⟩
  have hre : ∀ {j : Nat} {o : Ob} {r : Re}, H0[j]? = some o → (C3 Gm sel ρ)[j]? = some r → ∃ i, sel[j]? = some i ∧ H[i]? = some { o with cs := renL sel o.cs } ∧ ρ[i]? = some r ∧ o.live = true := by
    intro j o r h1 h3
    obtain ⟨hl, i, k1, k2⟩ := hsel.at_ h1
    obtain ⟨i', k3, k4⟩ := I6 h3
    obtain rfl : i = i' := by rw [k1] at k3; injection k3
    have : i < ρ.length := by rw [s.hr.len]; exact (List.getElem?_eq_some_iff.1 k2).1
    rw [List.getElem?_eq_getElem this] at k4
    exact ⟨i, k1, k2, by rw [List.getElem?_eq_getElem this]; exact congrArg some k4, hl⟩
  have hsub : ∀ b, Bv (Bv Γ.M ρ (Fb H sel)) (C3 Gm sel ρ) H0 b → Bv Γ.M ρ H b := by
    rintro b (h | ⟨j, o, r, h1, h2, h3, h4⟩)
    · exact lsub b h
    · obtain ⟨i, k1, k2, k3, _⟩ := hre h1 h3
      exact .inr ⟨i, _, r, k2, h2, k3, h4⟩
  have ev0 : Ev w (Bv Γ.M ρ H) w.heap.size (C3 Gm sel ρ) w (Bv (Bv Γ.M ρ (Fb H sel)) (C3 Gm sel ρ) H0) w.heap.size (C3 Gm sel ρ) :=
    ⟨Nat.le_refl _, fun _ _ _ => rfl, fun b _ hn h => hn (hsub b h), Nat.le_refl _, fun i r h => ⟨r, h, Nat.le_refl _, fun _ => rfl⟩⟩
  have hHR : HR (Bv Γ.M ρ (Fb H sel)) w w.heap.size (C3 Gm sel ρ) H0 := by
    refine ⟨by simp [C3, hsel.len], fun j o h1 h2 => ?_, fun j j' oj oj' rj rj' g hjj h1 h2 h3 h4 h5 h6 hg => ?_, fun j o r g h1 h2 h3 h4 => ?_⟩
    · obtain ⟨hl, i, k1, k2⟩ := hsel.at_ h1
      obtain ⟨r, k3, k4⟩ := s.hr.ob i _ k2 hl
      refine ⟨r, F5 k1 k3, k4.ver, k4.sz, fun hg => ?_, fun g hg => ?_⟩
      · obtain ⟨e1, e2⟩ := k4.nob hg
        have e1' : renL sel o.cs = [] := e1
        refine ⟨?_, e2⟩
        cases hcs : o.cs with
        | nil => rfl
        | cons y ys => rw [hcs] at e1'; simp [renL] at e1'
      · obtain ⟨cur, c1, c2, c3, c4, c5⟩ := k4.blk g hg
        refine ⟨cur, c1, c2, by rw [← Gd sel o.cs]; exact c3, c4, fun q y hy => ?_⟩
        obtain ⟨u, d1, d2, d3⟩ := c5 q (Vc.ren sel y) (L1 sel o.cs q y hy)
        have h5 := Rel.unren y u (hO o (List.mem_of_getElem? h1) h2 y (List.mem_of_getElem? hy)) d3
        exact ⟨u, d1, d2, (Sq y u (hfl o (List.mem_of_getElem? h1) h2 y (List.mem_of_getElem? hy)) h5).ev ev0⟩
    · obtain ⟨i, k1, k2, k3, _⟩ := hre h1 h5
      obtain ⟨i', k1', k2', k3', _⟩ := hre h3 h6
      refine s.hr.apart i i' _ _ rj rj' g (fun e => hjj ?_) k2 h2 k2' h4 k3 k3' hg
      subst e
      have hj : j < sel.length := (List.getElem?_eq_some_iff.1 k1).1
      exact (List.getElem?_inj hj hnd).1 (k1.trans k1'.symm)
    · obtain ⟨i, k1, k2, k3, _⟩ := hre h1 h3
      rintro (hM | ⟨i', o', r', e1, e2, e3, e4⟩)
      · exact s.hr.foreign i _ r g k2 h2 k3 h4 hM
      · obtain ⟨n1, n2⟩ := Dt e1 e2
        have hne : i' ≠ i := fun e => n1 (e ▸ List.mem_of_getElem? k1)
        exact s.hr.apart i' i _ _ r' r g hne n2 e2 k2 h2 e3 k3 e4 h4
  have hcall := hs (Bv Γ.M ρ (Fb H sel)) w (C3 Gm sel ρ) (args.toList.map a.eval ++ us0) (fun b h => Mp s (lsub b h)) hHR
    ((K4 zs _ hzf (RelL.unren zs _ hzi (ha.rel (B' := Γ.w0.heap.size) _ hr))).ev ev0)
  have hrun : (execOp a.eval ⟨dst, .call { callee := .value c, args := args, argTypes := ts }, T, ps, af, g⟩).run P w = .ok (.enter f (args.toList.map a.eval ++ us0).toArray) w := by
    have hb' : ¬ fn.body = none := by intro h; rw [h] at hb; cases hb
    have hn' : ¬ fn.name = "runtime.NumGoroutine" := by simpa using hn
    simp [execOp, resolve, hcv, Deferred.ofValue, invoke, callFunc, program, Sem.run, hf]
    rw [if_neg hn', if_neg hb', hargs]
  unfold Oper.wp
  rw [hrun]
  show Calls P f _ w _
  refine hcall.mono fun e w' ⟨o, G, ρ', h1, h2, h3, h4, h5, h6, ev, h8, h9⟩ => ?_
  have hhand : ∀ b, Ld (C3 Gm sel ρ) H0 b → ∃ (i : Nat) (o : Ob) (r : Re), i ∈ sel ∧ H[i]? = some o ∧ o.live = true ∧ ρ[i]? = some r ∧ r.g = some b := by
    rintro b ⟨j, o, r, k1, k2, k3, k4⟩
    obtain ⟨i, e1, e2, e3, _⟩ := hre k1 k3
    exact ⟨i, _, r, List.mem_of_getElem? e1, e2, k2, e3, k4⟩
  have hsl : sel.length ≤ ρ'.length := by
    rcases Nat.eq_zero_or_pos sel.length with h | h
    · omega
    · have hlt : sel.length - 1 < (C3 Gm sel ρ).length := by simp [C3]; omega
      obtain ⟨re', e1, _⟩ := ev.rho _ _ (List.getElem?_eq_getElem hlt)
      have := (List.getElem?_eq_some_iff.1 e1).1
      omega
  have hGl : ρ'.length = G.length := h3.len
  obtain ⟨σ, hσ⟩ : ∃ σ, σ = Kz sel H.length G.length := ⟨_, rfl⟩
  have hσat : ∀ j, j < G.length → σ.getD j 0 = M7 sel H.length j := fun j hj => hσ ▸ Ww hj
  obtain ⟨H2, hH2⟩ : ∃ H2, H2 = K6 sel H (Sn σ G) := ⟨_, rfl⟩
  obtain ⟨ρ2, hρ2⟩ : ∃ ρ2, ρ2 = K6 sel ρ ρ' := ⟨_, rfl⟩
  have hrl : (Sn σ G).length = G.length := by simp [Sn]
  have hinρ : ∀ i ∈ sel, i < ρ.length := fun i hi => by rw [hlen]; exact hin i hi
  have hr2 : ∀ (j : Nat) (re : Re), ρ'[j]? = some re → ρ2[σ.getD j 0]? = some re := fun j re hj => by
    have hlt := (List.getElem?_eq_some_iff.1 hj).1
    rw [hσat j (by omega), hρ2, ← hlen, L5 sel ρ ρ' hnd hinρ j hlt hsl]
    exact hj
  -- what stands where
  have back : ∀ {i : Nat} {ob : Ob} {re : Re}, H2[i]? = some ob → ρ2[i]? = some re → (∃ j o', G[j]? = some o' ∧ ob = { o' with cs := renL σ o'.cs } ∧ ρ'[j]? = some re ∧ i = M7 sel H.length j) ∨ (i ∉ sel ∧ H[i]? = some ob ∧ ρ[i]? = some re) := by
    intro i ob re e1 e2
    rw [hH2] at e1
    rcases M5 sel H _ (by rw [hrl]; omega) hin i ob e1 with ⟨j, j1, j2⟩ | ⟨j1, j2, j3⟩
    · obtain ⟨o', j3, j4⟩ := Zf j2
      refine .inl ⟨j, o', j3, j4, ?_, j1.symm⟩
      have hj : j < ρ'.length := by rw [hGl]; exact (List.getElem?_eq_some_iff.1 j3).1
      rw [hρ2, ← j1, ← hlen, L5 sel ρ ρ' hnd hinρ j hj hsl] at e2
      exact e2
    · refine .inr ⟨j1, j3, ?_⟩
      rw [hρ2, G7 sel ρ ρ' i j1 (by omega)] at e2
      exact e2
  have lset2 : Bv Γ.M ρ2 H2 = Bv (Bv Γ.M ρ (Fb H sel)) ρ' G := by
    funext b
    apply propext
    constructor
    · rintro (h | ⟨i, ob, re, e1, e2, e3, e4⟩)
      · exact .inl (.inl h)
      · rcases back e1 e3 with ⟨j, o', j1, j2, j3, _⟩ | ⟨j1, j2, j3⟩
        · subst j2; exact .inr ⟨j, o', re, j1, e2, j3, e4⟩
        · exact .inl (.inr ⟨i, ob, re, by rw [Iy j1]; exact j2, e2, j3, e4⟩)
    · rintro ((h | ⟨i, ob, re, e1, e2, e3, e4⟩) | ⟨j, o', re, e1, e2, e3, e4⟩)
      · exact .inl h
      · obtain ⟨n1, n2⟩ := Dt e1 e2
        have hi := (List.getElem?_eq_some_iff.1 n2).1
        exact .inr ⟨i, ob, re, by rw [hH2, G7 sel H _ i n1 hi]; exact n2, e2, by rw [hρ2, G7 sel ρ ρ' i n1 (by omega)]; exact e3, e4⟩
      · have hj := (List.getElem?_eq_some_iff.1 e1).1
        refine .inr ⟨M7 sel H.length j, { o' with cs := renL σ o'.cs }, re, ?_, e2, ?_, e4⟩
        · rw [hH2, L5 sel H _ hnd hin j (by rw [hrl]; exact hj) (by rw [hrl]; omega), Sn, List.getElem?_map, e1]; rfl
        · rw [← hσat j hj]; exact hr2 j re e3
  have ev2 : Ev w (Bv Γ.M ρ H) Γ.w0.heap.size ρ w' (Bv Γ.M ρ2 H2) Γ.w0.heap.size ρ2 := by
    refine ⟨ev.size, fun b hlt hnL => h9 b hlt fun hh => ?_, fun b hlt hn h => ?_, Nat.le_refl _, fun i r h => ?_⟩
    · obtain ⟨i, o, r, _, e2, e3, e4, e5⟩ := hhand b hh
      exact hnL (.inr ⟨i, o, r, e2, e3, e4, e5⟩)
    · rw [lset2] at h
      rcases h with h | ⟨j, o', re, e1, e2, e3, e4⟩
      · exact hn (lsub b h)
      · rcases h8 j o' re b e1 e2 e3 e4 with h | h
        · omega
        · obtain ⟨i, o, r, _, e2, e3, e4, e5⟩ := hhand b h
          exact hn (.inr ⟨i, o, r, e2, e3, e4, e5⟩)
    · by_cases hi : i ∈ sel
      · obtain ⟨j, hj⟩ := List.getElem?_of_mem hi
        have hjl := (List.getElem?_eq_some_iff.1 hj).1
        obtain ⟨re', e1, e2, e3⟩ := ev.rho j r (F5 hj h)
        refine ⟨re', ?_, e2, e3⟩
        have h7 := hr2 j re' e1
        rw [hσat j (by have := (List.getElem?_eq_some_iff.1 e1).1; omega), M7, if_pos hjl, List.getD_eq_getElem?_getD, hj] at h7
        exact h7
      · exact ⟨r, by rw [hρ2, G7 sel ρ ρ' i hi (List.getElem?_eq_some_iff.1 h).1]; exact h, Nat.le_refl _, fun _ => rfl⟩
  have s' : StA Γ ρ2 F H2 a w' := by
    refine ⟨⟨?_, fun i ob k1 k2 => ?_, fun i i' oi oi' ri ri' g hij k1 k2 k3 k4 k5 k6 hg hg' => ?_, fun i ob r g k1 k2 k3 k4 => ?_⟩, s.n, s.ds, fun t => (s.fr t).ev ev2, ⟨h4.trans s.fro.os, h5.trans s.fro.tape, h6.trans s.fro.output, Nat.le_trans s.fro.size ev.size, fun b hlt hnl => ?_, s.fro.old, fun i ob r g k1 k2 k3 k4 => ?_, fun i r hi => ?_⟩⟩
    · rw [hρ2, hH2, Ig _ _ _ hsl, Ig _ _ _ (by rw [hrl]; omega), hrl]; omega
    · have hl2 : ρ2.length = H2.length := by rw [hρ2, hH2, Ig _ _ _ hsl, Ig _ _ _ (by rw [hrl]; omega), hrl]; omega
      have hi : i < ρ2.length := by rw [hl2]; exact (List.getElem?_eq_some_iff.1 k1).1
      rcases back k1 (List.getElem?_eq_getElem hi) with ⟨j, o', j1, j2, j3, j4⟩ | ⟨j1, j2, j3⟩
      · subst j2
        obtain ⟨re, m1, m2⟩ := h3.ob j o' j1 k2
        obtain rfl : re = ρ2[i] := by have := m1.symm.trans j3; injection this
        refine ⟨ρ2[i], List.getElem?_eq_getElem hi, m2.ver, m2.sz, fun hg => ?_, fun g hg => ?_⟩
        · obtain ⟨e1, e2⟩ := m2.nob hg
          exact ⟨by show renL σ o'.cs = []; rw [e1]; rfl, e2⟩
        · obtain ⟨cur, c1, c2, c3, c4, c5⟩ := m2.blk g hg
          refine ⟨cur, c1, c2, by show (renL σ o'.cs).length ≤ _; rw [Gd]; exact c3, c4, fun q y hy => ?_⟩
          obtain ⟨z, z1, rfl⟩ := M0 o'.cs q y hy
          obtain ⟨u, d1, d2, d3⟩ := c5 q z z1
          refine ⟨u, d1, d2, ?_⟩
          rw [lset2]
          exact Rel.ren hr2 z u (Gs s.fro.size z u d3)
      · obtain ⟨re, m1, m2⟩ := s.hr.ob i ob j2 k2
        obtain rfl : re = ρ2[i] := by have := m1.symm.trans j3; injection this
        refine ⟨ρ2[i], List.getElem?_eq_getElem hi, m2.ver, m2.sz, m2.nob, fun g hg => ?_⟩
        obtain ⟨cur, c1, c2, c3, c4, c5⟩ := m2.blk g hg
        refine ⟨cur, ?_, c2, c3, c4, fun j y hy => by obtain ⟨u, d1, d2, d3⟩ := c5 j y hy; exact ⟨u, d1, d2, d3.ev ev2⟩⟩
        rw [h9 g (s.hr.lt j2 k2 m1 hg) fun hh => ?_]
        · exact c1
        · obtain ⟨i', o', r', n1, n2, n3, n4, n5⟩ := hhand g hh
          exact s.hr.apart i i' ob o' ρ2[i] r' g (fun e => j1 (e ▸ n1)) j2 k2 n2 n3 m1 n4 hg n5
    · rcases back k1 k5 with ⟨j, o', j1, j2, j3, j4⟩ | ⟨j1, j2, j3⟩ <;> rcases back k3 k6 with ⟨j', o'', l1, l2, l3, l4⟩ | ⟨l1, l2, l3⟩
      · subst j2; subst l2
        exact h3.apart j j' o' o'' ri ri' g (fun e => hij (by rw [j4, l4, e])) j1 k2 l1 k4 j3 l3 hg hg'
      · subst j2
        exact h3.foreign j o' ri g j1 k2 j3 hg (.inr ⟨i', oi', ri', by rw [Iy l1]; exact l2, k4, l3, hg'⟩)
      · subst l2
        exact h3.foreign j' o'' ri' g l1 k4 l3 hg' (.inr ⟨i, oi, ri, by rw [Iy j1]; exact j2, k2, j3, hg⟩)
      · exact s.hr.apart i i' oi oi' ri ri' g hij j2 k2 l2 k4 j3 l3 hg hg'
    · rcases back k1 k3 with ⟨j, o', j1, j2, j3, j4⟩ | ⟨j1, j2, j3⟩
      · subst j2
        exact fun hM => h3.foreign j o' r g j1 k2 j3 k4 (.inl hM)
      · exact s.hr.foreign i ob r g j2 k2 j3 k4
    · rw [h9 b (Nat.lt_of_lt_of_le hlt s.fro.size) fun hh => ?_]
      · exact s.fro.blk b hlt hnl
      · obtain ⟨i', o', r', m1, m2, m3, m4, m5⟩ := hhand b hh
        rcases s.fro.mine i' o' r' b m2 m3 m4 m5 with h | h
        · omega
        · exact hnl h
    · rcases back k1 k3 with ⟨j, o', j1, j2, j3, j4⟩ | ⟨j1, j2, j3⟩
      · subst j2
        rcases h8 j o' r g j1 k2 j3 k4 with h | h
        · exact .inl (Nat.le_trans s.fro.size h)
        · obtain ⟨i', o'', r', m1, m2, m3, m4, m5⟩ := hhand g h
          exact s.fro.mine i' o'' r' g m2 m3 m4 m5
      · exact s.fro.mine i ob r g j2 k2 j3 k4
    · obtain ⟨r1, e1, e2, e3⟩ := s.fro.rho i r hi
      obtain ⟨r2, f1, f2, f3⟩ := ev2.rho i r1 e1
      refine ⟨r2, f1, Nat.le_trans e2 f2, fun e => ?_⟩
      have hv1 : r.ver = r1.ver := by omega
      have h1' : r1 = r := e3 hv1
      subst h1'
      exact f3 e
  cases o with
  | ret y =>
    obtain ⟨v, rfl, hr'⟩ := h2
    refine k y v w' G ρ2 h1 ?_ ?_
    · rw [← hσ, ← hH2, lset2]; exact Rel.ren hr2 y v (Gs s.fro.size y v hr')
    · rw [← hσ, ← hH2]; exact s'
  | pan ch =>
    have : e = .panicked ch := h2
    subst this
    exact kp ch w' G ρ2 h1 (by rw [← hσ, ← hH2]; exact s')
theorem Wd {f : FuncId} (fn : Func) {ops : Array Oper} {rest : List Oper} {d : Nat} {T : TypeId} {ps : String} {af : Array Edge} {args : Array Operand} {ts : Array TypeId} {c : Operand} (sel : List Nat) {ys cs zs : List V} {H0 : List Ob} {post : Out → List Ob → Prop}
    (hs : SpecM P f zs H0 post) (hc : ovO F c = some (.f f cs)) (hf : P.funcs[f]? = some fn) (hb : fn.body.isSome = true) (hn : (fn.name == "runtime.NumGoroutine") = false) (hx : ovL F args.toList ys) (ha : ArgML (ys ++ cs) (renL sel zs)) (hzi : Ng sel.length zs = true) (hzf : Kw zs = true) (hsel : SelOk H sel sel H0) (hnd : sel.Nodup) (hO : ObsId sel.length H0) (hfl : D8 H0) (hd : d < Γ.N)
    (k : ∀ y G, post (.ret y) G → JO P ops rest Γ ((d, ren (Kz sel H.length G.length) y) :: F) (K6 sel H (Sn (Kz sel H.length G.length) G)) Q) (kp : ∀ ch G, post (.pan ch) G → Q (.panic ch) F (K6 sel H (Sn (Kz sel H.length G.length) G))) :
    JO P ops (⟨some d, .call { callee := .value c, args := args, argTypes := ts }, T, ps, af, none⟩ :: rest) Γ F H Q := fun a w ⟨ρ, s⟩ =>
  wpList_plain rfl fun K hK => Vm hc hf hb hn hx ha hzi hzf hsel hnd hO hfl hs s (fun y v w' G ρ' h1 h2 h4 => hK _ _ (k y G h1 _ _ ⟨ρ', h4.put hd h2⟩)) (fun ch w' G ρ' h1 h3 => ⟨F, _, kp ch G h1, ρ', h3⟩)
end

section
variable {P : Program} {Γ : Ctx} {F : Fr} {H : List Ob} {Q : Exit → Fr → List Ob → Prop}
end

section
variable {P : Program} {Γ : Ctx} {F : Fr} {H : List Ob} {Q : Exit → Fr → List Ob → Prop}
end

def Oz (M : Nat → Prop) (c : Nat → V) (g : Nat) (w : World) : Prop :=
  ∃ es ck, w.heap[g]? = some (.map es ck) ∧ ∀ e ∈ es.toList, ∃ n : Nat, e.key = .int .i64 (n : Int) ∧ Rel w M 0 [] (c n) e.val
structure CtxM (Γ : Ctx) (g : Nat) : Prop where
  m : Γ.M g
  l0 : ∀ b, Γ.L0 b ↔ b = g
  lt : g < Γ.w0.heap.size
  rho : Γ.ρ0 = []
def Agn (P : Program) (f : FuncId) (args : List V) (c : Nat → V) (g : Nat) (post : Out → Prop) : Prop :=
  ∀ (M : Nat → Prop) (w : World) (vals : List Value), (∀ b, M b → b < w.heap.size) → M g → Oz M c g w → RelL w M w.heap.size [] args vals →
    Calls P f vals.toArray w fun e w' => ∃ o, post o ∧ Jl w' M w.heap.size o e ∧ Oz M c g w' ∧ w'.os = w.os ∧ w'.tape = w.tape ∧ w'.output = w.output ∧ w.heap.size ≤ w'.heap.size ∧ ∀ b, b < w.heap.size → b ≠ g → w'.heap[b]? = w.heap[b]?
section
variable {P : Program} {Γ : Ctx} {c : Nat → V} {g : Nat} {F : Fr} {𝒬 : Exit → Act → World → Prop}
def JCM (P : Program) (x : Code) (Γ : Ctx) (c : Nat → V) (g : Nat) (F : Fr) (𝒬 : Exit → Act → World → Prop) : Prop := ∀ a w, StA Γ [] F [] a w → Oz Γ.M c g w → x.wp P 𝒬 a w
def JOM (P : Program) (ops : Array Oper) (l : List Oper) (Γ : Ctx) (c : Nat → V) (g : Nat) (F : Fr) (𝒬 : Exit → Act → World → Prop) : Prop := ∀ a w, StA Γ [] F [] a w → Oz Γ.M c g w → wpList P ops 𝒬 l a w
def JAM (P : Program) (ops : Array Oper) (fuel : Nat) (listed : Array Bool) (Γ : Ctx) (c : Nat → V) (g : Nat) (F : Fr) (𝒬 : Exit → Act → World → Prop) : Prop := ∀ a w, StA Γ [] F [] a w → Oz Γ.M c g w → Hj P ops 𝒬 fuel listed a w
def Af7 (P : Program) (fn : Func) (Γ : Ctx) (c : Nat → V) (g : Nat) (post : Out → Prop) : Exit → Act → World → Prop
  | .ret, a, w | .normal, a, w => ∃ F ys, StA Γ [] F [] a w ∧ Oz Γ.M c g w ∧ ResL P F [] fn.results.toList ys ∧ post (.ret (Ii ys))
  | _, _, _ => False
end

section
variable {P : Program} {Γ : Ctx} {c : Nat → V} {g : Nat} {F : Fr} {H : List Ob} {𝒬 : Exit → Act → World → Prop}
def JCP (P : Program) (x : Code) (Γ : Ctx) (F : Fr) (H : List Ob) (𝒬 : Exit → Act → World → Prop) : Prop := ∀ a w, St Γ F H a w → x.wp P 𝒬 a w
def QS (Γ : Ctx) (𝒬 : Exit → Act → World → Prop) : Exit → Fr → List Ob → Prop := fun e F' H' => ∀ a w, St Γ F' H' a w → 𝒬 e a w
end
theorem Spec.weak {P : Program} {f : FuncId} {args : List V} {post post' : Out → Prop} (h : Spec P f args post) (hw : ∀ o, post o → ∃ o', post' o' ∧ ∀ (w : World) (M : Nat → Prop) (B : Nat) (e : Ending), Jl w M B o e → Jl w M B o' e) : Spec P f args post' := fun M w vals h1 h2 =>
  (h M w vals h1 h2).mono fun e w' ⟨o, k1, k2, k3⟩ => by
    obtain ⟨o', q1, q2⟩ := hw o k1
    exact ⟨o', q1, q2 _ _ _ _ k2, k3⟩

section
variable {P : Program} {Γ : Ctx} {c : Nat → V} {g : Nat} {F : Fr} {H : List Ob} {𝒬 : Exit → Act → World → Prop}
def Afr (P : Program) (f : FuncId) (args : List V) (c : Nat → V) (g : Nat) (post : Out → List Ob → Prop) : Prop :=
  ∀ (M : Nat → Prop) (w : World) (vals : List Value), (∀ b, M b → b < w.heap.size) → M g → Oz M c g w → RelL w M w.heap.size [] args vals →
    Calls P f vals.toArray w fun e w' => ∃ o H' ρ', post o H' ∧ Mq w' (Bv M ρ' H') w.heap.size ρ' o e ∧ HR M w' w.heap.size ρ' H' ∧ w'.os = w.os ∧ w'.tape = w.tape ∧ w'.output = w.output ∧ w.heap.size ≤ w'.heap.size ∧
      (∀ (id : Nat) (ob : Ob) (re : Re) (gg : Nat), H'[id]? = some ob → ob.live = true → ρ'[id]? = some re → re.g = some gg → w.heap.size ≤ gg) ∧ (∀ b, b < w.heap.size → b ≠ g → w'.heap[b]? = w.heap[b]?)
def Aff (P : Program) (fn : Func) (Γ : Ctx) (post : Out → List Ob → Prop) : Exit → Act → World → Prop
  | .ret, a, w => ∃ F H ρ sel ys y, StA Γ ρ F H a w ∧ ResL P F H fn.results.toList ys ∧ ren sel y = Ii ys ∧ idB sel.length y = true ∧ sel.Nodup ∧ Hr (C3 Oe sel H) ∧ post (.ret y) (C3 Oe sel H)
  | _, _, _ => False
end

section
variable {P : Program} {Γ : Ctx} {F : Fr} {H : List Ob} {Q : Exit → Fr → List Ob → Prop}
end
def Af3 (rows : List (List Int)) : List (List V) := rows.map fun l => [V.n false .u64 l]

def Agm (g : Nat) (cells : List V) (w : World) (M : Nat → Prop) : Prop := Rel w M w.heap.size [] (.q cells) (.pointer (some ⟨g, 0, none⟩))
def Ago (P : Program) (f : FuncId) (g : Nat) (cells : List V) (args : List V) (post : Out → Prop) : Prop :=
  ∀ (M : Nat → Prop) (w : World) (vals : List Value), (∀ b, M b → b < w.heap.size) → Agm g cells w M → RelL w M w.heap.size [] args vals →
    Calls P f vals.toArray w fun e w' => ∃ o, post o ∧ Jl w' M w.heap.size o e ∧ Below w.heap.size w w'
section
variable {P : Program} {Γ : Ctx} {F : Fr} {H : List Ob} {Q : Exit → Fr → List Ob → Prop} {g : Nat} {cells : List V}
theorem P1 {c : Code} (t : Nat) {fr : Bool} {k : IntKind} {l : List Int} (hx : Cl F t = some (.n fr k l)) (j : JC P c Γ ((t, .n false k l) :: F) H Q) : JC P c Γ F H Q := fun a w ⟨ρ, s⟩ =>
  j a w ⟨ρ, s.recast t hx fun v h => by
    obtain ⟨A, c, e, h1, h2, h3⟩ := h
    exact ⟨A, c, e, h1, h2, fun hl => by obtain ⟨ad, e1, hb, hc⟩ := h3 hl; exact ⟨ad, e1, ⟨hb.1, hb.2.1, by simp⟩, hc⟩⟩⟩
end

section
variable {P : Program} {Γ : Ctx} {F : Fr} {H : List Ob} {Q : Exit → Fr → List Ob → Prop}
def Ctx.later (Γ : Ctx) (ρ : List Re) (d : Deferred) : Ctx := { Γ with ρ0 := ρ, ds := d :: Γ.ds }
def Ady (Ho Hc : List Ob) : Prop := Hc.length = Ho.length ∧ ∀ (i : Nat) (o : Ob), Ho[i]? = some o → ∃ us : List Value, Hc[i]? = some ⟨o.t, o.sz, o.ver, true, us.map V.c⟩ ∧ us.length = o.cs.length ∧ ∀ u ∈ us, u.oneCell' = true
def Ag3 (m : Nat) : V → Bool
  | .p id ver off => Nat.blt id m && ver == 0
  | _ => false
def Agr (M : Nat → Prop) (ρ : List Re) (H : List Ob) (m : Nat) : Nat → Prop := fun b => M b ∨ ∃ (id : Nat) (ob : Ob) (re : Re), m ≤ id ∧ H[id]? = some ob ∧ ob.live = true ∧ ρ[id]? = some re ∧ re.g = some b
def Ae0 (P : Program) (g : FuncId) (args : List V) (H : List Ob) (u u' : FrameMode) (H' : List Ob) : Prop :=
  ∀ (M : Nat → Prop) (w : World) (ρ : List Re) (vals : List Value), (∀ b, M b → b < w.heap.size) → HR M w w.heap.size ρ H → RelL w (Bv M ρ H) w.heap.size ρ args vals →
    CallsD P g vals.toArray u w fun e m w' => (∃ v, e = .returned v) ∧ m = u' ∧ ∃ ρ', HR M w' w.heap.size ρ' H' ∧
      w'.os = w.os ∧ w'.tape = w.tape ∧ w'.output = w.output ∧ Ev w (Bv M ρ H) w.heap.size ρ w' (Bv M ρ' H') w.heap.size ρ' ∧
      (∀ (id : Nat) (ob : Ob) (re : Re) (g : Nat), H'[id]? = some ob → ob.live = true → ρ'[id]? = some re → re.g = some g → w.heap.size ≤ g ∨ Ld ρ H g) ∧ (∀ b, b < w.heap.size → ¬ Ld ρ H b → w'.heap[b]? = w.heap[b]?)
def Aft (P : Program) (Qf : Exit → Fr → List Ob → Prop) (g : FuncId) (caps : List V) (m : Nat) (u : FrameMode) (F : Fr) (H : List Ob) : Prop :=
  ∃ (u' : FrameMode) (H' : List Ob), u ≠ .run ∧ settle u' = .returning ∧ H'.length = m ∧ m ≤ H.length ∧ (∀ o ∈ H.take m, o.live = true) ∧
    (∀ Hc, Ady (H.take m) Hc → ∃ Hp, Ae0 P g caps Hc u u' Hp ∧ Hp.length = m ∧ ∀ k : Nat, (H'[k]? = (H.take m)[k]? ∧ Hp[k]? = Hc[k]?) ∨ Hp[k]? = H'[k]?) ∧ Qf .ret F (H' ++ H.drop m)
def Af8 (P : Program) (Qf : Exit → Fr → List Ob → Prop) (g : FuncId) (caps : List V) (m : Nat) : Exit → Fr → List Ob → Prop
  | .ret, F, H | .normal, F, H => Aft P Qf g caps m .returning F H
  | .panic ch, F, H => Aft P Qf g caps m (.panicking ch) F H
  | _, _, _ => False
end

section
variable {P : Program} {Γ : Ctx} {F : Fr} {H : List Ob} {Q : Exit → Fr → List Ob → Prop}
def Ad1 (Γ : Ctx) (c0 : Frame) (cs : List Frame) (Q : Exit → Fr → List Ob → FrameMode → Prop) : Exit → Act → List Frame → World → Prop :=
  fun e a cs' w => ∃ F H m, cs' = { c0 with mode := m } :: cs ∧ Q e F H m ∧ St Γ F H a w
def JCS (P : Program) (x : Code) (Γ : Ctx) (F : Fr) (H : List Ob) (u : FrameMode) (Q : Exit → Fr → List Ob → FrameMode → Prop) : Prop :=
  ∀ (c0 : Frame) (cs : List Frame) a w, c0.mode = u → St Γ F H a w → x.wpS P (Ad1 Γ c0 cs Q) a (c0 :: cs) w
variable {u : FrameMode} {QS : Exit → Fr → List Ob → FrameMode → Prop}
def Afe (R : Fr → List Ob → FrameMode → Prop) (Q : Exit → Fr → List Ob → FrameMode → Prop) : Exit → Fr → List Ob → FrameMode → Prop
  | .normal, F, H, m => R F H m
  | e, F, H, m => Q e F H m
def Af4 : FrameMode → Value × FrameMode
  | .panicking ({ v, recovered := false, goexit := false } :: older) => (v, .panicking ({ v, recovered := true } :: older))
  | m => (.nilIface, m)
def Afg (P : Program) (fn : Func) (n : Nat) (u' : FrameMode) (Hp : List Ob) : Exit → Fr → List Ob → FrameMode → Prop
  | .ret, F, H, m | .normal, F, H, m => m = u' ∧ H.take n = Hp ∧ ObsId n Hp ∧ ∃ ys, ResL P F H fn.results.toList ys
  | _, _, _, _ => False
end

section
variable {P : Program} {ops : Array Oper} {Q : Exit → Act → List Frame → World → Prop}
def Aa3 (P : Program) (ops : Array Oper) (Q : Exit → Act → List Frame → World → Prop) (i : Nat) (K : Act → List Frame → World → Prop) (a : Act) (cs : List Frame) (w : World) : Prop :=
  match ops[i]? with
  | none => K a cs w
  | some o =>
    if Region.wanted o (yielded ops a.tmps) then
      match (execOp a.eval o).run P w with
      | .ok .recover w' =>
        match recoverD cs with
        | some (v, cs') => K (a.put o.dst v) cs' w'
        | none => K (a.put o.dst .nilIface) cs w'
      | r => o.upon P a (fun a' w' => K a' cs w') (fun e a' w' => Q e a' cs w') r
    else K (a.put o.dst undef) cs w
def Ae5 (P : Program) (ops : Array Oper) (Q : Exit → Act → List Frame → World → Prop) : Nat → Array Bool → Act → List Frame → World → Prop
  | 0, listed, a, cs, w => Region.ready .any ops listed = [] ∧ Q .normal a cs w
  | fuel + 1, listed, a, cs, w => (Region.ready .any ops listed = [] → Q .normal a cs w) ∧ ∀ i ∈ Region.ready .any ops listed, Aa3 P ops Q i (Ae5 P ops Q fuel (listed.setIfInBounds i true)) a cs w
end
section
variable {P : Program} {Γ : Ctx} {F : Fr} {H : List Ob} {u : FrameMode} {QS : Exit → Fr → List Ob → FrameMode → Prop} {ops : Array Oper}
def JAS (P : Program) (ops : Array Oper) (fuel : Nat) (listed : Array Bool) (Γ : Ctx) (F : Fr) (H : List Ob) (u : FrameMode) (QS : Exit → Fr → List Ob → FrameMode → Prop) : Prop :=
  ∀ (c0 : Frame) (cs : List Frame) a w, c0.mode = u → St Γ F H a w → Ae5 P ops (Ad1 Γ c0 cs QS) fuel listed a (c0 :: cs) w
def SS (P : Program) (ops : Array Oper) (fuel : Nat) (listed : Array Bool) (Γ : Ctx) (F : Fr) (H : List Ob) (u : FrameMode) (QS : Exit → Fr → List Ob → FrameMode → Prop) (i : Nat) : Prop :=
  ∀ (c0 : Frame) (cs : List Frame) a w, c0.mode = u → St Γ F H a w → Aa3 P ops (Ad1 Γ c0 cs QS) i (Ae5 P ops (Ad1 Γ c0 cs QS) fuel (listed.setIfInBounds i true)) a (c0 :: cs) w
def Adj (tx te tt fc ti : Nat) (ps : String) : List Oper :=
  [⟨some 3, .call { callee := .builtin .recover, args := #[], argTypes := #[] }, ti, ps, #[], none⟩,
   ⟨some 4, .load tx (.tmp 0), tx, ps, #[], none⟩,
   ⟨some 5, .load te (.tmp 1), te, ps, #[], none⟩,
   ⟨some 6, .call { callee := .value (.func fc), args := #[.tmp 3, .tmp 4, .tmp 5], argTypes := #[ti, tx, te] }, tt, ps, #[⟨0, .data⟩, ⟨1, .data⟩, ⟨2, .data⟩, ⟨0, .chain⟩], none⟩,
   ⟨some 2, .move (.tmp 6), tt, ps, #[⟨3, .data⟩], none⟩,
   ⟨some 7, .extract (.tmp 2) 0, tx, ps, #[⟨4, .data⟩], none⟩,
   ⟨some 8, .extract (.tmp 2) 1, te, ps, #[⟨4, .data⟩, ⟨7, .gcOnly .lateStores⟩], none⟩,
   ⟨none, .store tx (.tmp 0) (.tmp 7), 0, ps, #[⟨5, .data⟩, ⟨3, .chain⟩, ⟨0, .phase⟩, ⟨1, .phase⟩, ⟨2, .phase⟩, ⟨3, .phase⟩, ⟨4, .phase⟩, ⟨5, .phase⟩, ⟨6, .textOnly .lateStores⟩], none⟩,
   ⟨none, .store te (.tmp 1) (.tmp 8), 0, ps, #[⟨6, .data⟩, ⟨7, .chain⟩, ⟨0, .phase⟩, ⟨1, .phase⟩, ⟨2, .phase⟩, ⟨3, .phase⟩, ⟨4, .phase⟩, ⟨5, .phase⟩, ⟨6, .phase⟩, ⟨7, .phase⟩], none⟩]
end

section
variable {P : Program} {Γ : Ctx} {F : Fr} {H : List Ob} {Q : Exit → Fr → List Ob → Prop}
def Ag1 (P : Program) (T : TypeId) : Bool := match P.underlying T with | some (.interface _) | none => false | _ => true
def Ad4 (ag : Bool) (us : List Value) : V := if ag then .a (us.map V.c) else .c (us.headD undef)
def Agg (tg : TypeId) (e : Int) (rec : Bool) : List PanicEntry := [{ v := .iface tg (.agg #[.int .i64 e]), recovered := rec }]
structure Clo (P : Program) (g : FuncId) (tx te n : Nat) (ag : Bool) (tg : TypeId) (zv : V) : Prop where
  shape : ∃ (fn cfn : Func) (fc : FuncId) (tt ti : TypeId) (ps : String), P.funcs[g]? = some fn ∧ fn.body = some (.region 0 (Adj tx te tt fc ti ps).toArray true) ∧ fn.ntmps = 9 ∧ fn.results = #[] ∧ P.funcs[fc]? = some cfn ∧ cfn.body.isSome = true ∧ (cfn.name == "runtime.NumGoroutine") = false ∧
    (∀ (us : List Value) (ue : Value), us.length = n → (∀ u ∈ us, u.oneCell' = true) → ue.oneCell' = true → Spec P fc [.c .nilIface, Ad4 ag us, .c ue] (fun o => o = .ret (.t [Ad4 ag us, .c ue]))) ∧
    (∀ (us : List Value) (ue : Value) (e : Int), us.length = n → (∀ u ∈ us, u.oneCell' = true) → ue.oneCell' = true → Spec P fc [.c (.iface tg (.agg #[.int .i64 e])), Ad4 ag us, .c ue] (fun o => o = .ret (.t [zv, .i .i64 e])))
  hm : P.follows .mixedOrders = true
  hld : (ag = true ∧ Qi P tx n = true) ∨ (ag = false ∧ n = 1 ∧ K8 P tx = true)
  hsz : (P.info? tx).any (·.size == n) = true
  hle : K8 P te = true
  hz1 : (cellsV zv).length = n
  hz2 : (cellsV zv).all Aej = true
  hz3 : ∀ k, (cellsV zv).all (idB k) = true
variable {g tx te n : Nat} {ag : Bool} {tg : TypeId} {zv : V}
def Agb (Q : Exit → Fr → List Ob → Prop) : Exit → Fr → List Ob → Prop
  | .panic _, _, _ => False
  | e, F, H => Q e F H
end

section
variable {P : Program} {Γ : Ctx} {F : Fr} {H : List Ob} {Q : Exit → Fr → List Ob → Prop} {c : Code}
def JR (P : Program) (c : Code) (Γ : Ctx) (Q : Exit → Fr → List Ob → Prop) : Nat → Fr → List Ob → Prop
  | 0, _, _ => False
  | n + 1, F, H => JC P c Γ F H (Jm (JR P c Γ Q n) Q)
theorem He {n : Nat} (j : JC P c Γ F H (Jm (JR P c Γ Q n) Q)) : JR P c Γ Q (n + 1) F H := j
theorem P0 : ∀ (n : Nat) (F : Fr) (H : List Ob), JR P c Γ Q n F H → ∀ a w, St Γ F H a w → Code.rounds P c (toQ Γ Q) n a w
  | 0, _, _, h, _, _, _ => h.elim
  | n + 1, F, H, h, a, w, s => by
    refine Code.wp_mono (fun e a' w' ⟨F', H', q, s'⟩ => ?_) (h a w s)
    cases e with
    | normal => exact P0 n F' H' q a' w' s'
    | _ => exact ⟨F', H', q, s'⟩
theorem Km (n : Nat) (h : JR P c Γ Q n F H) : JC P (.loop c) Γ F H Q := fun a w s => wp_loop_rounds n (P0 n F H h a w s)
end
section
variable {P : Program} {Γ : Ctx} {F : Fr} {H : List Ob} {Q : Exit → Fr → List Ob → Prop}
end

section
variable {P : Program} {Γ : Ctx} {F : Fr} {H : List Ob} {Q : Exit → Fr → List Ob → Prop}
end

section
variable {P : Program} {Γ : Ctx} {F : Fr} {H : List Ob} {Q : Exit → Fr → List Ob → Prop} {c : Code}
theorem X1 {G : Type} (C : G → Prop) (Fg : G → Fr) (Hg : G → List Ob) (μ : G → Nat)
    (round : ∀ g, C g → JC P c Γ (Fg g) (Hg g) (Jm (fun F' H' => ∃ g', C g' ∧ μ g' < μ g ∧ ∀ a w, St Γ F' H' a w → St Γ (Fg g') (Hg g') a w) Q)) : ∀ (N : Nat) (g : G), C g → μ g < N → JR P c Γ Q N (Fg g) (Hg g)
  | 0, _, _, h => absurd h (Nat.not_lt_zero _)
  | N + 1, g, hg, hN => fun a w s => by
    refine Code.wp_mono (fun e a' w' ⟨F', H', q, s'⟩ => ?_) (round g hg a w s)
    cases e with
    | normal =>
      obtain ⟨g', h1, h2, h3⟩ := q
      exact ⟨Fg g', Hg g', X1 C Fg Hg μ round N g' h1 (by omega), h3 a' w' s'⟩
    | _ => exact ⟨F', H', q, s'⟩
theorem Z6 {F2 : Fr} {H2 : List Ob} (hF : ∀ a w, St Γ F H a w → St Γ F2 H2 a w) : ∀ {N : Nat}, JR P c Γ Q N F2 H2 → JR P c Γ Q N F H
  | 0, h => h
  | N + 1, h => fun a w s => h a w (hF a w s)
theorem Ok {ops : Array Oper} {rest : List Oper} (t : Nat) {b : Bool} {id ver off len T : Nat} {k : IntKind} {l l' : List Int} (hx : Cl F t = some (.a [.b b, .o id ver off len])) (hH : H[id]? = some ⟨T, 1, ver, true, A2 k l⟩) (hle : off + len ≤ l.length) (hl : (l.drop off).take len = l') (hp : ∀ b, ¬ Γ.L0 b)
    (j : JO P ops rest Γ ((t, .a [.b b, .n true k l']) :: F) (Ef H id) Q) : JO P ops rest Γ F H Q := fun a w ⟨ρ, s⟩ =>
  j a w ⟨ρ, s.frz id t hx fun v r => by
    obtain ⟨us, e, u, us1, e1, h1, u2, us2, e2, h2, h3⟩ := r
    exact ⟨us, e, u, us1, e1, h1, u2, us2, e2, hl ▸ s.frozen hH h2 hle hp, h3⟩⟩
theorem Age {N : Nat} (h : JR P c Γ Q N F H) : JC P (.loop c) Γ F H Q := Km N h
theorem Mw {m F0 F' : Fr} {H' H2 : List Ob} {n : Nat} {sel : List Nat} (hΓ : Γ.ρ0 = []) (hFn : F0.all (fun p => idB n p.2) = true) (hm : m.all (fun p => idB H2.length p.2) = true) (hO : ObsId H2.length H2)
    (h3 : ∀ i, i < n → sel[i]? = some i) (h4 : sel.Nodup) (h5 : SelD H' sel sel H2) (h6 : Cov F' (m.map fun p => (p.1, ren sel p.2)) F0) : ∀ a w, St Γ F' H' a w → St Γ (m ++ F0) H2 a w := fun a w ⟨ρ, s⟩ => by
  refine ⟨_, s.selS h5 (fun t y e => ?_) h4 (by rw [h5.len]; exact hO) hΓ⟩
  have hlen := h5.len
  cases hk : inK m t with
  | true =>
    rw [E2 _ _ _ hk] at e
    have hmem : ∀ (l : Fr) (t : Nat) (y : V), Cl l t = some y → ∃ p ∈ l, p.2 = y := fun l => by
      induction l with
      | nil => intro t y h; simp [Cl] at h
      | cons p l ih =>
        intro t y h
        obtain ⟨k, z⟩ := p
        simp only [Cl] at h
        cases hb : Nat.beq t k with
        | true => rw [hb] at h; injection h with h; exact ⟨_, List.mem_cons_self .., h⟩
        | false => rw [hb] at h; obtain ⟨p, h1, h2⟩ := ih t y h; exact ⟨p, List.mem_cons_of_mem _ h1, h2⟩
    have hmap : ∀ (l : Fr) (t : Nat) (y : V), Cl l t = some y → Cl (l.map fun p => (p.1, ren sel p.2)) t = some (ren sel y) := fun l => by
      induction l with
      | nil => intro t y h; simp [Cl] at h
      | cons p l ih =>
        intro t y h
        obtain ⟨k, z⟩ := p
        simp only [Cl, List.map_cons] at h ⊢
        cases hb : Nat.beq t k with
        | true => rw [hb] at h; injection h with h; rw [h]; rfl
        | false => rw [hb] at h; exact ih t y h
    have hinK : ∀ (l : Fr), inK (l.map fun p => (p.1, ren sel p.2)) t = inK l t := fun l => by
      induction l with
      | nil => rfl
      | cons p l ih => obtain ⟨k, z⟩ := p; simp only [List.map_cons, inK, ih]
    have h7 := h6 t (ren sel y) (by rw [E2 _ _ _ ((hinK _).trans hk)]; exact hmap _ _ _ e)
    obtain ⟨p, hp1, hp2⟩ := hmem _ _ _ e
    have h8 := List.all_eq_true.1 hm p hp1
    rcases h7 with h7 | h7
    · have : y = .u := by cases y <;> simp [ren] at h7 <;> rfl
      exact .inl this
    · exact .inr ⟨h7, by rw [hlen, ← hp2]; exact h8⟩
  | false =>
    have hinK : ∀ (l : Fr), inK (l.map fun p => (p.1, ren sel p.2)) t = inK l t := fun l => by
      induction l with
      | nil => rfl
      | cons p l ih => obtain ⟨k, z⟩ := p; simp only [List.map_cons, inK, ih]
    rw [D7 _ _ _ hk] at e
    have h7 := h6 t y (by rw [D7 _ _ _ ((hinK _).trans hk)]; exact e)
    have hmem : ∀ (l : Fr) (t : Nat) (y : V), Cl l t = some y → ∃ p ∈ l, p.2 = y := fun l => by
      induction l with
      | nil => intro t y h; simp [Cl] at h
      | cons p l ih =>
        intro t y h
        obtain ⟨k, z⟩ := p
        simp only [Cl] at h
        cases hb : Nat.beq t k with
        | true => rw [hb] at h; injection h with h; exact ⟨_, List.mem_cons_self .., h⟩
        | false => rw [hb] at h; obtain ⟨p, h1, h2⟩ := ih t y h; exact ⟨p, List.mem_cons_of_mem _ h1, h2⟩
    obtain ⟨p, hp1, hp2⟩ := hmem _ _ _ e
    have h8 : idB n y = true := by rw [← hp2]; exact List.all_eq_true.1 hFn p hp1
    rcases h7 with h7 | h7
    · exact .inl h7
    · refine .inr ⟨by rw [Sm sel n h3 y h8]; exact h7, P3 ?_ y h8⟩
      rcases Nat.eq_zero_or_pos n with h0 | h0
      · omega
      · have := (List.getElem?_eq_some_iff.1 (h3 (n - 1) (by omega))).1; omega
theorem Wc {G : Type} (F0 : Fr) (n : Nat) (C : G → Prop) (m : G → Fr) (Hg : G → List Ob) (μ : G → Nat) (N : Nat) (g0 : G) (h0 : C g0) (hN : μ g0 < N) (sel0 : List Nat) (s3 : ∀ i, i < n → sel0[i]? = some i) (s4 : sel0.Nodup) (s5 : SelD H sel0 sel0 (Hg g0)) (s6 : Cov F ((m g0).map fun p => (p.1, ren sel0 p.2)) F0) (hΓ : Γ.ρ0 = []) (hFn : F0.all (fun p => idB n p.2) = true)
    (hm : ∀ g, C g → (m g).all (fun p => idB (Hg g).length p.2) = true) (hO : ∀ g, C g → ObsId (Hg g).length (Hg g))
    (round : ∀ g, C g → JC P c Γ (m g ++ F0) (Hg g) (Jm (fun F' H' => ∃ g' sel, C g' ∧ μ g' < μ g ∧ (∀ i, i < n → sel[i]? = some i) ∧ sel.Nodup ∧ SelD H' sel sel (Hg g') ∧ Cov F' ((m g').map fun p => (p.1, ren sel p.2)) F0) Q)) : JR P c Γ Q N F H :=
  Z6 (Mw hΓ hFn (hm g0 h0) (hO g0 h0) s3 s4 s5 s6) (X1 C (fun g => m g ++ F0) Hg μ (fun g hg =>
    Ox (fun e F' H' q => by
      cases e with
      | normal =>
        obtain ⟨g', sel, h1, h2, h3, h4, h5, h6⟩ := q
        exact ⟨g', h1, h2, Mw hΓ hFn (hm g' h1) (hO g' h1) h3 h4 h5 h6⟩
      | _ => exact q) (round g hg)) N g0 h0 hN)
end

section
variable {P : Program} {Γ : Ctx} {F : Fr} {H : List Ob} {Q : Exit → Fr → List Ob → Prop}
theorem StA.lent {ρ : List Re} {a : Act} {w : World} (s : StA Γ ρ F H a w) {id ver off len t : Nat} {k : IntKind} {l : List Int} (hH : H[id]? = some ⟨t, 1, ver, true, A2 k l⟩) {v : Value} (r : Rel w (Bv Γ.M ρ H) Γ.w0.heap.size ρ (.o id ver off len) v) (hle : off + len ≤ l.length) :
    Rel w Γ.M Γ.w0.heap.size [] (.n false k ((l.drop off).take len)) v := by
  obtain ⟨re, o⟩ := s.own hH rfl
  obtain ⟨re', e1, _, hq⟩ := r
  obtain rfl : re' = re := by have := e1.symm.trans o.at_; injection this
  obtain ⟨hcap, hq⟩ := hq (o.ok.ver.symm)
  have hsz : re'.sz = 1 := o.ok.sz
  have hlen : ((l.drop off).take len).length = len := by simp; omega
  rcases hq with ⟨g, ad, hg, hv, had⟩ | ⟨hg, hv, ho, hl0⟩
  · obtain ⟨cur, c1, c2, c3, c4, c5⟩ := o.ok.blk g hg
    refine ⟨some ad, re'.cap - off, by rw [hlen]; exact hv, by rw [hlen]; omega, by omega, fun hne => ⟨ad, rfl, ?_, fun j y hy => ?_⟩⟩
    · have hpos : 0 < len := by
        rcases Nat.eq_zero_or_pos len with h | h
        · exact absurd (List.eq_nil_of_length_eq_zero (by rw [hlen, h])) hne
        · exact h
      rw [had (by omega)]
      exact ⟨s.hr.lt hH rfl o.at_ hg, s.hr.foreign id _ re' g hH rfl o.at_ hg, by simp⟩
    · rw [List.getElem?_take] at hy
      split at hy
      · rename_i hj
        rw [List.getElem?_drop] at hy
        rw [had (by omega), C6, hsz, Nat.mul_one]
        obtain ⟨u, d1, _, d3⟩ := o.cell hg (show (A2 k l)[off + j]? = some (.i k y) by rw [Je, hy]; rfl)
        rw [d1, show u = .int k y from d3]
      · cases hy
  · subst hl0
    exact ⟨none, 0, by simpa using hv, by simp, by simp [maxLen], fun h => absurd (by simp) h⟩
inductive LendV (H : List Ob) : V → V → Prop
  | i {k : IntKind} {n : Int} : LendV H (.i k n) (.i k n)
  | b {x : Bool} : LendV H (.b x) (.b x)
  | s {x : ByteArray} : LendV H (.s x) (.s x)
  | c {v : Value} : LendV H (.c v) (.c v)
  | n {fr : Bool} {k : IntKind} {l : List Int} : LendV H (.n fr k l) (.n fr k l)
  | nil {fr : Bool} {k : IntKind} : LendV H (.c (.slice none 0 0)) (.n fr k [])
  | o {id ver off len T : Nat} {k : IntKind} {l l' : List Int} (hH : H[id]? = some ⟨T, 1, ver, true, A2 k l⟩) (hle : off + len ≤ l.length) (hl : (l.drop off).take len = l') : LendV H (.o id ver off len) (.n false k l')
  | a0 : LendV H (.a []) (.a [])
  | a1 {y z : V} {ys zs : List V} (h : LendV H y z) (hs : LendV H (.a ys) (.a zs)) : LendV H (.a (y :: ys)) (.a (z :: zs))
theorem LendV.rel {y z : V} (h : LendV H y z) {ρ : List Re} {a : Act} {w : World} (s : StA Γ ρ F H a w) : ∀ {v : Value}, Rel w (Bv Γ.M ρ H) Γ.w0.heap.size ρ y v → Rel w Γ.M Γ.w0.heap.size [] z v := by
  have hM : ∀ b, Γ.M b → Bv Γ.M ρ H b := fun b h => .inl h
  induction h with
  | i => exact fun h => h
  | b => exact fun h => h
  | s => exact fun h => h
  | c => exact fun h => h
  | n => intro v h; exact s.dead_rel hM (ρ' := []) h
  | nil => rintro v rfl; exact I8
  | o hH hle hl => intro v h; rw [← hl]; exact s.lent hH h hle
  | a0 => rintro v ⟨us, e, hr⟩; exact ⟨us, e, hr⟩
  | a1 h hs ih1 ih2 =>
    rintro v ⟨us, rfl, u, us', rfl, hr1, hr2⟩
    obtain ⟨us'', e2, hr3⟩ := ih2 ⟨us', rfl, hr2⟩
    have : us' = us'' := by injection e2 with e2; have := congrArg Array.toList e2; simpa using this
    subst this
    exact ⟨_, rfl, u, us', rfl, ih1 hr1, hr3⟩
theorem Rj {f : FuncId} {fn : Func} {dst : Option Tmp} {T : TypeId} {ps : String} {af : Array Edge} {g : Option (Nat × Bool)} {c : Operand} {args : Array Operand} {ts : Array TypeId} {ys zs' zs : List V} {post : Out → Prop}
    (hc : ovO F c = some (.f f [])) (hf : P.funcs[f]? = some fn) (hb : fn.body.isSome = true) (hn : (fn.name == "runtime.NumGoroutine") = false) (hx : ovL F args.toList ys) (hl : LendV H (.a ys) (.a zs')) (ha : ArgL zs' zs) (hs : Spec P f zs post) (hsc : ∀ y, post (.ret y) → scB y = true) {ρ : List Re} {a : Act} {w : World} (s : StA Γ ρ F H a w) {K : Act → World → Prop} {R : Exit → Act → World → Prop}
    (k : ∀ y v w', post (.ret y) → Rel w' (Bv Γ.M ρ H) Γ.w0.heap.size ρ y v → Below w.heap.size w w' → StA Γ ρ F H a w' → K (a.put dst v) w')
    (kp : ∀ ch w', post (.pan ch) → Below w.heap.size w w' → StA Γ ρ F H a w' → R (.panic ch) a w') :
    (⟨dst, .call { callee := .value c, args := args, argTypes := ts }, T, ps, af, g⟩ : Oper).wp P a w K R := by
  obtain ⟨us0, hcv, hcr⟩ := s.ov hc
  have hus0 : us0 = [] := hcr
  subst hus0
  have hr := s.ovL hx
  have hargs : args.map a.eval = (args.toList.map a.eval).toArray := by apply Array.ext'; rw [Array.toList_map]
  have hr2 : RelL w Γ.M Γ.w0.heap.size [] zs' (args.toList.map a.eval) := by
    obtain ⟨us2, e2, hr2⟩ := hl.rel s (v := .agg (args.toList.map a.eval).toArray) ⟨_, rfl, hr⟩
    have : args.toList.map a.eval = us2 := by injection e2 with e2; have := congrArg Array.toList e2; simpa using this
    rw [this]; exact hr2
  have hcall := hs Γ.M w (args.toList.map a.eval) (fun b h => Nat.lt_of_lt_of_le (s.fro.old b h) s.fro.size) (ha.rel _ hr2)
  have hrun : (execOp a.eval ⟨dst, .call { callee := .value c, args := args, argTypes := ts }, T, ps, af, g⟩).run P w = .ok (.enter f (args.toList.map a.eval).toArray) w := by
    have hb' : ¬ fn.body = none := by intro h; rw [h] at hb; cases hb
    have hn' : ¬ fn.name = "runtime.NumGoroutine" := by simpa using hn
    simp [execOp, resolve, hcv, Deferred.ofValue, invoke, callFunc, program, Sem.run, hf]
    rw [if_neg hn', if_neg hb', hargs]
  unfold Oper.wp
  rw [hrun]
  show Calls P f _ w _
  refine hcall.mono fun e w' ⟨o, h1, h2, h3⟩ => ?_
  have s' := s.below h3
  cases o with
  | ret y =>
    obtain ⟨v, rfl, hr'⟩ := h2
    exact k y v w' h1 (Rel.sc y v (hsc y h1) hr') h3 s'
  | pan ch =>
    have : e = .panicked ch := h2
    subst this
    exact kp ch w' h1 h3 s'
theorem Kl {f : FuncId} (fn : Func) {ops : Array Oper} {rest : List Oper} {d : Nat} {T : TypeId} {ps : String} {af : Array Edge} {args : Array Operand} {ts : Array TypeId} {c : Operand} {ys zs' zs : List V} {post : Out → Prop}
    (hs : Spec P f zs post) (hc : ovO F c = some (.f f [])) (hf : P.funcs[f]? = some fn) (hb : fn.body.isSome = true) (hn : (fn.name == "runtime.NumGoroutine") = false) (hx : ovL F args.toList ys) (hl : LendV H (.a ys) (.a zs')) (ha : ArgL zs' zs) (hsc : ∀ y, post (.ret y) → scB y = true) (hd : d < Γ.N)
    (k : ∀ y, post (.ret y) → JO P ops rest Γ ((d, y) :: F) H Q) (kp : ∀ ch, post (.pan ch) → Q (.panic ch) F H) :
    JO P ops (⟨some d, .call { callee := .value c, args := args, argTypes := ts }, T, ps, af, none⟩ :: rest) Γ F H Q := fun a w ⟨ρ, s⟩ =>
  wpList_plain rfl fun K hK => Rj hc hf hb hn hx hl ha hs hsc s (fun y v w' h1 h2 _ h4 => hK _ _ (k y h1 _ _ ⟨ρ, h4.put hd h2⟩)) (fun ch w' h1 _ h3 => ⟨F, H, kp ch h1, ρ, h3⟩)
theorem Qm {f : FuncId} {fn : Func} {dst : Option Tmp} {T : TypeId} {ps : String} {af : Array Edge} {g : Option (Nat × Bool)} {c : Operand} {args : Array Operand} {ts : Array TypeId} {ys zs' zs : List V} {post : Out → List Ob → Prop}
    (hc : ovO F c = some (.f f [])) (hf : P.funcs[f]? = some fn) (hb : fn.body.isSome = true) (hn : (fn.name == "runtime.NumGoroutine") = false) (hx : ovL F args.toList ys) (hl : LendV H (.a ys) (.a zs')) (ha : ArgL zs' zs) (hs : SpecM P f zs [] post) (hid : ∀ o G, post o G → scG G) (hno : ∀ y G, post (.ret y) G → V1 y = true) {ρ : List Re} {a : Act} {w : World} (s : StA Γ ρ F H a w) {K : Act → World → Prop} {R : Exit → Act → World → Prop}
    (k : ∀ y v w' G ρ', post (.ret y) G → Rel w' (Bv Γ.M ρ' (H ++ G)) Γ.w0.heap.size ρ' (sh H.length y) v → Below w.heap.size w w' → StA Γ ρ' F (H ++ G) a w' → K (a.put dst v) w')
    (kp : ∀ ch w' G ρ', post (.pan ch) G → StA Γ ρ' F (H ++ G) a w' → R (.panic ch) a w') :
    (⟨dst, .call { callee := .value c, args := args, argTypes := ts }, T, ps, af, g⟩ : Oper).wp P a w K R := by
  obtain ⟨us0, hcv, hcr⟩ := s.ov hc
  have hus0 : us0 = [] := hcr
  subst hus0
  have hr := s.ovL hx
  have hargs : args.map a.eval = (args.toList.map a.eval).toArray := by apply Array.ext'; rw [Array.toList_map]
  have hr2 : RelL w Γ.M Γ.w0.heap.size [] zs' (args.toList.map a.eval) := by
    obtain ⟨us2, e2, hr2⟩ := hl.rel s (v := .agg (args.toList.map a.eval).toArray) ⟨_, rfl, hr⟩
    have : args.toList.map a.eval = us2 := by injection e2 with e2; have := congrArg Array.toList e2; simpa using this
    rw [this]; exact hr2
  have hcall := hs Γ.M w [] (args.toList.map a.eval) (fun b h => Nat.lt_of_lt_of_le (s.fro.old b h) s.fro.size) ⟨rfl, fun i o h => by simp at h, fun i j oi oj ri rj g _ h => by simp at h, fun i o r g h => by simp at h⟩ (by rw [L9]; exact ha.rel _ hr2)
  have hrun : (execOp a.eval ⟨dst, .call { callee := .value c, args := args, argTypes := ts }, T, ps, af, g⟩).run P w = .ok (.enter f (args.toList.map a.eval).toArray) w := by
    have hb' : ¬ fn.body = none := by intro h; rw [h] at hb; cases hb
    have hn' : ¬ fn.name = "runtime.NumGoroutine" := by simpa using hn
    simp [execOp, resolve, hcv, Deferred.ofValue, invoke, callFunc, program, Sem.run, hf]
    rw [if_neg hn', if_neg hb', hargs]
  unfold Oper.wp
  rw [hrun]
  show Calls P f _ w _
  refine hcall.mono fun e w' ⟨o, G, ρG, h1, h2, h3, h4, h5, h6, ev, h8, h9⟩ => ?_
  have hidG := hid o G h1
  have hnoh : ∀ b, ¬ Ld [] [] b := fun b ⟨i, o, r, hh, _⟩ => by simp at hh
  have hbelow : Below w.heap.size w w' := ⟨h4, h5, h6, ev.size, fun b hlt => h9 b hlt (hnoh b)⟩
  have hold : ∀ b, b < w.heap.size → w'.heap[b]? = w.heap[b]? := hbelow.block
  have hnew : ∀ (id : Nat) (ob : Ob) (re : Re) (g : Nat), G[id]? = some ob → ob.live = true → ρG[id]? = some re → re.g = some g → w.heap.size ≤ g := fun id ob re g k1 k2 k3 k4 => (h8 id ob re g k1 k2 k3 k4).resolve_right (hnoh g)
  have hlen := s.hr.len
  have hL := Ma (M := Γ.M) (ρG := ρG) (G := G) hlen
  have ev2 : Ev w (Bv Γ.M ρ H) Γ.w0.heap.size ρ w' (Bv Γ.M (ρ ++ ρG) (H ++ G)) Γ.w0.heap.size (ρ ++ ρG) := by
    refine ⟨ev.size, fun b hlt _ => hold b hlt, fun b hlt hn h => ?_, Nat.le_refl _, fun i r h => ⟨r, by rw [List.getElem?_append_left (List.getElem?_eq_some_iff.1 h).1]; exact h, Nat.le_refl _, fun _ => rfl⟩⟩
    rw [hL] at h
    rcases h with h | ⟨i, o, r, k1, k2, k3, k4⟩
    · exact hn h
    · have := hnew i o r b k1 k2 k3 k4; omega
  have s' : StA Γ (ρ ++ ρG) F (H ++ G) a w' := by
    refine ⟨⟨by rw [List.length_append, List.length_append, hlen, h3.len], fun i o k1 k2 => ?_, fun i j oi oj ri rj g hij k1 k2 k3 k4 k5 k6 => ?_, fun i o r g k1 k2 k3 k4 => ?_⟩, s.n, s.ds, fun t => (s.fr t).ev ev2, ⟨h4.trans s.fro.os, h5.trans s.fro.tape, h6.trans s.fro.output, Nat.le_trans s.fro.size ev.size, fun b hlt hnl => by rw [hold b (Nat.lt_of_lt_of_le hlt s.fro.size)]; exact s.fro.blk b hlt hnl, s.fro.old, fun i o r g k1 k2 k3 k4 => ?_, fun i r hi => ?_⟩⟩
    · rcases Nat.lt_or_ge i H.length with hlt | hge
      · rw [List.getElem?_append_left hlt] at k1
        obtain ⟨r, k3, k4⟩ := s.hr.ob i o k1 k2
        refine ⟨r, by rw [List.getElem?_append_left (by omega)]; exact k3, k4.ver, k4.sz, k4.nob, fun g hg => ?_⟩
        obtain ⟨cur, c1, c2, c3, c4, c5⟩ := k4.blk g hg
        have hglt : g < w.heap.size := (Array.getElem?_eq_some_iff.1 c1).1
        exact ⟨cur, by rw [hold g hglt]; exact c1, c2, c3, c4, fun j y hy => by obtain ⟨u, d1, d2, d3⟩ := c5 j y hy; exact ⟨u, d1, d2, d3.ev ev2⟩⟩
      · rw [List.getElem?_append_right hge] at k1
        obtain ⟨r, k3, k4⟩ := h3.ob _ o k1 k2
        refine ⟨r, by rw [List.getElem?_append_right (by omega), hlen]; exact k3, k4.ver, k4.sz, k4.nob, fun g hg => ?_⟩
        obtain ⟨cur, c1, c2, c3, c4, c5⟩ := k4.blk g hg
        refine ⟨cur, c1, c2, c3, c4, fun j y hy => ?_⟩
        obtain ⟨u, d1, d2, d3⟩ := c5 j y hy
        exact ⟨u, d1, d2, Rel.sc y u (hidG o (List.mem_of_getElem? k1) k2 y (List.mem_of_getElem? hy)) d3⟩
    · rcases Nat.lt_or_ge i H.length with hi | hi <;> rcases Nat.lt_or_ge j H.length with hj | hj
      · rw [List.getElem?_append_left hi] at k1
        rw [List.getElem?_append_left hj] at k3
        rw [List.getElem?_append_left (by omega)] at k5 k6
        exact s.hr.apart i j oi oj ri rj g hij k1 k2 k3 k4 k5 k6
      · rw [List.getElem?_append_left hi] at k1
        rw [List.getElem?_append_right hj] at k3
        rw [List.getElem?_append_left (by omega)] at k5
        rw [List.getElem?_append_right (by omega), hlen] at k6
        intro hg hg'
        obtain ⟨r, m1, m2⟩ := s.hr.ob i oi k1 k2
        obtain rfl : r = ri := by have := m1.symm.trans k5; injection this
        obtain ⟨cur, c1, _⟩ := m2.blk g hg
        have hglt : g < w.heap.size := (Array.getElem?_eq_some_iff.1 c1).1
        have := hnew _ oj rj g k3 k4 k6 hg'
        omega
      · rw [List.getElem?_append_right hi] at k1
        rw [List.getElem?_append_left hj] at k3
        rw [List.getElem?_append_right (by omega), hlen] at k5
        rw [List.getElem?_append_left (by omega)] at k6
        intro hg hg'
        obtain ⟨r, m1, m2⟩ := s.hr.ob j oj k3 k4
        obtain rfl : r = rj := by have := m1.symm.trans k6; injection this
        obtain ⟨cur, c1, _⟩ := m2.blk g hg'
        have hglt : g < w.heap.size := (Array.getElem?_eq_some_iff.1 c1).1
        have := hnew _ oi ri g k1 k2 k5 hg
        omega
      · rw [List.getElem?_append_right hi] at k1
        rw [List.getElem?_append_right hj] at k3
        rw [List.getElem?_append_right (by omega), hlen] at k5 k6
        exact h3.apart _ _ oi oj ri rj g (by omega) k1 k2 k3 k4 k5 k6
    · rcases Nat.lt_or_ge i H.length with hi | hi
      · rw [List.getElem?_append_left hi] at k1
        rw [List.getElem?_append_left (by omega)] at k3
        exact s.hr.foreign i o r g k1 k2 k3 k4
      · rw [List.getElem?_append_right hi] at k1
        rw [List.getElem?_append_right (by omega), hlen] at k3
        exact fun hM => h3.foreign _ o r g k1 k2 k3 k4 hM
    · rcases Nat.lt_or_ge i H.length with hi | hi
      · rw [List.getElem?_append_left hi] at k1
        rw [List.getElem?_append_left (by omega)] at k3
        exact s.fro.mine i o r g k1 k2 k3 k4
      · rw [List.getElem?_append_right hi] at k1
        rw [List.getElem?_append_right (by omega), hlen] at k3
        have := hnew _ o r g k1 k2 k3 k4
        exact .inl (Nat.le_trans s.fro.size this)
    · obtain ⟨r1, e1, e2, e3⟩ := s.fro.rho i r hi
      exact ⟨r1, by rw [List.getElem?_append_left (List.getElem?_eq_some_iff.1 e1).1]; exact e1, e2, e3⟩
  cases o with
  | ret y =>
    obtain ⟨v, rfl, hr'⟩ := h2
    refine k y v w' G (ρ ++ ρG) h1 ?_ hbelow s'
    rw [hL, ← hlen]
    exact Gs s.fro.size _ v (Rel.sh y v (Rel.own y v (hno y G h1) hr'))
  | pan ch =>
    have : e = .panicked ch := h2
    subst this
    exact kp ch w' G _ h1 s'
theorem Jd {f : FuncId} (fn : Func) {ops : Array Oper} {rest : List Oper} {d : Nat} {T : TypeId} {ps : String} {af : Array Edge} {args : Array Operand} {ts : Array TypeId} {c : Operand} {ys zs' zs : List V} {post : Out → List Ob → Prop}
    (hs : SpecM P f zs [] post) (hid : ∀ o G, post o G → scG G) (hno : ∀ y G, post (.ret y) G → V1 y = true) (hc : ovO F c = some (.f f [])) (hf : P.funcs[f]? = some fn) (hb : fn.body.isSome = true) (hn : (fn.name == "runtime.NumGoroutine") = false) (hx : ovL F args.toList ys) (hl : LendV H (.a ys) (.a zs')) (ha : ArgL zs' zs) (hd : d < Γ.N)
    (k : ∀ y G, post (.ret y) G → JO P ops rest Γ ((d, sh H.length y) :: F) (H ++ G) Q) (kp : ∀ ch G, post (.pan ch) G → Q (.panic ch) F (H ++ G)) :
    JO P ops (⟨some d, .call { callee := .value c, args := args, argTypes := ts }, T, ps, af, none⟩ :: rest) Γ F H Q := fun a w ⟨ρ, s⟩ =>
  wpList_plain rfl fun K hK => Qm hc hf hb hn hx hl ha hs hid hno s (fun y v w' G ρ' h1 h2 _ h4 => hK _ _ (k y G h1 _ _ ⟨ρ', h4.put hd h2⟩)) (fun ch w' G ρ' h1 h3 => ⟨F, H ++ G, kp ch G h1, ρ', h3⟩)
end

section
variable {P : Program} {Γ : Ctx} {F : Fr} {H : List Ob} {Q : Exit → Fr → List Ob → Prop}
theorem zmv {ops : Array Oper} {rest : List Oper} {d : Nat} {x : Operand} {T : TypeId} {ps : String} {af : Array Edge} {y : V} (h : ovO F x = some y) (hd : d < Γ.N) (j : JO P ops rest Γ ((d, y) :: F) H Q) : JO P ops (⟨some d, .move x, T, ps, af, none⟩ :: rest) Γ F H Q := Ac (A0 h) hd j
theorem zas {ops : Array Oper} {rest : List Oper} {d : Nat} {x : Operand} {T : TypeId} {ps : String} {af : Array Edge} {y : V} (h : ovO F x = some y) (hd : d < Γ.N) (j : JO P ops rest Γ ((d, y) :: F) H Q) : JO P ops (⟨some d, .assign x, T, ps, af, none⟩ :: rest) Γ F H Q := Ac (Cr h) hd j
theorem zsr {id : Nat} {l : List Oper} {y : Code} (h : JO P l.toArray l Γ F H (Jm (fun F' H' => JC P y Γ F' H' Q) Q)) : JC P (.seq (.region id l.toArray false) y) Γ F H Q := Af (Ag h)
theorem zal {ops : Array Oper} {fuel : Nat} {listed : Array Bool} (i : Nat) {st : Bool} {o : Oper} {d : Nat} {y : V} (h : LO P ops st Γ o d F H y) (hi : ops[i]? = some o) (j : JA P ops fuel (listed.setIfInBounds i true) Γ ((d, y) :: F) H Q) (hs : Region.noSelect ops = true := by kernel_rfl) (hr : (Region.ready .any ops listed).contains i = true := by kernel_rfl) (hf : Wj st ops listed i = true := by kernel_rfl) (hQ : ∀ c F H d, Q (.panic c) F H → Q (.panic c) ((d, .u) :: F) H := by exact fun _ _ _ _ h => h) : JA P ops (fuel + 1) listed Γ F H Q := Agf i h hi hs hr hf hQ j
theorem Ax {ops : Array Oper} {fuel : Nat} {listed : Array Bool} (i : Nat) (D : List Nat) {st : Bool} {o : Oper} {d : Nat} {y : V} (h : LO P ops st Γ o d F H y) (hi : ops[i]? = some o) (j : JA P ops fuel (listed.setIfInBounds i true) Γ ((d, y) :: F) H Q) (hs : Region.noSelect ops = true := by kernel_rfl) (hr : (Region.ready .any ops listed).contains i = true := by kernel_rfl) (hf : Ty st ops listed i D = true := by kernel_rfl) (hdp : Afo ops listed i D = true := by kernel_rfl) (hQ : ∀ c F H d, Q (.panic c) F H → Q (.panic c) ((d, .u) :: F) H := by exact fun _ _ _ _ h => h) : JA P ops (fuel + 1) listed Γ F H Q := Bz i D h hi hs hr hf hdp hQ j
theorem Says.v5 {F r : Fr} {a b c d e : Nat} (h : Says F r) : Says F ((a, .u) :: (b, .u) :: (c, .u) :: (d, .u) :: (e, .u) :: r) := .u (.u (.u (.u (.u h))))
theorem Says.v9 {F r : Fr} {a b c d e f g i j k : Nat} (h : Says F r) : Says F ((a, .u) :: (b, .u) :: (c, .u) :: (d, .u) :: (e, .u) :: (f, .u) :: (g, .u) :: (i, .u) :: (j, .u) :: (k, .u) :: r) := .v5 (.v5 h)
theorem zlb {a b : Nat} (h : Nat.ble a b = true) : a ≤ b := Nat.le_of_ble_eq_true h
end

def tN (l : List Int) : Nat → Nat
  | 0 => 0
  | k + 1 => if l.getD k 0 = 0 then tN l k else k + 1
def trm (l : List Int) : List Int := l.take (tN l l.length)
theorem Yu (l : List Int) : ∀ k, tN l k ≤ k
  | 0 => Nat.le_refl _
  | k + 1 => by simp only [tN]; split <;> have := Yu l k <;> omega
theorem R2 {l : List Int} {k : Nat} (h0 : 0 < k) (h : l.getD (k - 1) 0 = 0) : tN l (k - 1) = tN l k := by
  obtain ⟨j, rfl⟩ : ∃ j, k = j + 1 := ⟨k - 1, by omega⟩
  simp only [Nat.add_sub_cancel] at h ⊢
  simp only [tN]
  rw [if_pos h]
theorem N3 {l : List Int} {k : Nat} (h0 : 0 < k) (h : ¬ l.getD (k - 1) 0 = 0) : tN l k = k := by
  obtain ⟨j, rfl⟩ : ∃ j, k = j + 1 := ⟨k - 1, by omega⟩
  simp only [Nat.add_sub_cancel] at h
  simp only [tN]
  rw [if_neg h]
theorem Ae9 {l : List Int} {k : Nat} (h : ¬ 0 < k) : tN l k = k := by
  have : k = 0 := by omega
  subst this; rfl
theorem C7 (l : List Int) : (trm l).length ≤ l.length := by unfold trm; rw [List.length_take]; omega
theorem It {l : List Int} {k i : Nat} (h : i < k) : (l.take k).getD i 0 = l.getD i 0 := by
  rw [List.getD_eq_getElem?_getD, List.getD_eq_getElem?_getD, List.getElem?_take, if_pos h]
def A3 (l : List Int) : Prop := ∀ x ∈ l, 0 ≤ x ∧ x < 18446744073709551616
theorem Bk {l : List Int} (h : A3 l) : A3 (trm l) := fun x hx => h x (List.mem_of_mem_take hx)
theorem Ny {l : List Int} (h : A3 l) {i : Nat} (hi : i < l.length) : 0 ≤ l.getD i 0 ∧ l.getD i 0 < 18446744073709551616 := by
  rw [List.getD_eq_getElem?_getD, List.getElem?_eq_getElem hi]; exact h _ (List.getElem_mem hi)
theorem Bg {l : List Int} (h : A3 l) (i : Nat) : 0 ≤ l.getD i 0 ∧ l.getD i 0 < 18446744073709551616 := by
  by_cases hi : i < l.length
  · exact Ny h hi
  · rw [List.getD_eq_getElem?_getD, List.getElem?_eq_none (by omega)]; exact ⟨by decide, by decide⟩
def bl : Nat → Nat → Nat
  | 0, _ => 0
  | f + 1, n => if n = 0 then 0 else 1 + bl f (n / 2)
theorem Uv : ∀ f n, bl f n ≤ f
  | 0, _ => Nat.le_refl _
  | f + 1, n => by simp only [bl]; split <;> have := Uv f (n / 2) <;> omega
theorem Uw : ∀ (f d n : Nat), n < 2 ^ f → bl (f + d) n = bl f n
  | 0, d, n, h => by
    have : n = 0 := by simpa using h
    subst this
    cases d <;> simp [bl]
  | f + 1, d, n, h => by
    rw [show f + 1 + d = (f + d) + 1 by omega]
    simp only [bl]
    split
    · rfl
    · rw [Uw f d (n / 2) (by rw [Nat.pow_succ] at h; omega)]
theorem Qh : ∀ (k f n : Nat), 2 ^ k ≤ n → bl (k + f) n = k + bl f (n / 2 ^ k)
  | 0, f, n, _ => by simp
  | k + 1, f, n, h => by
    have h2 : 2 ^ (k + 1) = 2 ^ k * 2 := Nat.pow_succ ..
    have hp : 0 < 2 ^ k := Nat.two_pow_pos k
    rw [show k + 1 + f = (k + f) + 1 by omega]
    simp only [bl]
    rw [if_neg (by omega), Qh k f (n / 2) (by omega), h2, Nat.mul_comm, ← Nat.div_div_eq_div_mul]
    omega
theorem Jg {k n : Nat} (hk : k ≤ 64) (h : 2 ^ k ≤ n) (hn : n < 2 ^ 64) : bl 64 n = k + bl 64 (n / 2 ^ k) := by
  have h1 := Qh k (64 - k) n h
  rw [show k + (64 - k) = 64 by omega] at h1
  rw [h1]
  have h2 : n / 2 ^ k < 2 ^ (64 - k) := by
    rw [Nat.div_lt_iff_lt_mul (Nat.two_pow_pos k), ← Nat.pow_add, show 64 - k + k = 64 by omega]; exact hn
  have h3 := Uw (64 - k) k _ h2
  rw [show 64 - k + k = 64 by omega] at h3
  rw [h3]
def Tj : ByteArray := ⟨((List.range 256).map fun i => (bl 8 i).toUInt8).toArray⟩
theorem Nc {i : Nat} (h : i < 256) : Kq Tj i = (bl 64 i : Int) := by
  have key : ∀ j : Fin 256, Kq Tj j.val = (bl 64 j.val : Int) := by decide +kernel
  exact key ⟨i, h⟩
theorem Kc {n k b : Nat} {kk : Int} (h : 2 ^ min kk.toNat b = k) : ((n : Int)).fdiv (2 ^ min kk.toNat b) = ((n / k : Nat) : Int) := by
  have : ((2 : Int) ^ min kk.toNat b) = ((k : Nat) : Int) := by rw [← h]; norm_cast
  rw [this]
  exact (Int.ofNat_fdiv n k).symm
def Dp (l : List Int) : Nat := if (trm l).length = 0 then 0 else 64 * ((trm l).length - 1) + bl 64 ((trm l).getD ((trm l).length - 1) 0).toNat
theorem Kj (l : List Int) : Dp l ≤ 64 * l.length := by
  unfold Dp
  have h1 := C7 l
  split
  · omega
  · have := Uv 64 ((trm l).getD ((trm l).length - 1) 0).toNat
    omega
def Jf (a b : List Int) : Nat → Int
  | 0 => 0
  | k + 1 => if a.getD k 0 < b.getD k 0 then -1 else if b.getD k 0 < a.getD k 0 then 1 else Jf a b k
def Lk (a b : List Int) : Int := if a.length < b.length then -1 else if b.length < a.length then 1 else Jf a b a.length
def adN (a b : List Int) : Nat → List Int × Int
  | 0 => ([], 0)
  | i + 1 => ((adN a b i).1 ++ [(a.getD i 0 + b.getD i 0 + (adN a b i).2) % 18446744073709551616], (a.getD i 0 + b.getD i 0 + (adN a b i).2) / 18446744073709551616)
theorem Dk (a b : List Int) : ∀ i, (adN a b i).1.length = i
  | 0 => rfl
  | i + 1 => by simp only [adN, List.length_append, Dk a b i]; rfl
theorem Q9 {a b : List Int} (ha : A3 a) (hb : A3 b) : ∀ i, 0 ≤ (adN a b i).2 ∧ (adN a b i).2 ≤ 1
  | 0 => ⟨Int.le_refl 0, (by decide : (0 : Int) ≤ 1)⟩
  | i + 1 => by
    have h1 := Bg ha i
    have h2 := Bg hb i
    have h3 := Q9 ha hb i
    simp only [adN]
    omega
theorem Q8 {a b : List Int} : ∀ i, A3 (adN a b i).1
  | 0 => by intro x hx; cases hx
  | i + 1 => by
    intro x hx
    simp only [adN, List.mem_append, List.mem_singleton] at hx
    rcases hx with hx | hx
    · exact Q8 i x hx
    · subst hx; omega
def sbN (a b : List Int) : Nat → List Int × Int
  | 0 => ([], 0)
  | i + 1 => ((sbN a b i).1 ++ [if a.getD i 0 < b.getD i 0 + (sbN a b i).2 then a.getD i 0 - b.getD i 0 - (sbN a b i).2 + 18446744073709551616 else a.getD i 0 - b.getD i 0 - (sbN a b i).2], if a.getD i 0 < b.getD i 0 + (sbN a b i).2 then 1 else 0)
theorem Dh (a b : List Int) : ∀ i, (sbN a b i).1.length = i
  | 0 => rfl
  | i + 1 => by simp only [sbN, List.length_append, Dh a b i]; rfl
theorem Qt (a b : List Int) : ∀ i, 0 ≤ (sbN a b i).2 ∧ (sbN a b i).2 ≤ 1
  | 0 => ⟨Int.le_refl 0, (by decide : (0 : Int) ≤ 1)⟩
  | i + 1 => by simp only [sbN]; split <;> decide
theorem Mx {a b : List Int} (ha : A3 a) (hb : A3 b) : ∀ i, A3 (sbN a b i).1
  | 0 => by intro x hx; cases hx
  | i + 1 => by
    have h1 := Bg ha i
    have h2 := Bg hb i
    have h3 := Qt a b i
    intro x hx
    simp only [sbN, List.mem_append, List.mem_singleton] at hx
    rcases hx with hx | hx
    · exact Mx ha hb i x hx
    · subst hx; split <;> omega
def Cv (l : List Int) (n : Nat) : List Int := l ++ List.replicate (n - l.length) 0
theorem Et {l : List Int} {n : Nat} (h : l.length ≤ n) : (Cv l n).length = n := by unfold Cv; rw [List.length_append, List.length_replicate]; omega
theorem E5 {l : List Int} {n : Nat} {v : Int} (h : l.length < n) : (Cv l n).set l.length v = Cv (l ++ [v]) n := by
  unfold Cv
  obtain ⟨m, hm⟩ : ∃ m, n - l.length = m + 1 := ⟨n - l.length - 1, by omega⟩
  rw [hm, List.replicate_succ, List.set_append_right _ _ (Nat.le_refl _), Nat.sub_self, List.set_cons_zero, List.length_append, List.length_singleton, show n - (l.length + 1) = m by omega]
  simp
theorem D0 {l : List Int} {n : Nat} (h : l.length = n) : Cv l n = l := by unfold Cv; rw [h, Nat.sub_self]; simp
theorem Dw {l : List Int} {i : Nat} (h : l.length ≤ i) : l.getD i 0 = 0 := by rw [List.getD_eq_getElem?_getD, List.getElem?_eq_none h]; rfl
theorem Uq {a b : List Int} {k : Nat} (h0 : 0 < k) (h : a.getD (k - 1) 0 < b.getD (k - 1) 0) : Jf a b k = -1 := by
  obtain ⟨j, rfl⟩ : ∃ j, k = j + 1 := ⟨k - 1, by omega⟩
  simp only [Nat.add_sub_cancel] at h
  simp only [Jf]; rw [if_pos h]
theorem Ur {a b : List Int} {k : Nat} (h0 : 0 < k) (h : b.getD (k - 1) 0 < a.getD (k - 1) 0) : Jf a b k = 1 := by
  obtain ⟨j, rfl⟩ : ∃ j, k = j + 1 := ⟨k - 1, by omega⟩
  simp only [Nat.add_sub_cancel] at h
  simp only [Jf]; rw [if_neg (by omega), if_pos h]
theorem Us {a b : List Int} {k : Nat} (h0 : 0 < k) (h1 : ¬ a.getD (k - 1) 0 < b.getD (k - 1) 0) (h2 : ¬ b.getD (k - 1) 0 < a.getD (k - 1) 0) : Jf a b (k - 1) = Jf a b k := by
  obtain ⟨j, rfl⟩ : ∃ j, k = j + 1 := ⟨k - 1, by omega⟩
  simp only [Nat.add_sub_cancel] at h1 h2 ⊢
  simp only [Jf]; rw [if_neg h1, if_neg h2]
theorem T8 {X Y : List Int} {i n : Nat} (h : i < n) : (Cv (adN X Y i).1 n).set ((0 + i) * 1) ((X.getD i 0 + Y.getD i 0 + (adN X Y i).2) % 18446744073709551616) = Cv (adN X Y (i + 1)).1 n := by
  rw [Nat.zero_add, Nat.mul_one]
  have := E5 (l := (adN X Y i).1) (n := n) (v := (X.getD i 0 + Y.getD i 0 + (adN X Y i).2) % 18446744073709551616) (by rw [Dk]; exact h)
  rw [Dk] at this
  exact this
theorem T6 {X Y : List Int} {i n : Nat} (h : i < n) : (Cv (sbN X Y i).1 n).set ((0 + i) * 1) (if X.getD i 0 < Y.getD i 0 + (sbN X Y i).2 then X.getD i 0 - Y.getD i 0 - (sbN X Y i).2 + 18446744073709551616 else X.getD i 0 - Y.getD i 0 - (sbN X Y i).2) = Cv (sbN X Y (i + 1)).1 n := by
  rw [Nat.zero_add, Nat.mul_one]
  have := E5 (l := (sbN X Y i).1) (n := n) (v := if X.getD i 0 < Y.getD i 0 + (sbN X Y i).2 then X.getD i 0 - Y.getD i 0 - (sbN X Y i).2 + 18446744073709551616 else X.getD i 0 - Y.getD i 0 - (sbN X Y i).2) (by rw [Dh]; exact h)
  rw [Dh] at this
  exact this
theorem Iv {l : List Int} {n : Nat} {v : Int} (h : l.length = n) : (Cv l (n + 1)).set ((0 + n) * 1) v = l ++ [v] := by
  rw [Nat.zero_add, Nat.mul_one]
  subst h
  rw [E5 (by omega), D0 (by simp)]
def swL (a b : List Int) : List Int × List Int := if a.length < b.length then (b, a) else (a, b)
def Lu (a b : List Int) : List Int := (adN (swL (trm a) (trm b)).1 (swL (trm a) (trm b)).2 (swL (trm a) (trm b)).1.length).1 ++ [(adN (swL (trm a) (trm b)).1 (swL (trm a) (trm b)).2 (swL (trm a) (trm b)).1.length).2]
def Nu (a b : List Int) : List Int := (sbN (trm a) (trm b) (trm a).length).1
theorem Ei {l : List Int} {v : Int} (h : A3 l) (h0 : 0 ≤ v) (h1 : v < 18446744073709551616) : A3 (l ++ [v]) := fun x hx => by
  rcases List.mem_append.1 hx with hx | hx
  · exact h x hx
  · rw [List.mem_singleton] at hx; subst hx; exact ⟨h0, h1⟩
def dig (l : List Int) : List Int := l.flatMap fun v => [v % 4294967296, v / 4294967296]
theorem Kp (l : List Int) : (dig l).length = 2 * l.length := by
  induction l with
  | nil => rfl
  | cons v l ih => simp only [dig, List.flatMap_cons, List.length_append, List.length_cons, List.length_nil] at ih ⊢; omega
theorem Wt {l : List Int} {i : Nat} (h : i < l.length) : dig (l.take (i + 1)) = dig (l.take i) ++ [l.getD i 0 % 4294967296, l.getD i 0 / 4294967296] := by
  rw [List.take_succ_eq_append_getElem h, List.getD_eq_getElem?_getD, List.getElem?_eq_getElem h]
  unfold dig
  rw [List.flatMap_append]
  rfl
def Ks : List Int → List Int
  | [] => []
  | [x] => [x]
  | x :: y :: r => IntKind.u64.wrap (x + IntKind.u64.wrap (y * 4294967296)) :: Ks r
theorem F8 {l : List Int} {i : Nat} (h : i < l.length) : l.drop i = l.getD i 0 :: l.drop (i + 1) := by
  rw [List.drop_eq_getElem_cons h, List.getD_eq_getElem?_getD, List.getElem?_eq_getElem h]; rfl
theorem Aen {l : List Int} {j : Nat} (h : j + 1 < l.length) : Ks (l.drop j) = IntKind.u64.wrap (l.getD j 0 + IntKind.u64.wrap (l.getD (j + 1) 0 * 4294967296)) :: Ks (l.drop (j + 2)) := by
  rw [F8 (by omega : j < l.length), F8 h]; rfl
theorem Aeo {l : List Int} {j : Nat} (h : j < l.length) (h2 : ¬ j + 1 < l.length) : Ks (l.drop j) = l.getD j 0 :: Ks (l.drop (j + 2)) := by
  rw [F8 h, List.drop_eq_nil_of_le (by omega : l.length ≤ j + 1), List.drop_eq_nil_of_le (by omega : l.length ≤ j + 2)]; rfl
theorem Pw : ∀ l : List Int, (Ks l).length ≤ l.length
  | [] => Nat.le_refl _
  | [_] => Nat.le_refl _
  | _ :: _ :: r => by have := Pw r; simp only [Ks, List.length_cons]; omega
theorem Ad0 {x : Int} (h : ¬ x = 0) : trm [x] = [x] := by
  unfold trm
  simp only [List.length_singleton, tN]
  rw [if_neg (by simpa using h)]
  rfl
theorem H8 {v : Int} (h0 : 0 ≤ v) (h1 : v < 18446744073709551616) : A3 [v] := fun x hx => by rw [List.mem_singleton] at hx; subst hx; exact ⟨h0, h1⟩
theorem Agk {x d : Int} (h : d ≤ x) : ¬ Lk [x] [d] < 0 := by
  unfold Lk
  simp only [List.length_singleton, Jf]
  rw [if_neg (by omega), if_neg (by omega)]
  have e1 : [x].getD 0 0 = x := rfl
  have e2 : [d].getD 0 0 = d := rfl
  rw [e1, e2, if_neg (by omega)]
  split <;> omega
theorem H4 {m r : Int} (h1 : 0 ≤ r) (h2 : r < 18446744073709551616) (h : m = r - 18446744073709551616) : IntKind.u64.wrap m = r := by
  subst h
  simp only [IntKind.wrap, IntKind.bits, IntKind.signed] <;> simp <;> omega


def Bs : Int := 18446744073709551616
def vl : List Int → Int
  | [] => 0
  | x :: l => x + Bs * vl l
def pB : Nat → Int
  | 0 => 1
  | k + 1 => Bs * pB k
theorem Dn : ∀ k, 0 < pB k
  | 0 => by decide
  | k + 1 => by simp only [pB]; exact Int.mul_pos (by decide) (Dn k)
theorem Fw : ∀ a b, pB (a + b) = pB a * pB b
  | 0, b => by simp [pB]
  | a + 1, b => by rw [show a + 1 + b = (a + b) + 1 by omega]; simp only [pB]; rw [Fw a b, Int.mul_assoc]
theorem Ee : ∀ a b : List Int, vl (a ++ b) = vl a + pB a.length * vl b
  | [], b => by simp [vl, pB]
  | x :: a, b => by
    simp only [List.cons_append, vl, List.length_cons, pB]
    rw [Ee a b, Int.mul_add, Int.mul_assoc, Int.add_assoc]
theorem Bq : ∀ {l : List Int}, A3 l → 0 ≤ vl l
  | [], _ => Int.le_refl _
  | x :: l, h => by
    have h1 := (h x (List.mem_cons_self ..)).1
    have h2 := Bq (l := l) fun y hy => h y (List.mem_cons_of_mem _ hy)
    simp only [vl]
    have := Int.mul_nonneg (show (0 : Int) ≤ Bs by decide) h2
    omega
theorem Fe : ∀ {l : List Int}, A3 l → vl l < pB l.length
  | [], _ => by decide
  | x :: l, h => by
    have h1 := (h x (List.mem_cons_self ..)).2
    have h2 := Fe (l := l) fun y hy => h y (List.mem_cons_of_mem _ hy)
    simp only [vl, List.length_cons, pB]
    have h3 : vl l + 1 ≤ pB l.length := h2
    have h4 := Int.mul_le_mul_of_nonneg_left h3 (show (0 : Int) ≤ Bs by decide)
    rw [Int.mul_add, Int.mul_one] at h4
    have h5 : x < Bs := h1
    omega
theorem G3 (n : Nat) : vl (List.replicate n 0) = 0 := by
  induction n with
  | zero => rfl
  | succ n ih => rw [List.replicate_succ]; simp [vl, ih]
def vk (l : List Int) (k : Nat) : Int := vl (l.take k)
theorem vk_0 (l : List Int) : vk l 0 = 0 := by unfold vk; simp [vl]
theorem vk_all {l : List Int} {k : Nat} (h : l.length ≤ k) : vk l k = vl l := by unfold vk; rw [List.take_of_length_le h]
theorem Da (l : List Int) (k : Nat) : vk l (k + 1) = vk l k + pB k * l.getD k 0 := by
  unfold vk
  by_cases h : k < l.length
  · rw [List.take_succ_eq_append_getElem h, Ee, List.length_take, Nat.min_eq_left (by omega), List.getD_eq_getElem?_getD, List.getElem?_eq_getElem h]
    simp [vl]
  · rw [List.take_of_length_le (by omega), List.take_of_length_le (by omega), Dw (by omega)]
    simp
theorem Aa8 (l : List Int) : ∀ k, k ≤ l.length → vk l (tN l k) = vk l k
  | 0, _ => rfl
  | k + 1, h => by
    simp only [tN]
    split
    · rename_i h0
      rw [Aa8 l k (by omega), Da, h0, Int.mul_zero, Int.add_zero]
    · rfl
theorem Ew (l : List Int) : vl (trm l) = vl l := by
  have := Aa8 l l.length (Nat.le_refl _)
  rw [vk_all (Nat.le_refl _)] at this
  exact this
theorem Oq (a b : List Int) : ∀ i, vl (adN a b i).1 + pB i * (adN a b i).2 = vk a i + vk b i
  | 0 => by simp [adN, vl, vk_0, pB]
  | i + 1 => by
    have ih := Oq a b i
    simp only [adN]
    rw [Ee, Dk, Da, Da]
    simp only [vl, pB]
    have e := Int.emod_add_mul_ediv (a.getD i 0 + b.getD i 0 + (adN a b i).2) 18446744073709551616
    generalize hs : a.getD i 0 + b.getD i 0 + (adN a b i).2 = s at *
    generalize hq : s / 18446744073709551616 = q at *
    generalize hr : s % 18446744073709551616 = r at *
    have hB : Bs = 18446744073709551616 := rfl
    rw [Int.mul_zero, Int.add_zero, hB, Int.mul_comm 18446744073709551616 (pB i), Int.mul_assoc]
    have e2 : pB i * r + pB i * (18446744073709551616 * q) = pB i * s := by rw [← Int.mul_add, e]
    have e3 : pB i * s = pB i * a.getD i 0 + pB i * b.getD i 0 + pB i * (adN a b i).2 := by rw [← hs, Int.mul_add, Int.mul_add]
    omega
theorem N8 (a b : List Int) : ∀ i, vl (sbN a b i).1 - pB i * (sbN a b i).2 = vk a i - vk b i
  | 0 => by simp [sbN, vl, vk_0, pB]
  | i + 1 => by
    have ih := N8 a b i
    simp only [sbN]
    rw [Ee, Dh, Da, Da]
    simp only [vl, pB]
    have hB : Bs = 18446744073709551616 := rfl
    rw [Int.mul_zero, Int.add_zero, hB, Int.mul_comm 18446744073709551616 (pB i), Int.mul_assoc]
    split
    · rw [Int.mul_one, Int.mul_add, Int.mul_sub, Int.mul_sub]; omega
    · rw [Int.mul_sub, Int.mul_sub]; simp; omega
theorem Aa6 (a b : List Int) : (swL a b).2.length ≤ (swL a b).1.length ∧ vl (swL a b).1 + vl (swL a b).2 = vl a + vl b := by
  unfold swL
  split
  · exact ⟨by show a.length ≤ b.length; omega, by show vl b + vl a = _; omega⟩
  · exact ⟨by show b.length ≤ a.length; omega, rfl⟩
theorem Nv (a b : List Int) : vl (Lu a b) = vl a + vl b := by
  have h := Oq (swL (trm a) (trm b)).1 (swL (trm a) (trm b)).2 (swL (trm a) (trm b)).1.length
  obtain ⟨h1, h2⟩ := Aa6 (trm a) (trm b)
  rw [vk_all (Nat.le_refl _), vk_all h1, h2, Ew, Ew] at h
  unfold Lu
  rw [Ee, Dk]
  simp only [vl]
  rw [Int.mul_zero, Int.add_zero]
  exact h
def tpd (l : List Int) : Prop := l ≠ [] → l.getD (l.length - 1) 0 ≠ 0
theorem W8 (l : List Int) : ∀ k, 0 < tN l k → l.getD (tN l k - 1) 0 ≠ 0
  | 0, h => by simp [tN] at h
  | k + 1, h => by
    simp only [tN] at h ⊢
    split
    · rename_i h0; rw [if_pos h0] at h; exact W8 l k h
    · rename_i h0; exact h0
theorem Qp (l : List Int) : (trm l).length = tN l l.length := by unfold trm; rw [List.length_take, Nat.min_eq_left (Yu _ _)]
theorem Ga (l : List Int) : tpd (trm l) := fun hne => by
  have hl := Qp l
  have hpos : 0 < tN l l.length := by
    rcases Nat.eq_zero_or_pos (tN l l.length) with h | h
    · exact absurd (List.eq_nil_of_length_eq_zero (hl.trans h)) hne
    · exact h
  rw [hl]
  unfold trm
  rw [It (by omega)]
  exact W8 l _ hpos
theorem Rv {l : List Int} (h : tpd l) : trm l = l := by
  unfold trm
  by_cases h0 : l = []
  · subst h0; rfl
  · have hp : 0 < l.length := List.length_pos_iff.2 h0
    rw [N3 hp (h h0), List.take_length]
theorem Qn {l : List Int} (hu : A3 l) (ht : tpd l) (h0 : l ≠ []) : pB (l.length - 1) ≤ vl l := by
  have hp : 0 < l.length := List.length_pos_iff.2 h0
  obtain ⟨k, hk⟩ : ∃ k, l.length = k + 1 := ⟨l.length - 1, by omega⟩
  have h1 : vl l = vk l (k + 1) := by rw [vk_all (by omega)]
  rw [h1, Da, hk, Nat.add_sub_cancel]
  have h2 := ht h0
  rw [hk, Nat.add_sub_cancel] at h2
  have h3 := Ny hu (i := k) (by omega)
  have h4 : 0 ≤ vk l k := Bq fun x hx => hu x (List.mem_of_mem_take hx)
  have h5 : pB k * 1 ≤ pB k * l.getD k 0 := Int.mul_le_mul_of_nonneg_left (by omega) (Int.le_of_lt (Dn k))
  omega
theorem Fj {a b : Nat} (h : a ≤ b) : pB a ≤ pB b := by
  obtain ⟨c, rfl⟩ : ∃ c, b = a + c := ⟨b - a, by omega⟩
  rw [Fw]
  have h1 := Dn c
  have h2 := Int.mul_le_mul_of_nonneg_left (show 1 ≤ pB c by omega) (Int.le_of_lt (Dn a))
  omega
theorem Qc {a b : List Int} (ha : A3 a) (hb : A3 b) : ∀ k, (Jf a b k = 0 ∧ vk a k = vk b k) ∨ (Jf a b k = -1 ∧ vk a k < vk b k) ∨ (Jf a b k = 1 ∧ vk b k < vk a k)
  | 0 => .inl ⟨rfl, by rw [vk_0, vk_0]⟩
  | k + 1 => by
    have ih := Qc ha hb k
    simp only [Jf]
    rw [Da, Da]
    have a1 : 0 ≤ vk a k := Bq fun x hx => ha x (List.mem_of_mem_take hx)
    have b1 : 0 ≤ vk b k := Bq fun x hx => hb x (List.mem_of_mem_take hx)
    have a2 : vk a k < pB k := Int.lt_of_lt_of_le (Fe fun x hx => ha x (List.mem_of_mem_take hx)) (Fj (by rw [List.length_take]; omega))
    have b2 : vk b k < pB k := Int.lt_of_lt_of_le (Fe fun x hx => hb x (List.mem_of_mem_take hx)) (Fj (by rw [List.length_take]; omega))
    have hp := Dn k
    split
    · rename_i h
      have := Int.mul_le_mul_of_nonneg_left (show a.getD k 0 + 1 ≤ b.getD k 0 by omega) (Int.le_of_lt hp)
      rw [Int.mul_add, Int.mul_one] at this
      exact .inr (.inl ⟨rfl, by omega⟩)
    · split
      · rename_i h1 h
        have := Int.mul_le_mul_of_nonneg_left (show b.getD k 0 + 1 ≤ a.getD k 0 by omega) (Int.le_of_lt hp)
        rw [Int.mul_add, Int.mul_one] at this
        exact .inr (.inr ⟨rfl, by omega⟩)
      · rename_i h1 h2
        rw [show a.getD k 0 = b.getD k 0 by omega]
        rcases ih with ⟨h, h'⟩ | ⟨h, h'⟩ | ⟨h, h'⟩
        · exact .inl ⟨h, by omega⟩
        · exact .inr (.inl ⟨h, by omega⟩)
        · exact .inr (.inr ⟨h, by omega⟩)
theorem Gh {a b : List Int} (ha : A3 a) (hb : A3 b) : (Lk (trm a) (trm b) = 0 ∧ vl a = vl b) ∨ (Lk (trm a) (trm b) = -1 ∧ vl a < vl b) ∨ (Lk (trm a) (trm b) = 1 ∧ vl b < vl a) := by
  have ua := Bk ha
  have ub := Bk hb
  rw [← Ew a, ← Ew b]
  have less : ∀ {x y : List Int}, A3 x → A3 y → tpd y → x.length < y.length → vl x < vl y := fun {x y} hx hy ht hlt => by
    have h1 := Fe hx
    have h2 := Qn hy ht (by intro e; rw [e] at hlt; simp at hlt)
    have h3 := Fj (show x.length ≤ y.length - 1 by omega)
    omega
  unfold Lk
  split
  · rename_i h; exact .inr (.inl ⟨rfl, less ua ub (Ga b) h⟩)
  · split
    · rename_i h; exact .inr (.inr ⟨rfl, less ub ua (Ga a) h⟩)
    · rename_i h1 h2
      have := Qc ua ub (trm a).length
      rw [vk_all (Nat.le_refl _), vk_all (by omega : (trm b).length ≤ (trm a).length)] at this
      exact this
theorem Nw {a b : List Int} (ha : A3 a) (hb : A3 b) (h : vl b ≤ vl a) : vl (Nu a b) = vl a - vl b := by
  have ua := Bk ha
  have ub := Bk hb
  have hv := N8 (trm a) (trm b) (trm a).length
  rw [vk_all (Nat.le_refl _), Ew] at hv
  have hlen : (trm b).length ≤ (trm a).length := by
    rcases Nat.lt_or_ge (trm a).length (trm b).length with hlt | hge
    · have h1 := Fe ua
      have h2 := Qn ub (Ga b) (by intro e; rw [e] at hlt; simp at hlt)
      have h3 := Fj (show (trm a).length ≤ (trm b).length - 1 by omega)
      rw [Ew] at h1 h2
      omega
    · exact hge
  rw [vk_all hlen, Ew] at hv
  have hc := Qt (trm a) (trm b) (trm a).length
  have hs := Fe (Mx ua ub (trm a).length)
  rw [Dh] at hs
  unfold Nu
  rcases (show (sbN (trm a) (trm b) (trm a).length).2 = 0 ∨ (sbN (trm a) (trm b) (trm a).length).2 = 1 by omega) with h0 | h0
  · rw [h0, Int.mul_zero] at hv; omega
  · rw [h0, Int.mul_one] at hv; omega


theorem N5 {x : Int} (h : 0 ≤ x) : x.fdiv (2 ^ min (32 : Int).toNat 64) = x / 4294967296 := by
  obtain ⟨n, rfl⟩ := Int.eq_ofNat_of_zero_le h
  exact Kc (k := 4294967296) (by decide)
theorem Uy {x : Int} (h0 : 0 ≤ x) (h1 : x < 18446744073709551616) : G2 .and .u64 x 4294967295 = x % 4294967296 := by
  obtain ⟨n, rfl⟩ := Int.eq_ofNat_of_zero_le h0
  unfold G2
  simp only [IntKind.bits]
  have e1 : (BitVec.ofInt 64 (n : Int)).toNat = n := by
    rw [BitVec.toNat_ofInt]; simp; omega
  have e2 : (BitVec.ofInt 64 4294967295).toNat = 4294967295 := by decide
  have e3 : (BitVec.ofInt 64 (n : Int) &&& BitVec.ofInt 64 4294967295).toNat = n % 4294967296 := by
    rw [BitVec.toNat_and, e1, e2]
    have := Nat.and_two_pow_sub_one_eq_mod n 32
    simpa using this
  show IntKind.u64.wrap (((BitVec.ofInt 64 (n : Int) &&& BitVec.ofInt 64 4294967295).toNat : Nat) : Int) = _
  rw [e3, Bh (by omega) (by omega)]
  omega
theorem Ik {a b m : Int} (ha : 0 ≤ a) (hb : 0 ≤ b) (ham : a ≤ m) (hbm : b ≤ m) : 0 ≤ a * b ∧ a * b ≤ m * m := by
  refine ⟨Int.mul_nonneg ha hb, ?_⟩
  exact Int.mul_le_mul ham hbm hb (by omega)
theorem S2 (x y : Int) : x * y = (x / 4294967296) * (y / 4294967296) * 18446744073709551616 + ((x / 4294967296) * (y % 4294967296) + (x % 4294967296) * (y / 4294967296)) * 4294967296 + (x % 4294967296) * (y % 4294967296) := by
  have hx := Int.emod_add_mul_ediv x 4294967296
  have hy := Int.emod_add_mul_ediv y 4294967296
  generalize x / 4294967296 = x1 at *
  generalize x % 4294967296 = x0 at *
  generalize y / 4294967296 = y1 at *
  generalize y % 4294967296 = y0 at *
  rw [← hx, ← hy, Int.add_mul, Int.mul_add, Int.mul_add]
  have e1 : x0 * (4294967296 * y1) = 4294967296 * (x0 * y1) := by rw [Int.mul_left_comm]
  have e2 : 4294967296 * x1 * y0 = 4294967296 * (x1 * y0) := Int.mul_assoc _ _ _
  have e3 : 4294967296 * x1 * (4294967296 * y1) = 18446744073709551616 * (x1 * y1) := by
    rw [Int.mul_assoc, Int.mul_left_comm x1, ← Int.mul_assoc 4294967296 4294967296]; rfl
  rw [e1, e2, e3]
  omega
theorem S4 {x y : Int} (hx0 : 0 ≤ x) (hx : x < 18446744073709551616) (hy0 : 0 ≤ y) (hy : y < 18446744073709551616) :
    let p00 := x % 4294967296 * (y % 4294967296)
    let p10 := x / 4294967296 * (y % 4294967296)
    let p01 := x % 4294967296 * (y / 4294967296)
    let p11 := x / 4294967296 * (y / 4294967296)
    let t := p10 + p00 / 4294967296
    let u := t % 4294967296 + p01
    (0 ≤ p00 ∧ p00 ≤ 18446744065119617025) ∧ (0 ≤ p10 ∧ p10 ≤ 18446744065119617025) ∧ (0 ≤ p01 ∧ p01 ≤ 18446744065119617025) ∧ (0 ≤ p11 ∧ p11 ≤ 18446744065119617025) ∧ p11 + t / 4294967296 + u / 4294967296 = x * y / 18446744073709551616 := by
  intro p00 p10 p01 p11 t u
  have b00 := Ik (a := x % 4294967296) (b := y % 4294967296) (m := 4294967295) (by omega) (by omega) (by omega) (by omega)
  have b10 := Ik (a := x / 4294967296) (b := y % 4294967296) (m := 4294967295) (by omega) (by omega) (by omega) (by omega)
  have b01 := Ik (a := x % 4294967296) (b := y / 4294967296) (m := 4294967295) (by omega) (by omega) (by omega) (by omega)
  have b11 := Ik (a := x / 4294967296) (b := y / 4294967296) (m := 4294967295) (by omega) (by omega) (by omega) (by omega)
  have hp := S2 x y
  have em : (4294967295 : Int) * 4294967295 = 18446744065119617025 := by decide
  rw [em] at b00 b10 b01 b11
  refine ⟨b00, b10, b01, b11, ?_⟩
  show x / 4294967296 * (y / 4294967296) + (x / 4294967296 * (y % 4294967296) + x % 4294967296 * (y % 4294967296) / 4294967296) / 4294967296 + ((x / 4294967296 * (y % 4294967296) + x % 4294967296 * (y % 4294967296) / 4294967296) % 4294967296 + x % 4294967296 * (y / 4294967296)) / 4294967296 = x * y / 18446744073709551616
  generalize x / 4294967296 * (y / 4294967296) = q11 at *
  generalize x / 4294967296 * (y % 4294967296) = q10 at *
  generalize x % 4294967296 * (y / 4294967296) = q01 at *
  generalize x % 4294967296 * (y % 4294967296) = q00 at *
  rw [hp]
  omega
theorem Eq {m : Int} : IntKind.u64.wrap m = m % 18446744073709551616 := by
  simp only [IntKind.wrap, IntKind.bits, IntKind.signed] <;> simp
theorem Ji : ∀ (l : List Int) (j : Nat) (v : Int), j < l.length → vl (l.set j v) = vl l + pB j * (v - l.getD j 0)
  | [], j, v, h => by simp at h
  | x :: l, 0, v, _ => by
    have e : (x :: l).getD 0 0 = x := rfl
    simp only [List.set_cons_zero, vl, pB, e]; omega
  | x :: l, j + 1, v, h => by
    have ih := Ji l j v (by simpa using h)
    have e : (x :: l).getD (j + 1) 0 = l.getD j 0 := rfl
    simp only [List.set_cons_succ, vl, pB, e]
    rw [ih, Int.mul_add, Int.mul_assoc]; omega
theorem Jy {l : List Int} {j k : Nat} {v : Int} (hne : k ≠ j) : (l.set j v).getD k 0 = l.getD k 0 := by
  rw [List.getD_eq_getElem?_getD, List.getD_eq_getElem?_getD, List.getElem?_set_ne (Ne.symm hne)]
theorem Jo {l : List Int} {j : Nat} {v : Int} (h : A3 l) (h0 : 0 ≤ v) (h1 : v < 18446744073709551616) : A3 (l.set j v) := fun x hx => by
  rcases List.mem_or_eq_of_mem_set hx with hx | hx
  · exact h x hx
  · subst hx; exact ⟨h0, h1⟩
theorem N7 {P c t : Int} (hP0 : 0 ≤ P) (hP : P ≤ 340282366920938463426481119284349108225) (hc0 : 0 ≤ c) (hc : c < 18446744073709551616) (ht0 : 0 ≤ t) (ht : t < 18446744073709551616) :
    0 ≤ P / 18446744073709551616 + (P % 18446744073709551616 + c + 0) / 18446744073709551616 ∧ P / 18446744073709551616 + (P % 18446744073709551616 + c + 0) / 18446744073709551616 < 18446744073709551616 ∧
    0 ≤ P / 18446744073709551616 + (P % 18446744073709551616 + c + 0) / 18446744073709551616 + (t + (P % 18446744073709551616 + c + 0) % 18446744073709551616 + 0) / 18446744073709551616 ∧
    P / 18446744073709551616 + (P % 18446744073709551616 + c + 0) / 18446744073709551616 + (t + (P % 18446744073709551616 + c + 0) % 18446744073709551616 + 0) / 18446744073709551616 < 18446744073709551616 ∧
    (t + (P % 18446744073709551616 + c + 0) % 18446744073709551616 + 0) % 18446744073709551616 + 18446744073709551616 * (P / 18446744073709551616 + (P % 18446744073709551616 + c + 0) / 18446744073709551616 + (t + (P % 18446744073709551616 + c + 0) % 18446744073709551616 + 0) / 18446744073709551616) = t + P + c := by
  omega
theorem Rk {b : List Int} (hb : A3 b) (k : Nat) : ∃ r, 0 ≤ r ∧ vl b = vk b k + pB k * r := by
  refine ⟨vl (b.drop k), Bq fun x hx => hb x (List.mem_of_mem_drop hx), ?_⟩
  by_cases h : k ≤ b.length
  · have := Ee (b.take k) (b.drop k)
    rw [List.take_append_drop, List.length_take, Nat.min_eq_left h] at this
    exact this
  · rw [List.drop_eq_nil_of_le (by omega), vk_all (by omega)]; simp [vl]
theorem H6 {b : List Int} (hb : A3 b) (k : Nat) : 0 ≤ vk b k := Bq fun x hx => hb x (List.mem_of_mem_take hx)
theorem S0 {b : List Int} (hb : A3 b) {at_ k n : Nat} (hn : n ≤ at_ + k) (h : pB at_ * vl b < pB n) : vk b k = vl b := by
  obtain ⟨r, h0, h1⟩ := Rk hb k
  rcases Int.lt_or_le 0 r with hr | hr
  · exfalso
    have h2 := Int.mul_le_mul_of_nonneg_left (show 1 ≤ r by omega) (Int.le_of_lt (Dn k))
    have h3 := H6 hb k
    have h4 := Int.mul_le_mul_of_nonneg_left (show pB k ≤ vl b by omega) (Int.le_of_lt (Dn at_))
    rw [← Fw] at h4
    have h5 := Fj hn
    omega
  · have : r = 0 := by omega
    rw [this, Int.mul_zero, Int.add_zero] at h1
    exact h1.symm
theorem school_in {o o2 b : List Int} {i k : Nat} {c c2 x t s : Int} (hj : i + k < o.length) (ho2 : o2 = o.set (i + k) s) (ht : o.getD (i + k) 0 = t) {V : Int}
    (hv : vl o + c * pB (i + k) = V + x * pB i * vk b k) (hs : s + 18446744073709551616 * c2 = t + x * b.getD k 0 + c) : vl o2 + c2 * pB (i + (k + 1)) = V + x * pB i * vk b (k + 1) := by
  subst ho2
  rw [Ji _ _ _ hj, ht, Da, show i + (k + 1) = (i + k) + 1 by omega]
  simp only [pB]
  have hB : Bs = 18446744073709551616 := rfl
  have e1 : c2 * (Bs * pB (i + k)) = pB (i + k) * (18446744073709551616 * c2) := by rw [hB, ← Int.mul_assoc, Int.mul_comm (c2 * 18446744073709551616), Int.mul_comm c2]
  have e2 : x * pB i * (vk b k + pB k * b.getD k 0) = x * pB i * vk b k + pB (i + k) * (x * b.getD k 0) := by
    rw [Int.mul_add, Fw]
    congr 1
    rw [Int.mul_assoc, Int.mul_left_comm (pB i * pB k), Int.mul_assoc (pB i)]
  have e3 : pB (i + k) * (s - t) + pB (i + k) * (18446744073709551616 * c2) = pB (i + k) * (x * b.getD k 0) + pB (i + k) * c := by
    rw [← Int.mul_add, ← Int.mul_add]; congr 1; omega
  rw [e1, e2]
  have e4 : c * pB (i + k) = pB (i + k) * c := Int.mul_comm _ _
  omega
theorem school_row {o o2 a b : List Int} {i : Nat} {c : Int} (hj : i + b.length < o.length) (h0 : o.getD (i + b.length) 0 = 0) (ho2 : o2 = o.set (i + b.length) c)
    (hv : vl o + c * pB (i + b.length) = vk a i * vl b + a.getD i 0 * pB i * vk b b.length) : vl o2 = vk a (i + 1) * vl b := by
  subst ho2
  rw [Ji _ _ _ hj, h0, Da, Int.add_mul]
  rw [vk_all (Nat.le_refl _)] at hv
  have e : pB i * a.getD i 0 * vl b = a.getD i 0 * pB i * vl b := by rw [Int.mul_comm (pB i)]
  have e4 : c * pB (i + b.length) = pB (i + b.length) * c := Int.mul_comm _ _
  rw [e, Int.sub_zero]
  omega


theorem G4 (n : Nat) : A3 (List.replicate n 0) := fun x hx => by rw [List.eq_of_mem_replicate hx]; exact ⟨by decide, by decide⟩
theorem Le (n j : Nat) : (List.replicate n (0 : Int)).getD j 0 = 0 := by
  rw [List.getD_eq_getElem?_getD, List.getElem?_replicate]; split <;> rfl
theorem Lr {a b : List Int} (ha : A3 a) (hb : A3 b) : A3 (a ++ b) := fun x hx => by
  rcases List.mem_append.1 hx with hx | hx
  · exact ha x hx
  · exact hb x hx
theorem E3 {a : List Int} (ha : A3 a) (k : Nat) : A3 (a.drop k) := fun x hx => ha x (List.mem_of_mem_drop hx)
theorem D4 {a : List Int} (ha : A3 a) (k : Nat) : A3 (a.take k) := fun x hx => ha x (List.mem_of_mem_take hx)
theorem Yc {q q2 b : List Int} {i at_ : Nat} {c c2 s V : Int} (hj : i < q.length) (hi : at_ ≤ i) (hq2 : q2 = q.set i s)
    (hv : vl q + c * pB i = V + pB at_ * vk b (i - at_)) (hs : s + 18446744073709551616 * c2 = q.getD i 0 + b.getD (i - at_) 0 + c) : vl q2 + c2 * pB (i + 1) = V + pB at_ * vk b (i + 1 - at_) := by
  subst hq2
  rw [Ji _ _ _ hj, show i + 1 - at_ = (i - at_) + 1 by omega, Da]
  simp only [pB]
  have hB : Bs = 18446744073709551616 := rfl
  have e1 : c2 * (Bs * pB i) = pB i * (18446744073709551616 * c2) := by rw [hB, ← Int.mul_assoc, Int.mul_comm (c2 * 18446744073709551616), Int.mul_comm c2]
  have e2 : pB at_ * (vk b (i - at_) + pB (i - at_) * b.getD (i - at_) 0) = pB at_ * vk b (i - at_) + pB i * b.getD (i - at_) 0 := by
    rw [Int.mul_add, ← Int.mul_assoc, ← Fw, show at_ + (i - at_) = i by omega]
  have e3 : pB i * (s - q.getD i 0) + pB i * (18446744073709551616 * c2) = pB i * b.getD (i - at_) 0 + pB i * c := by
    rw [← Int.mul_add, ← Int.mul_add]; congr 1; omega
  have e4 : c * pB i = pB i * c := Int.mul_comm _ _
  rw [e1, e2]
  omega
theorem U2 {q r b : List Int} {i at_ n : Nat} {c : Int} (hq : A3 q) (hr : A3 r) (hb : A3 b) (hc0 : 0 ≤ c) (hi : at_ ≤ i) (hfit : vl r + pB at_ * vl b < pB n) (h : n ≤ i ∨ (b.length ≤ i - at_ ∧ c ≤ 0))
    (hv : vl q + c * pB i = vl r + pB at_ * vk b (i - at_)) : vl q = vl r + pB at_ * vl b := by
  have hr0 := Bq hr
  have hq0 := Bq hq
  rcases h with h | ⟨h1, h2⟩
  · have e := S0 hb (at_ := at_) (k := i - at_) (n := n) (by omega) (by omega)
    rw [e] at hv
    have hp := Fj h
    rcases Int.lt_or_le 0 c with hc | hc
    · have := Int.mul_le_mul_of_nonneg_right (show 1 ≤ c by omega) (Int.le_of_lt (Dn i))
      omega
    · have : c = 0 := by omega
      rw [this, Int.zero_mul, Int.add_zero] at hv; exact hv
  · have : c = 0 := by omega
    rw [this, Int.zero_mul, Int.add_zero, vk_all h1] at hv; exact hv
theorem Abk {a b : List Int} {i : Nat} (h : i < a.length) : ((sbN a b i).1 ++ a.drop i).getD i 0 = a.getD i 0 := by
  rw [List.getD_eq_getElem?_getD, List.getElem?_append_right (by rw [Dh]; exact Nat.le_refl _), Dh, Nat.sub_self, List.getElem?_drop, Nat.add_zero, ← List.getD_eq_getElem?_getD]
theorem Yw {a b : List Int} {i : Nat} (h : i ≤ a.length) : ((sbN a b i).1 ++ a.drop i).length = a.length := by rw [List.length_append, Dh, List.length_drop]; omega
theorem Vu {a b : List Int} {i : Nat} (h : i < a.length) : ((sbN a b i).1 ++ a.drop i).set ((0 + i) * 1) (if a.getD i 0 < b.getD i 0 + (sbN a b i).2 then a.getD i 0 - b.getD i 0 - (sbN a b i).2 + 18446744073709551616 else a.getD i 0 - b.getD i 0 - (sbN a b i).2) = (sbN a b (i + 1)).1 ++ a.drop (i + 1) := by
  rw [Nat.zero_add, Nat.mul_one, List.set_append_right _ _ (by rw [Dh]; exact Nat.le_refl _), Dh, Nat.sub_self, F8 h, List.set_cons_zero]
  simp only [sbN]
  rw [List.append_assoc]; rfl
theorem Aa7 {a b : List Int} (ha : A3 a) (hb : A3 b) (h : vl b ≤ vl a) : vl (sbN a b a.length).1 = vl a - vl b := by
  have hv := N8 a b a.length
  have hlt := Fe ha
  have e := S0 hb (at_ := 0) (k := a.length) (n := a.length) (by omega) (by simp only [pB, Int.one_mul]; omega)
  rw [vk_all (Nat.le_refl _), e] at hv
  have hc := Qt a b a.length
  have hs := Fe (Mx ha hb a.length)
  rw [Dh] at hs
  rcases (show (sbN a b a.length).2 = 0 ∨ (sbN a b a.length).2 = 1 by omega) with h0 | h0
  · rw [h0, Int.mul_zero] at hv; omega
  · rw [h0, Int.mul_one] at hv; omega
theorem Sx {l : List Int} {F k : Nat} (hF : F < k) (hk : k ≤ l.length) (h : l.getD (k - 1) 0 = 0) : vl ((l.take (k - 1)).drop F) = vl ((l.take k).drop F) := by
  obtain ⟨j, rfl⟩ : ∃ j, k = j + 1 := ⟨k - 1, by omega⟩
  rw [Nat.add_sub_cancel] at h ⊢
  have e : l.take (j + 1) = l.take j ++ [l.getD j 0] := by
    rw [List.take_succ_eq_append_getElem (by omega), List.getD_eq_getElem?_getD, List.getElem?_eq_getElem (by omega)]; rfl
  rw [e, h, List.drop_append, Ee]
  have : F - (l.take j).length = 0 := by rw [List.length_take]; omega
  rw [this]
  simp [vl]
theorem V7 {l : List Int} {t : Nat} : l.take (min t l.length) = l.take t := by
  rcases Nat.le_total t l.length with h | h
  · rw [Nat.min_eq_left h]
  · rw [Nat.min_eq_right h, List.take_length, List.take_of_length_le h]
theorem V0 {l : List Int} {f t : Nat} (h : f ≤ t) : (l.take (min t l.length)).drop (min f l.length) = (l.take t).drop f := by
  rw [V7]
  rcases Nat.le_total f l.length with h1 | h1
  · rw [Nat.min_eq_left h1]
  · rw [Nat.min_eq_right h1, List.drop_eq_nil_of_le (by rw [List.length_take]; omega), List.drop_eq_nil_of_le (by rw [List.length_take]; omega)]
theorem Ia {l : List Int} (k : Nat) : vl ((l.take k).drop 0) + pB k * vl ((l.take l.length).drop k) = vl l := by
  rw [List.drop_zero, List.take_length]
  by_cases h : k ≤ l.length
  · have := Ee (l.take k) (l.drop k)
    rw [List.take_append_drop, List.length_take, Nat.min_eq_left h] at this
    exact this.symm
  · rw [List.take_of_length_le (by omega), List.drop_eq_nil_of_le (by omega)]; simp [vl]
theorem Agd {al ah bl bh K A B lo hi mid : Int} (hA : al + K * ah = A) (hB : bl + K * bh = B) (hlo : lo = al * bl) (hhi : hi = ah * bh) (hmid : mid = (al + ah) * (bl + bh) - lo - hi) : lo + K * mid + (K * K) * hi = A * B := by
  subst hA; subst hB; subst hlo; subst hhi; subst hmid
  have e1 : (al + ah) * (bl + bh) = al * bl + al * bh + (ah * bl + ah * bh) := by rw [Int.add_mul, Int.mul_add, Int.mul_add]
  have e2 : (al + K * ah) * (bl + K * bh) = al * bl + K * (al * bh) + (K * (ah * bl) + K * K * (ah * bh)) := by
    rw [Int.add_mul, Int.mul_add, Int.mul_add]
    congr 1
    · congr 1; rw [Int.mul_left_comm]
    · congr 1
      · rw [Int.mul_assoc]
      · rw [Int.mul_assoc, Int.mul_left_comm ah, ← Int.mul_assoc]
  rw [e1, e2]
  have e3 : K * (al * bl + al * bh + (ah * bl + ah * bh) - al * bl - ah * bh) = K * (al * bh) + K * (ah * bl) := by
    rw [← Int.mul_add K]; congr 1; omega
  rw [e3]
  omega
theorem Z5 {al ah bl bh : Int} (h1 : 0 ≤ al) (h2 : 0 ≤ ah) (h3 : 0 ≤ bl) (h4 : 0 ≤ bh) : al * bl ≤ (al + ah) * (bl + bh) ∧ ah * bh ≤ (al + ah) * (bl + bh) - al * bl := by
  have e1 : (al + ah) * (bl + bh) = al * bl + al * bh + (ah * bl + ah * bh) := by rw [Int.add_mul, Int.mul_add, Int.mul_add]
  have a1 := Int.mul_nonneg h1 h4
  have a2 := Int.mul_nonneg h2 h3
  have a3 := Int.mul_nonneg h2 h4
  omega
theorem Rm {a b : List Int} (ha : A3 a) (hb : A3 b) : vl a * vl b < pB (a.length + b.length) := by
  have h1 := Fe ha
  have h2 := Fe hb
  have h3 := Bq ha
  have h4 := Bq hb
  rw [Fw]
  rcases Int.lt_or_le 0 (vl b) with h | h
  · have := Int.mul_lt_mul_of_pos_right h1 h
    have := Int.mul_le_mul_of_nonneg_left (Int.le_of_lt h2) (Int.le_of_lt (Dn a.length))
    omega
  · have : vl b = 0 := by omega
    rw [this, Int.mul_zero]; exact Int.mul_pos (Dn _) (Dn _)
theorem Acx {n : Nat} (h : n < 4611686018427387904) : IntKind.i64.wrap (Int.tdiv (n : Int) 2) = ((n / 2 : Nat) : Int) := by
  rw [Int.tdiv_eq_ediv_of_nonneg (by omega), Ap (by omega) (by omega)]; omega


def sv (s : Bool) (l : List Int) : Int := if s = true then -(vl l) else vl l
def Afj (l : List Int) : Prop := A3 l ∧ l.length ≤ 1048576
theorem Yb {f n : Nat} (hf : 0 < f) (h : 0 < n) : 0 < bl f n := by
  obtain ⟨g, rfl⟩ : ∃ g, f = g + 1 := ⟨f - 1, by omega⟩
  simp only [bl]
  rw [if_neg (by omega)]; omega
theorem Xy {l : List Int} (hu : A3 l) (h : Dp l ≤ 67108864) : (trm l).length ≤ 1048576 := by
  unfold Dp at h
  split at h
  · omega
  · rename_i h0
    have ht := Ga l (by intro e; rw [e] at h0; exact h0 rfl)
    have hb := Bg (Bk hu) ((trm l).length - 1)
    have := Yb (f := 64) (n := ((trm l).getD ((trm l).length - 1) 0).toNat) (by decide) (by omega)
    omega
theorem Wh {l : List Int} (hu : A3 l) (h : Dp l ≤ 67108864) : Afj (trm l) := ⟨Bk hu, Xy hu h⟩
theorem Ez (l : List Int) : trm (trm l) = trm l := Rv (Ga l)
theorem Hd (l : List Int) : Dp (trm l) = Dp l := by unfold Dp; rw [Ez]
theorem Rl {l : List Int} (hu : A3 l) (ht : tpd l) (h : l ≠ []) : 0 < vl l := by
  have h1 := Qn hu ht h
  have h2 := Dn (l.length - 1)
  omega
theorem Ls {l : List Int} (hu : A3 l) : (trm l).length = 0 ↔ vl l = 0 := by
  constructor
  · intro h
    rw [← Ew, List.eq_nil_of_length_eq_zero h]; rfl
  · intro h
    rcases Nat.eq_zero_or_pos (trm l).length with h0 | h0
    · exact h0
    · have := Rl (Bk hu) (Ga l) (by intro e; rw [e] at h0; simp at h0)
      rw [Ew] at this; omega
theorem Tk {l : List Int} (hu : A3 l) : Dp l = 0 ↔ vl l = 0 := by
  rw [← Ls hu]
  unfold Dp
  constructor
  · intro h
    split at h
    · assumption
    · rename_i h0
      have ht := Ga l (by intro e; rw [e] at h0; exact absurd rfl h0)
      have hb := Bg (Bk hu) ((trm l).length - 1)
      have := Yb (f := 64) (n := ((trm l).getD ((trm l).length - 1) 0).toNat) (by decide) (by omega)
      omega
  · intro h; rw [if_pos h]
theorem I4 {s : Bool} {l : List Int} (hu : A3 l) : sv (s && decide (0 < ((trm l).length : Int))) (trm l) = sv s l := by
  unfold sv
  rw [Ew]
  by_cases h : (trm l).length = 0
  · have h0 := (Ls hu).1 h
    rw [h0]; simp
  · have : decide (0 < ((trm l).length : Int)) = true := decide_eq_true (by omega)
    rw [this, Bool.and_true]
theorem W9 {s t : Bool} {a b r : List Int} (h : vl r = vl a * vl b) : sv (!(s == t)) r = sv s a * sv t b := by
  unfold sv
  cases s <;> cases t <;> simp [h, Int.neg_mul, Int.mul_neg]
theorem Pa (s : Bool) (l : List Int) : sv (!s) l = -(sv s l) := by unfold sv; cases s <;> simp
def Cb (x : Int) : Int := if x = 0 then 0 else if x < 0 then -1 else 1
def Du (x y : Int) : Int := if x < y then -1 else if y < x then 1 else 0
theorem Sc {s : Bool} {l : List Int} (hu : A3 l) : Cb (sv s l) = if Dp l = 0 then 0 else if s = true then -1 else 1 := by
  have h := Tk hu
  have h0 := Bq hu
  unfold Cb sv
  by_cases hz : vl l = 0
  · rw [if_pos (h.2 hz)]; cases s <;> simp [hz]
  · rw [if_neg (fun e => hz (h.1 e))]
    cases s
    · simp only [Bool.false_eq_true, if_false]; rw [if_neg hz, if_neg (by omega)]
    · simp only [if_true]; rw [if_neg (by omega), if_pos (by omega)]
theorem Ib (x : Int) : Cb x = -1 ∨ Cb x = 0 ∨ Cb x = 1 := by unfold Cb; split <;> (try split) <;> simp
theorem Um {s t : Bool} {a b : List Int} (ua : A3 a) (ub : A3 b) : (Cb (sv s a) < Cb (sv t b) → Du (sv s a) (sv t b) = -1) ∧ (Cb (sv t b) < Cb (sv s a) → Du (sv s a) (sv t b) = 1) ∧
    (Cb (sv s a) = Cb (sv t b) → Cb (sv s a) * Lk (trm a) (trm b) = Du (sv s a) (sv t b)) := by
  have ha := Bq ua
  have hb := Bq ub
  have hc := Gh ua ub
  have key : ∀ x y : Int, (Cb x < Cb y → x < y) := fun x y h => by unfold Cb at h; (repeat' split at h) <;> omega
  refine ⟨fun h => ?_, fun h => ?_, fun h => ?_⟩
  · have := key _ _ h; unfold Du; rw [if_pos this]
  · have := key _ _ h; unfold Du; rw [if_neg (by omega), if_pos this]
  · unfold Du
    have hs : ∀ (u : Bool) (l : List Int), sv u l = vl l ∨ sv u l = -(vl l) := fun u l => by unfold sv; cases u <;> simp
    have hs' : ∀ (u : Bool) (l : List Int), 0 ≤ vl l → (0 < sv u l → sv u l = vl l) ∧ (sv u l < 0 → sv u l = -(vl l)) := fun u l hl => by rcases hs u l with e | e <;> constructor <;> intro <;> omega
    have h1 := hs' s a ha
    have h2 := hs' t b hb
    have z1 := hs s a
    have z2 := hs t b
    rcases Int.lt_trichotomy (sv s a) 0 with hx | hx | hx
    · have e1 : Cb (sv s a) = -1 := by unfold Cb; rw [if_neg (by omega), if_pos hx]
      have hy : sv t b < 0 := by rw [e1] at h; unfold Cb at h; (repeat' split at h) <;> omega
      rw [e1, h1.2 hx, h2.2 hy]
      rcases hc with ⟨c, v⟩ | ⟨c, v⟩ | ⟨c, v⟩
      · rw [c, if_neg (by omega), if_neg (by omega)]; rfl
      · rw [c, if_neg (by omega), if_pos (by omega)]; rfl
      · rw [c, if_pos (by omega)]; rfl
    · have e1 : Cb (sv s a) = 0 := by unfold Cb; rw [if_pos hx]
      have hy : sv t b = 0 := by rw [e1] at h; unfold Cb at h; (repeat' split at h) <;> omega
      rw [e1, hx, hy, Int.zero_mul]; rfl
    · have e1 : Cb (sv s a) = 1 := by unfold Cb; rw [if_neg (by omega), if_neg (by omega)]
      have hy : 0 < sv t b := by rw [e1] at h; unfold Cb at h; (repeat' split at h) <;> omega
      rw [e1, h1.1 hx, h2.1 hy, Int.one_mul]
      rcases hc with ⟨c, v⟩ | ⟨c, v⟩ | ⟨c, v⟩
      · rw [c, if_neg (by omega), if_neg (by omega)]
      · rw [c, if_pos (by omega)]
      · rw [c, if_neg (by omega), if_pos (by omega)]
theorem Qg {x y : Int} : Du x y = 0 ↔ x = y := by unfold Du; (repeat' split) <;> constructor <;> intro h <;> omega
theorem Ex {x : Int} : Cb x = 0 ↔ x = 0 := by unfold Cb; (repeat' split) <;> constructor <;> intro h <;> omega
theorem N4 {s t : Bool} {a b r : List Int} (hst : sv s a = sv t a ∨ True) (h : vl r = vl a + vl b) : sv s r = sv s a + sv s b := by
  unfold sv; cases s <;> simp [h] <;> omega
theorem Abi {s : Bool} {a b r : List Int} (h : vl r = vl a - vl b) : sv s r = sv s a + sv (!s) b := by
  unfold sv; cases s <;> simp [h] <;> omega
theorem U1 {S T : Bool} {A B r : List Int} {x y : Int} (h : (S == T) = true) (hv : vl r = vl A + vl B) (e1 : sv S A = x) (e2 : sv T B = y) : sv S r = x + y := by
  have : S = T := by simpa using h
  subst this
  rw [← e1, ← e2]; exact N4 (t := S) (.inr trivial) hv
theorem Lv {S T : Bool} {A B r : List Int} {x y : Int} (h : (S == T) = false) (hv : vl r = vl A - vl B) (e1 : sv S A = x) (e2 : sv T B = y) : sv S r = x + y := by
  have : T = !S := by cases S <;> cases T <;> simp_all
  subst this
  rw [← e1, ← e2]; exact Abi hv
theorem Wu {x y : Int} : -1 ≤ Du x y ∧ Du x y ≤ 1 := by unfold Du; (repeat' split) <;> decide


def Bj (b n : Nat) : List Int := if h : n = 0 ∨ b < 2 then [] else ((n % b : Nat) : Int) :: Bj b (n / b)
termination_by n
decreasing_by exact Nat.div_lt_self (by omega) (by omega)
theorem Dg {b : Nat} : Bj b 0 = [] := by rw [Bj, dif_pos (.inl rfl)]
theorem Dd {b n : Nat} (hb : 2 ≤ b) (hn : n ≠ 0) : Bj b n = ((n % b : Nat) : Int) :: Bj b (n / b) := by rw [Bj, dif_neg (by omega)]
def vb (b : Nat) : List Int → Int
  | [] => 0
  | x :: l => x + (b : Int) * vb b l
def rng (b : Nat) (l : List Int) : Prop := ∀ x ∈ l, 0 ≤ x ∧ x < (b : Int)
theorem G5 {b : Nat} {x : Int} {l : List Int} (h : rng b (x :: l)) : rng b l := fun y hy => h y (List.mem_cons_of_mem _ hy)
theorem Rn : ∀ l, vb 18446744073709551616 l = vl l
  | [] => rfl
  | x :: l => by simp only [vb, vl, Rn l]; rfl
theorem J8 {b : Nat} : ∀ {l : List Int}, rng b l → 0 ≤ vb b l
  | [], _ => Int.le_refl _
  | x :: l, h => by
    have h1 := (h x (List.mem_cons_self ..)).1
    have h2 := Int.mul_nonneg (Int.natCast_nonneg b) (J8 (G5 h))
    simp only [vb]; omega
theorem Lt {x : Int} {l : List Int} (h : tpd (x :: l)) : tpd l := fun hne => by
  have := h (by simp)
  have hp : 0 < l.length := List.length_pos_iff.2 hne
  rw [List.length_cons, Nat.add_sub_cancel] at this
  obtain ⟨k, hk⟩ : ∃ k, l.length = k + 1 := ⟨l.length - 1, by omega⟩
  rw [hk] at this ⊢
  simpa using this
theorem N0 {x : Int} (h : tpd [x]) : x ≠ 0 := by simpa using h (by simp)
theorem Oo {b : Nat} (hb : 2 ≤ b) : ∀ {l : List Int}, rng b l → tpd l → Bj b (vb b l).toNat = l
  | [], _, _ => Dg
  | x :: t, h, ht => by
    have ih := Oo hb (G5 h) (Lt ht)
    have h1 := h x (List.mem_cons_self ..)
    have h2 := J8 (G5 h)
    obtain ⟨m, hm⟩ : ∃ m : Nat, vb b t = m := ⟨(vb b t).toNat, by omega⟩
    obtain ⟨y, hy⟩ : ∃ y : Nat, x = y := ⟨x.toNat, by omega⟩
    subst hy
    have e : (vb b ((y : Int) :: t)).toNat = y + b * m := by
      simp only [vb]; rw [hm, ← Int.natCast_mul]; omega
    have hyb : y < b := by omega
    rw [e]
    rw [hm] at ih
    rw [show ((m : Int)).toNat = m from rfl] at ih
    have hne : y + b * m ≠ 0 := by
      intro h0
      have hy0 : y = 0 := by omega
      have hm0 : b * m = 0 := by omega
      have hm1 : m = 0 := by
        rcases Nat.mul_eq_zero.1 hm0 with h | h
        · omega
        · exact h
      subst hm1
      rw [Dg] at ih
      subst ih
      exact N0 ht (by rw [hy0]; rfl)
    rw [Dd hb hne, Nat.add_mul_mod_self_left, Nat.mod_eq_of_lt hyb, Nat.add_mul_div_left _ _ (by omega), Nat.div_eq_of_lt hyb, Nat.zero_add, ih]
theorem I2 {b : Nat} (hb : 2 ≤ b) (n : Nat) : vb b (Bj b n) = n := by
  induction n using Nat.strongRecOn with
  | _ n ih =>
    by_cases h : n = 0
    · subst h; rw [Dg]; rfl
    · rw [Dd hb h]
      simp only [vb]
      rw [ih (n / b) (Nat.div_lt_self (by omega) (by omega)), ← Int.natCast_mul, ← Int.natCast_add, Nat.mod_add_div]
theorem Gc {b : Nat} (hb : 2 ≤ b) (n : Nat) : rng b (Bj b n) := by
  induction n using Nat.strongRecOn with
  | _ n ih =>
    by_cases h : n = 0
    · subst h; rw [Dg]; intro x hx; simp at hx
    · rw [Dd hb h]
      intro x hx
      rcases List.mem_cons.1 hx with rfl | hx
      · have := Nat.mod_lt n (show 0 < b by omega); omega
      · exact ih (n / b) (Nat.div_lt_self (by omega) (by omega)) x hx
theorem O8 {b : Nat} (hb : 2 ≤ b) (n : Nat) : tpd (Bj b n) := by
  induction n using Nat.strongRecOn with
  | _ n ih =>
    by_cases h : n = 0
    · subst h; rw [Dg]; intro hx; simp at hx
    · rw [Dd hb h]
      intro _
      rw [List.length_cons, Nat.add_sub_cancel]
      by_cases h1 : n / b = 0
      · rw [h1, Dg]
        have : n < b := by
          rcases Nat.lt_or_ge n b with h2 | h2
          · exact h2
          · have := Nat.div_pos h2 (by omega); omega
        simp [Nat.mod_eq_of_lt this, h]
      · have h2 := ih (n / b) (Nat.div_lt_self (by omega) (by omega))
        have hne : Bj b (n / b) ≠ [] := by rw [Dd hb h1]; simp
        have h3 := h2 hne
        have hp : 0 < (Bj b (n / b)).length := List.length_pos_iff.2 hne
        obtain ⟨k, hk⟩ : ∃ k, (Bj b (n / b)).length = k + 1 := ⟨(Bj b (n / b)).length - 1, by omega⟩
        rw [hk] at h3 ⊢
        simpa using h3
theorem Agl {b : Nat} (hb : 2 ≤ b) {l : List Int} {n : Nat} (hr : rng b l) (ht : tpd l) (hv : vb b l = n) : l = Bj b n := by
  have := Oo hb hr ht
  rw [hv] at this
  exact this.symm
def Cz (n : Nat) : Nat := if n = 0 then 0 else n.log2 + 1
theorem C2 {n k : Nat} : Cz n ≤ k ↔ n < 2 ^ k := by
  unfold Cz
  split
  · rename_i h; subst h; exact ⟨fun _ => Nat.two_pow_pos k, fun _ => Nat.zero_le _⟩
  · rename_i h
    rw [← Nat.log2_lt h]
    omega
theorem Of : Cz 0 = 0 := rfl
theorem Fm {n : Nat} (h : n ≠ 0) : 0 < Cz n := by unfold Cz; rw [if_neg h]; omega
theorem Qx {m n : Nat} (h : m ≤ n) : Cz m ≤ Cz n := C2.2 (Nat.lt_of_le_of_lt h (C2.1 (Nat.le_refl _)))
theorem Kh {w x m : Nat} (hx : x < 2 ^ w) (hm : m ≠ 0) : Cz (x + 2 ^ w * m) = w + Cz m := by
  refine Nat.le_antisymm (C2.2 ?_) ?_
  · have h1 : m < 2 ^ Cz m := C2.1 (Nat.le_refl _)
    rw [Nat.pow_add]
    have h2 : 2 ^ w * (m + 1) ≤ 2 ^ w * 2 ^ Cz m := Nat.mul_le_mul_left _ h1
    rw [Nat.mul_add, Nat.mul_one] at h2
    omega
  · rcases Nat.lt_or_ge (Cz (x + 2 ^ w * m)) (w + Cz m) with h | h
    · exfalso
      have hp := Fm hm
      have h1 : x + 2 ^ w * m < 2 ^ (w + (Cz m - 1)) := C2.1 (by omega)
      rw [Nat.pow_add] at h1
      have h2 : 2 ^ w * m < 2 ^ w * 2 ^ (Cz m - 1) := by omega
      have h3 := C2.2 (Nat.lt_of_mul_lt_mul_left h2)
      omega
    · exact h
theorem Mn : ∀ f n, n < 2 ^ f → bl f n = Cz n
  | 0, n, h => by
    have : n = 0 := by simpa using h
    subst this; rfl
  | f + 1, n, h => by
    simp only [bl]
    split
    · rename_i h0; rw [h0]; rfl
    · rename_i h0
      rw [Mn f (n / 2) (by rw [Nat.pow_succ] at h; omega)]
      by_cases h1 : n / 2 = 0
      · have : n = 1 := by omega
        subst this; rfl
      · have := Kh (w := 1) (x := n % 2) (m := n / 2) (by have := Nat.mod_lt n (show 0 < 2 by decide); simpa using this) h1
        rw [Nat.pow_one, Nat.mod_add_div] at this
        rw [this]
theorem S1 {x y : Nat} (hx : x ≠ 0) (hy : y ≠ 0) : Cz x + Cz y ≤ Cz (x * y) + 1 := by
  have h1 := Fm hx
  have h2 := Fm hy
  have h3 : 2 ^ (Cz x - 1) ≤ x := by
    rcases Nat.lt_or_ge x (2 ^ (Cz x - 1)) with h | h
    · have := C2.2 h; omega
    · exact h
  have h4 : 2 ^ (Cz y - 1) ≤ y := by
    rcases Nat.lt_or_ge y (2 ^ (Cz y - 1)) with h | h
    · have := C2.2 h; omega
    · exact h
  rcases Nat.lt_or_ge (Cz (x * y) + 1) (Cz x + Cz y) with h | h
  · exfalso
    have h5 : x * y < 2 ^ ((Cz x - 1) + (Cz y - 1)) := C2.1 (by omega)
    rw [Nat.pow_add] at h5
    have := Nat.mul_le_mul h3 h4
    omega
  · exact h
theorem Mb {w : Nat} (hw : 1 ≤ w) : ∀ {l : List Int}, rng (2 ^ w) l → tpd l → l ≠ [] → w * (l.length - 1) + Cz (l.getD (l.length - 1) 0).toNat = Cz (vb (2 ^ w) l).toNat
  | [], _, _, h => absurd rfl h
  | [x], _, _, _ => by simp [vb]
  | x :: y :: t, h, ht, _ => by
    have ih := Mb hw (G5 h) (Lt ht) (by simp)
    have h1 := h x (List.mem_cons_self ..)
    have h2 := J8 (G5 h)
    have hb2 : 2 ≤ 2 ^ w := by
      have := Nat.pow_le_pow_right (show 0 < 2 by decide) hw
      simpa using this
    have hc := Oo hb2 (G5 h) (Lt ht)
    obtain ⟨m, hm⟩ : ∃ m : Nat, vb (2 ^ w) (y :: t) = m := ⟨(vb (2 ^ w) (y :: t)).toNat, by omega⟩
    obtain ⟨q, hq⟩ : ∃ q : Nat, x = q := ⟨x.toNat, by omega⟩
    rw [hm] at ih hc
    rw [show ((m : Int)).toNat = m from rfl] at ih hc
    have hm0 : m ≠ 0 := by intro e; rw [e, Dg] at hc; simp at hc
    have e : (vb (2 ^ w) (x :: y :: t)).toNat = q + 2 ^ w * m := by
      show (x + ((2 ^ w : Nat) : Int) * vb (2 ^ w) (y :: t)).toNat = _
      rw [hm, hq, ← Int.natCast_mul]; omega
    rw [e, Kh (by omega) hm0, ← ih]
    simp only [List.length_cons, Nat.add_sub_cancel, List.getD_cons_succ]
    rw [Nat.mul_add, Nat.mul_one]
    omega
theorem Nz {l : List Int} (h : A3 l) : rng 18446744073709551616 l := h
theorem Yt (l : List Int) : ∃ k, l = trm l ++ List.replicate k 0 := by
  have : ∀ k, k ≤ l.length → l.take k = l.take (tN l k) ++ List.replicate (k - tN l k) 0 := by
    intro k
    induction k with
    | zero => intro _; simp [tN]
    | succ k ih =>
      intro hk
      have h1 := ih (by omega)
      have hle := Yu l k
      simp only [tN]
      split
      · rename_i h0
        rw [List.take_succ_eq_append_getElem (by omega), h1, List.append_assoc, show k + 1 - tN l k = (k - tN l k) + 1 by omega, List.replicate_succ']
        congr 2
        rw [List.getD_eq_getElem?_getD, List.getElem?_eq_getElem (by omega)] at h0
        rw [← h0]; rfl
      · simp
  have h := this l.length (Nat.le_refl _)
  rw [List.take_length] at h
  exact ⟨_, h⟩
theorem O7 (b : Nat) : ∀ (l : List Int) (k : Nat), vb b (l ++ List.replicate k 0) = vb b l
  | [], 0 => rfl
  | [], k + 1 => by
    rw [List.nil_append, List.replicate_succ]
    simp only [vb]
    have := O7 b [] k
    rw [List.nil_append] at this
    rw [this]; simp [vb]
  | x :: l, k => by simp only [List.cons_append, vb, O7 b l k]
theorem Aa9 (b : Nat) (l : List Int) : vb b (trm l) = vb b l := by
  obtain ⟨k, hk⟩ := Yt l
  have := O7 b (trm l) k
  rw [← hk] at this
  exact this.symm
theorem Sg {b : Nat} {l : List Int} (h : rng b l) : rng b (trm l) := fun x hx => h x (List.mem_of_mem_take hx)
theorem Fu {b : Nat} (hb : 2 ≤ b) {l : List Int} {n : Nat} (h : rng b l) (hv : vb b l = n) : trm l = Bj b n := Agl hb (Sg h) (Ga l) (by rw [Aa9, hv])
def lm (v : Int) : List Int := Bj 18446744073709551616 v.natAbs
def dg (v : Int) : List Int := Bj 4294967296 v.natAbs
def Bm (v : Int) : Nat := Cz v.natAbs
theorem Cq (v : Int) : A3 (lm v) := Gc (by decide) _
theorem Acp (v : Int) : tpd (lm v) := O8 (by decide) _
theorem Og (v : Int) : vl (lm v) = v.natAbs := by rw [← Rn]; exact I2 (by decide) _
theorem Afn (v : Int) : rng 4294967296 (dg v) := Gc (by decide) _
theorem Afm (v : Int) : tpd (dg v) := O8 (by decide) _
theorem Afl (v : Int) : vb 4294967296 (dg v) = v.natAbs := I2 (by decide) _
theorem F6 {l : List Int} (h : A3 l) : Dp l = Cz (vl l).toNat := by
  rw [← Ew]
  unfold Dp
  split
  · rename_i h0; rw [List.eq_nil_of_length_eq_zero h0]; rfl
  · rename_i h0
    have h1 := Mb (w := 64) (by decide) (Sg (Nz h)) (Ga l) (fun e => h0 (by rw [e]; rfl))
    rw [show (2 ^ 64 : Nat) = 18446744073709551616 by decide, Rn] at h1
    rw [← h1, Mn 64]
    have := Bg (Bk h) ((trm l).length - 1)
    omega
theorem Ui : ∀ {l : List Int}, A3 l → rng 4294967296 (dig l)
  | [], _ => fun x hx => by simp [dig] at hx
  | y :: l, h => fun x hx => by
    have h1 := h y (List.mem_cons_self ..)
    have h2 := Ui (l := l) fun z hz => h z (List.mem_cons_of_mem _ hz)
    have e : dig (y :: l) = y % 4294967296 :: y / 4294967296 :: dig l := rfl
    rw [e] at hx
    rcases List.mem_cons.1 hx with rfl | hx
    · show 0 ≤ y % 4294967296 ∧ y % 4294967296 < ((4294967296 : Nat) : Int); omega
    · rcases List.mem_cons.1 hx with rfl | hx
      · show 0 ≤ y / 4294967296 ∧ y / 4294967296 < ((4294967296 : Nat) : Int); omega
      · exact h2 x hx
theorem W6 : ∀ l : List Int, vb 4294967296 (dig l) = vl l
  | [] => rfl
  | y :: l => by
    have e : dig (y :: l) = y % 4294967296 :: y / 4294967296 :: dig l := rfl
    rw [e]
    simp only [vb, vl]
    rw [W6 l]
    have : Bs = 18446744073709551616 := rfl
    rw [this]
    omega
theorem R3 {s : Bool} {l : List Int} (h : A3 l) : ((sv s l).natAbs : Int) = vl l := by
  have := Bq h
  unfold sv; split <;> omega
theorem E1 {s : Bool} {l : List Int} {v : Int} (h : A3 l) (hv : sv s l = v) : (s && decide (0 < ((trm l).length : Int))) = decide (v < 0) ∧ trm l = lm v ∧ Dp l = Bm v := by
  have ha := R3 (s := s) h
  rw [hv] at ha
  refine ⟨?_, ?_, ?_⟩
  · have h0 := Bq h
    have hz := Ls h
    unfold sv at hv
    cases s
    · simp at hv ⊢; omega
    · simp only [Bool.true_and, if_true] at hv ⊢
      rw [decide_eq_decide]
      constructor
      · intro h1
        have : vl l ≠ 0 := fun e => by have := hz.2 e; omega
        omega
      · intro h1
        have : (trm l).length ≠ 0 := fun e => by have := hz.1 e; omega
        omega
  · exact Fu (by decide) (Nz h) (by rw [Rn, ← ha])
  · rw [F6 h]; unfold Bm; congr 1; omega
theorem I3 {s : Bool} {l : List Int} {v : Int} (h : A3 l) (hv : sv s l = v) : trm (dig l) = dg v :=
  Fu (by decide) (Ui h) (by have ha := R3 (s := s) h; rw [W6, ← ha, hv])
theorem Td (n : Nat) : Ks (Bj 4294967296 n) = Bj 18446744073709551616 n := by
  induction n using Nat.strongRecOn with
  | _ n ih =>
    by_cases h : n = 0
    · subst h; rw [Dg, Dg]; rfl
    · rw [Dd (by decide) h, Dd (b := 18446744073709551616) (by decide) h]
      by_cases h1 : n / 4294967296 = 0
      · rw [h1, Dg, show n / 18446744073709551616 = 0 by omega, Dg]
        show [((n % 4294967296 : Nat) : Int)] = _
        rw [show n % 4294967296 = n % 18446744073709551616 by omega]
      · rw [Dd (by decide) h1]
        show IntKind.u64.wrap (((n % 4294967296 : Nat) : Int) + IntKind.u64.wrap (((n / 4294967296 % 4294967296 : Nat) : Int) * 4294967296)) :: Ks (Bj 4294967296 (n / 4294967296 / 4294967296)) = _
        rw [Nat.div_div_eq_div_mul, show 4294967296 * 4294967296 = 18446744073709551616 by decide, ih _ (Nat.div_lt_self (by omega) (by decide)), Bh (m := ((n / 4294967296 % 4294967296 : Nat) : Int) * 4294967296) (by omega) (by omega), Bh (by omega) (by omega)]
        congr 1
        omega
theorem Z1 (v : Int) : Ks (dg v) = lm v := Td _
theorem Oj (v : Int) (h : dg v ≠ []) : 32 * ((dg v).length - 1) + Cz ((dg v).getD ((dg v).length - 1) 0).toNat = Bm v := by
  have := Mb (w := 32) (by decide) (Afn v) (Afm v) h
  rw [show (2 ^ 32 : Nat) = 4294967296 by decide, Afl] at this
  exact this
theorem Lh {v : Int} : dg v = [] ↔ v = 0 := by
  constructor
  · intro h; have := Afl v; rw [h] at this; simp only [vb] at this; omega
  · rintro rfl; exact Dg
theorem J2 {b : Nat} (hb : 2 ≤ b) : ∀ (k n : Nat), n < b ^ k → (Bj b n).length ≤ k
  | 0, n, h => by
    have : n = 0 := by simpa using h
    subst this; rw [Dg]; exact Nat.le_refl _
  | k + 1, n, h => by
    by_cases h0 : n = 0
    · subst h0; rw [Dg]; exact Nat.zero_le _
    · rw [Dd hb h0, List.length_cons]
      have := J2 hb k (n / b) (Nat.div_lt_of_lt_mul (by rw [Nat.mul_comm, ← Nat.pow_succ]; exact h))
      omega


def F9 (l : List Int) : List Int := 10855845 :: 10855845 :: (l ++ [10855845, 10855845])
def Kx (n i : Nat) : List Int := Cv (List.replicate i 10855845) n
theorem Z3 {n : Nat} : List.replicate n (0 : Int) = Kx n 0 := by simp [Kx, Cv]
theorem Ti {n i : Nat} (h : i ≤ n) : (Kx n i).length = n := Et (by simpa using h)
theorem Th {n i : Nat} (h : i < n) : (Kx n i).set ((0 + i) * 1) 10855845 = Kx n (i + 1) := by
  unfold Kx
  have := E5 (l := List.replicate i 10855845) (n := n) (v := 10855845) (by simpa using h)
  rw [List.length_replicate] at this
  rw [Nat.zero_add, Nat.mul_one, this, ← List.replicate_succ']
def Ki (l : List Int) (i : Nat) : List Int := 10855845 :: 10855845 :: (l.take i ++ List.replicate (l.length + 2 - i) 10855845)
theorem Z2 {l : List Int} : Kx (l.length + 4) (l.length + 4) = Ki l 0 := by
  unfold Kx Ki
  rw [D0 (by simp), List.take_zero, List.nil_append, Nat.sub_zero]
  rfl
theorem Tf {l : List Int} {i : Nat} (h : i ≤ l.length) : (Ki l i).length = l.length + 4 := by
  unfold Ki
  simp
  omega
theorem Te {l : List Int} {i : Nat} (h : i < l.length) : (Ki l i).set ((0 + (i + 2)) * 1) (l.getD i 0) = Ki l (i + 1) := by
  unfold Ki
  rw [Nat.zero_add, Nat.mul_one, List.set_cons_succ, List.set_cons_succ, List.set_append_right _ _ (by simp; omega)]
  congr 2
  rw [List.length_take, Nat.min_eq_left (by omega), Nat.sub_self]
  obtain ⟨k, hk⟩ : ∃ k, l.length + 2 - i = k + 1 := ⟨l.length + 1 - i, by omega⟩
  rw [hk, List.replicate_succ, List.set_cons_zero, show l.length + 2 - (i + 1) = k by omega, List.take_succ_eq_append_getElem h, List.append_assoc, List.getD_eq_getElem?_getD, List.getElem?_eq_getElem h]
  rfl
theorem Tg {l : List Int} : Ki l l.length = F9 l := by
  unfold Ki F9
  rw [List.take_length, show l.length + 2 - l.length = 2 by omega]
  rfl
theorem Jn {l : List Int} : (F9 l).length = l.length + 4 := by simp [F9]
theorem Vk {l : List Int} : ((F9 l).drop 2).take l.length = l := by
  unfold F9
  rw [List.drop_succ_cons, List.drop_succ_cons, List.drop_zero, List.take_append_of_le_length (Nat.le_refl _), List.take_length]
theorem O2 {l : List Int} {k : Nat} (hk : k < l.length + 4) (h : k < 2 ∨ l.length + 2 ≤ k) : (F9 l).getD k 0 = 10855845 := by
  unfold F9
  match k, h with
  | 0, _ => rfl
  | 1, _ => rfl
  | k + 2, h =>
    rw [List.getD_cons_succ, List.getD_cons_succ, List.getD_eq_getElem?_getD, List.getElem?_append_right (by omega)]
    obtain ⟨q, hq⟩ : ∃ q, k - l.length = q := ⟨_, rfl⟩
    rw [hq]
    match q, (show q < 2 by omega) with
    | 0, _ => rfl
    | 1, _ => rfl
theorem Yr {l : List Int} {k : Nat} (h1 : ¬ k < 2) (h2 : ¬ l.length + 2 ≤ k) : (F9 l).getD k 0 = l.getD (k - 2) 0 := by
  unfold F9
  obtain ⟨q, rfl⟩ : ∃ q, k = q + 2 := ⟨k - 2, by omega⟩
  rw [List.getD_cons_succ, List.getD_cons_succ, Nat.add_sub_cancel, List.getD_eq_getElem?_getD, List.getElem?_append_left (by omega), List.getD_eq_getElem?_getD]
theorem Qy {m : Nat} (h : m ≠ 0) : Cz m = 1 + Cz (m / 2) := by
  by_cases h1 : m / 2 = 0
  · have : m = 1 := by omega
    subst this; rfl
  · have := Kh (w := 1) (x := m % 2) (m := m / 2) (by have := Nat.mod_lt m (show 0 < 2 by decide); simpa using this) h1
    rw [Nat.pow_one, Nat.mod_add_div] at this
    exact this
theorem Uj (v : Int) (i : Nat) : 0 ≤ (dg v).getD i 0 ∧ (dg v).getD i 0 < 4294967296 := by
  by_cases hi : i < (dg v).length
  · rw [List.getD_eq_getElem?_getD, List.getElem?_eq_getElem hi]; exact Afn v _ (List.getElem_mem hi)
  · rw [List.getD_eq_getElem?_getD, List.getElem?_eq_none (by omega)]; exact ⟨by decide, by decide⟩
theorem Z4 (v : Int) : Bm v ≤ 32 * (dg v).length := by
  by_cases h : dg v = []
  · rw [Lh.1 h]; exact Nat.zero_le _
  · have h1 := Oj v h
    have h2 := Uj v ((dg v).length - 1)
    have h3 : Cz ((dg v).getD ((dg v).length - 1) 0).toNat ≤ 32 := C2.2 (by rw [show (2 ^ 32 : Nat) = 4294967296 by decide]; omega)
    have : 0 < (dg v).length := List.length_pos_iff.2 h
    omega
def Res (v : Int) (s : Bool) (r : List Int) (e : Int) : Prop := (Bm v ≤ 67108864 ∧ s = decide (v < 0) ∧ r = lm v ∧ e = 0) ∨ (67108864 < Bm v ∧ s = false ∧ r = [] ∧ e = 3)
theorem Md {v : Int} (h : Bm v ≤ 67108864) : (dg v).length ≤ 2097152 := by
  by_cases h0 : dg v = []
  · rw [h0]; exact Nat.zero_le _
  · have h1 := Oj v h0
    have := Afm v h0
    have h2 := Uj v ((dg v).length - 1)
    have := Fm (n := ((dg v).getD ((dg v).length - 1) 0).toNat) (by omega)
    omega
theorem Bf {v : Int} (h : Bm v ≤ 67108864) : (lm v).length ≤ 1048576 := by
  have h1 := (E1 (s := decide (v < 0)) (v := v) (Cq v) (by unfold sv; rw [Og]; by_cases h : v < 0 <;> simp [h] <;> omega)).2
  have := Xy (Cq v) (by rw [h1.2]; exact h)
  rwa [h1.1] at this
theorem Res.len {v : Int} {s : Bool} {r : List Int} {e : Int} (h : Res v s r e) : r.length ≤ 1048576 := by
  rcases h with ⟨h1, _, rfl, _⟩ | ⟨_, _, rfl, _⟩
  · exact Bf h1
  · exact Nat.zero_le _


def W1 (x : Int) (r : List Int) (e : Int) : Prop := (e = 0 ∧ Afj r ∧ vl r = x) ∨ (e = 3 ∧ 67108864 < Bm x)
def Ae1 (v : Int) (s : Bool) (l : List Int) (e : Int) : Prop := (e = 0 ∧ A3 l ∧ l.length < 1099511627776 ∧ sv s l = v) ∨ (e = 3 ∧ 67108864 < Bm v)
theorem Nd {l : List Int} {x : Int} (u : A3 l) (hv : vl l = x) : Dp l = Bm x := by
  have := Bq u
  rw [F6 u, hv]; unfold Bm; congr 1; omega
theorem Om {l : List Int} {x : Int} (u : A3 l) (hv : vl l = x) (h : Dp l ≤ 67108864) : W1 x (trm l) 0 := .inl ⟨rfl, Wh u h, by rw [Ew, hv]⟩
theorem Mh {l r : List Int} {x : Int} (u : A3 l) (hv : vl l = x) (h : 67108864 < Dp l) : W1 x r 3 := .inr ⟨rfl, by rwa [← Nd u hv]⟩
theorem Q3 {a b r : List Int} (ua : A3 a) (ub : A3 b) (h1 : 0 < Dp a) (h2 : 0 < Dp b) (h3 : 67108864 < Dp a + Dp b - 1) : W1 (vl a * vl b) r 3 := by
  refine .inr ⟨rfl, ?_⟩
  have ha := Bq ua
  have hb := Bq ub
  have ea := F6 ua
  have eb := F6 ub
  obtain ⟨x, hx⟩ : ∃ x : Nat, vl a = x := ⟨(vl a).toNat, by omega⟩
  obtain ⟨y, hy⟩ : ∃ y : Nat, vl b = y := ⟨(vl b).toNat, by omega⟩
  rw [hx] at ea
  rw [hy] at eb
  rw [show ((x : Int)).toNat = x from rfl] at ea
  rw [show ((y : Int)).toNat = y from rfl] at eb
  have hx0 : x ≠ 0 := fun e => by rw [e, Of] at ea; omega
  have hy0 : y ≠ 0 := fun e => by rw [e, Of] at eb; omega
  have := S1 hx0 hy0
  rw [hx, hy, ← Int.natCast_mul]
  unfold Bm
  rw [Int.natAbs_natCast]
  omega
theorem Gr {x v : Int} {s : Bool} {r : List Int} {e : Int} (h : W1 x r e) (h0 : 0 ≤ x) (hs : ∀ q, A3 q → vl q = x → sv s q = v) : Ae1 v s r e := by
  rcases h with ⟨h1, h2, h3⟩ | ⟨h1, h2⟩
  · exact .inl ⟨h1, h2.1, by have := h2.2; omega, hs r h2.1 h3⟩
  · refine .inr ⟨h1, ?_⟩
    have e1 := Og x
    have e2 := hs (lm x) (Cq x) (by rw [e1]; omega)
    have e3 := R3 (s := s) (Cq x)
    rw [e2, e1] at e3
    have e4 : v.natAbs = x.natAbs := by omega
    unfold Bm at h2 ⊢
    rwa [e4]
theorem Xk {s : Bool} {l : List Int} {v : Int} (u : A3 l) (hv : sv s l = v) (h : Dp l ≤ 67108864) : Res v (s && decide (0 < ((trm l).length : Int))) (trm l) 0 := by
  obtain ⟨h1, h2, h3⟩ := E1 u hv
  exact .inl ⟨by rwa [← h3], h1, h2, rfl⟩
theorem Sk {s : Bool} {l : List Int} {v : Int} (u : A3 l) (hv : sv s l = v) (h : 67108864 < Dp l) : Res v false [] 3 := by
  obtain ⟨h1, h2, h3⟩ := E1 u hv
  exact .inr ⟨by rwa [← h3], rfl, rfl, rfl⟩
theorem Uk {l : List Int} {v : Int} {s : Bool} (u : A3 l) (hv : sv s l = v) : (dg v).length ≤ 2 * l.length := by
  rw [← I3 u hv]
  have := C7 (dig l)
  rw [Kp] at this
  exact this
theorem Ym {s : Bool} {l : List Int} (u : A3 l) : (s && decide (trm (dig l) ≠ [])) = decide (sv s l < 0) := by
  rw [I3 (s := s) u rfl]
  have h0 := Bq u
  by_cases h : dg (sv s l) = []
  · rw [Lh.1 h]
    simp [dg, Dg]
  · have h1 : sv s l ≠ 0 := fun e => h (Lh.2 e)
    rw [decide_eq_true h, Bool.and_true]
    unfold sv at h1 ⊢
    cases s <;> simp at h1 ⊢ <;> omega

namespace D
def r32 (l : List Int) : Prop := ∀ x ∈ l, 0 ≤ x ∧ x < 4294967296
def Bs : Int := 4294967296
def vl : List Int → Int
  | [] => 0
  | x :: l => x + Bs * vl l
def pB : Nat → Int
  | 0 => 1
  | k + 1 => Bs * pB k
theorem Dn : ∀ k, 0 < pB k
  | 0 => by decide
  | k + 1 => by simp only [pB]; exact Int.mul_pos (by decide) (Dn k)
theorem Fw : ∀ a b, pB (a + b) = pB a * pB b
  | 0, b => by simp [pB]
  | a + 1, b => by rw [show a + 1 + b = (a + b) + 1 by omega]; simp only [pB]; rw [Fw a b, Int.mul_assoc]
theorem Ee : ∀ a b : List Int, vl (a ++ b) = vl a + pB a.length * vl b
  | [], b => by simp [vl, pB]
  | x :: a, b => by
    simp only [List.cons_append, vl, List.length_cons, pB]
    rw [Ee a b, Int.mul_add, Int.mul_assoc, Int.add_assoc]
theorem Bq : ∀ {l : List Int}, r32 l → 0 ≤ vl l
  | [], _ => Int.le_refl _
  | x :: l, h => by
    have h1 := (h x (List.mem_cons_self ..)).1
    have h2 := Bq (l := l) fun y hy => h y (List.mem_cons_of_mem _ hy)
    simp only [vl]
    have := Int.mul_nonneg (show (0 : Int) ≤ Bs by decide) h2
    omega
theorem Fe : ∀ {l : List Int}, r32 l → vl l < pB l.length
  | [], _ => by decide
  | x :: l, h => by
    have h1 := (h x (List.mem_cons_self ..)).2
    have h2 := Fe (l := l) fun y hy => h y (List.mem_cons_of_mem _ hy)
    simp only [vl, List.length_cons, pB]
    have h3 : vl l + 1 ≤ pB l.length := h2
    have h4 := Int.mul_le_mul_of_nonneg_left h3 (show (0 : Int) ≤ Bs by decide)
    rw [Int.mul_add, Int.mul_one] at h4
    have h5 : x < Bs := h1
    omega
def vk (l : List Int) (k : Nat) : Int := vl (l.take k)
theorem vk_0 (l : List Int) : vk l 0 = 0 := by unfold vk; simp [vl]
theorem vk_all {l : List Int} {k : Nat} (h : l.length ≤ k) : vk l k = vl l := by unfold vk; rw [List.take_of_length_le h]
theorem Da (l : List Int) (k : Nat) : vk l (k + 1) = vk l k + pB k * l.getD k 0 := by
  unfold vk
  by_cases h : k < l.length
  · rw [List.take_succ_eq_append_getElem h, Ee, List.length_take, Nat.min_eq_left (by omega), List.getD_eq_getElem?_getD, List.getElem?_eq_getElem h]
    simp [vl]
  · rw [List.take_of_length_le (by omega), List.take_of_length_le (by omega), Dw (by omega)]
    simp
theorem Ji : ∀ (l : List Int) (j : Nat) (v : Int), j < l.length → vl (l.set j v) = vl l + pB j * (v - l.getD j 0)
  | [], j, v, h => by simp at h
  | x :: l, 0, v, _ => by
    have e : (x :: l).getD 0 0 = x := rfl
    simp only [List.set_cons_zero, vl, pB, e]; omega
  | x :: l, j + 1, v, h => by
    have ih := Ji l j v (by simpa using h)
    have e : (x :: l).getD (j + 1) 0 = l.getD j 0 := rfl
    simp only [List.set_cons_succ, vl, pB, e]
    rw [ih, Int.mul_add, Int.mul_assoc]; omega
theorem school_in {o o2 b : List Int} {i k : Nat} {c c2 x t s : Int} (hj : i + k < o.length) (ho2 : o2 = o.set (i + k) s) (ht : o.getD (i + k) 0 = t) {V : Int}
    (hv : vl o + c * pB (i + k) = V + x * pB i * vk b k) (hs : s + 4294967296 * c2 = t + x * b.getD k 0 + c) : vl o2 + c2 * pB (i + (k + 1)) = V + x * pB i * vk b (k + 1) := by
  subst ho2
  rw [Ji _ _ _ hj, ht, Da, show i + (k + 1) = (i + k) + 1 by omega]
  simp only [pB]
  have hB : Bs = 4294967296 := rfl
  have e1 : c2 * (Bs * pB (i + k)) = pB (i + k) * (4294967296 * c2) := by rw [hB, ← Int.mul_assoc, Int.mul_comm (c2 * 4294967296), Int.mul_comm c2]
  have e2 : x * pB i * (vk b k + pB k * b.getD k 0) = x * pB i * vk b k + pB (i + k) * (x * b.getD k 0) := by
    rw [Int.mul_add, Fw]
    congr 1
    rw [Int.mul_assoc, Int.mul_left_comm (pB i * pB k), Int.mul_assoc (pB i)]
  have e3 : pB (i + k) * (s - t) + pB (i + k) * (4294967296 * c2) = pB (i + k) * (x * b.getD k 0) + pB (i + k) * c := by
    rw [← Int.mul_add, ← Int.mul_add]; congr 1; omega
  rw [e1, e2]
  have e4 : c * pB (i + k) = pB (i + k) * c := Int.mul_comm _ _
  omega
theorem school_row {o o2 a b : List Int} {i : Nat} {c : Int} (hj : i + b.length < o.length) (h0 : o.getD (i + b.length) 0 = 0) (ho2 : o2 = o.set (i + b.length) c)
    (hv : vl o + c * pB (i + b.length) = vk a i * vl b + a.getD i 0 * pB i * vk b b.length) : vl o2 = vk a (i + 1) * vl b := by
  subst ho2
  rw [Ji _ _ _ hj, h0, Da, Int.add_mul]
  rw [vk_all (Nat.le_refl _)] at hv
  have e : pB i * a.getD i 0 * vl b = a.getD i 0 * pB i * vl b := by rw [Int.mul_comm (pB i)]
  have e4 : c * pB (i + b.length) = pB (i + b.length) * c := Int.mul_comm _ _
  rw [e, Int.sub_zero]
  omega
end D
theorem Aba : ∀ l, vb 4294967296 l = D.vl l
  | [] => rfl
  | x :: l => by simp only [vb, D.vl, Aba l]; rfl
theorem Gb {b : Nat} (hb : 0 < b) {l : List Int} (h : rng b l) (i : Nat) : 0 ≤ l.getD i 0 ∧ l.getD i 0 < (b : Int) := by
  by_cases hi : i < l.length
  · rw [List.getD_eq_getElem?_getD, List.getElem?_eq_getElem hi]; exact h _ (List.getElem_mem hi)
  · rw [List.getD_eq_getElem?_getD, List.getElem?_eq_none (by omega)]; exact ⟨Int.le_refl _, by show (0 : Int) < b; omega⟩
theorem Sh {b : Nat} {l : List Int} {j : Nat} {v : Int} (h : rng b l) (h0 : 0 ≤ v) (h1 : v < (b : Int)) : rng b (l.set j v) := fun x hx => by
  rcases List.mem_or_eq_of_mem_set hx with hx | hx
  · exact h x hx
  · subst hx; exact ⟨h0, h1⟩
theorem Mm {b : Nat} (hb : 2 ≤ b) : ∀ (i n : Nat), (Bj b n).getD i 0 = ((n / b ^ i % b : Nat) : Int)
  | 0, n => by
    by_cases h : n = 0
    · subst h; rw [Dg]; simp
    · rw [Dd hb h]; simp
  | i + 1, n => by
    by_cases h : n = 0
    · subst h; rw [Dg]; simp
    · rw [Dd hb h, List.getD_cons_succ, Mm hb i (n / b), Nat.div_div_eq_div_mul, Nat.pow_succ, Nat.mul_comm b]
theorem Jc {b : Nat} (hb : 2 ≤ b) (n : Nat) : n < b ^ (Bj b n).length := by
  induction n using Nat.strongRecOn with
  | _ n ih =>
    by_cases h : n = 0
    · subst h; rw [Dg]; simp
    · rw [Dd hb h, List.length_cons, Nat.pow_succ, Nat.mul_comm]
      have h1 := ih (n / b) (Nat.div_lt_self (by omega) (by omega))
      have h2 : b * (n / b + 1) ≤ b * b ^ (Bj b (n / b)).length := Nat.mul_le_mul_left _ h1
      have h3 := Nat.mod_lt n (show 0 < b by omega)
      have h4 := Nat.mod_add_div n b
      rw [Nat.mul_add, Nat.mul_one] at h2
      omega
abbrev B32 : Nat := 4294967296
def dgt (z j : Nat) : Int := ((z / B32 ^ j % B32 : Nat) : Int)
def dvl (z m : Nat) : List Int := (List.range m).map (dgt z)
theorem Fq (z m : Nat) : (dvl z m).length = m := by simp [dvl]
theorem Qa (z m : Nat) : dvl z (m + 1) = dvl z m ++ [dgt z m] := by simp [dvl, List.range_succ]
theorem J7 (b : Nat) : ∀ (l : List Int) (x : Int), vb b (l ++ [x]) = vb b l + ((b ^ l.length : Nat) : Int) * x
  | [], x => by simp [vb]
  | y :: l, x => by
    simp only [List.cons_append, vb, J7 b l x, List.length_cons]
    rw [Int.mul_add, Nat.pow_succ, Int.natCast_mul, Int.mul_comm ((b ^ l.length : Nat) : Int) (b : Int), Int.mul_assoc, Int.add_assoc]
theorem W5 (z : Nat) : ∀ m, vb B32 (dvl z m) = ((z % B32 ^ m : Nat) : Int)
  | 0 => by simp [dvl, vb, Nat.mod_one]
  | m + 1 => by
    rw [Qa, J7, W5 z m, Fq, Nat.mod_pow_succ]
    unfold dgt
    rw [Int.natCast_add, Int.natCast_mul]
theorem Aak (z j : Nat) : 0 ≤ dgt z j ∧ dgt z j < 4294967296 := by
  unfold dgt
  have := Nat.mod_lt (z / B32 ^ j) (show 0 < B32 by decide)
  have h : B32 = 4294967296 := rfl
  omega
theorem Aag (z m : Nat) : rng B32 (dvl z m) := fun x hx => by
  obtain ⟨j, _, rfl⟩ := List.mem_map.1 hx
  exact Aak z j
theorem Rx {z m : Nat} (h : z < B32 ^ m) : trm (dvl z m) = Bj B32 z := Fu (by decide) (Aag z m) (by rw [W5, Nat.mod_eq_of_lt h])
theorem P7 {z i n : Nat} (h : i < n) : (Cv (dvl z i) n).set ((0 + i) * 1) (dgt z i) = Cv (dvl z (i + 1)) n := by
  have := E5 (l := dvl z i) (n := n) (v := dgt z i) (by rw [Fq]; exact h)
  rw [Fq] at this
  rw [Nat.zero_add, Nat.mul_one, this, ← Qa]
def cry (x y i : Nat) : Nat := (x % B32 ^ i + y % B32 ^ i) / B32 ^ i
theorem X7 (x y i : Nat) : cry x y i ≤ 1 := by
  unfold cry
  have h := Nat.pow_pos (n := i) (show 0 < B32 by decide)
  have h1 := Nat.mod_lt x h
  have h2 := Nat.mod_lt y h
  have : (x % B32 ^ i + y % B32 ^ i) / B32 ^ i < 2 := Nat.div_lt_of_lt_mul (by omega)
  omega
theorem U3 (x y i : Nat) : (x / B32 ^ i % B32 + y / B32 ^ i % B32 + cry x y i) % B32 = (x + y) / B32 ^ i % B32 ∧ (x / B32 ^ i % B32 + y / B32 ^ i % B32 + cry x y i) / B32 = cry x y (i + 1) := by
  have h := Nat.pow_pos (n := i) (show 0 < B32 by decide)
  constructor
  · have e : (x + y) / B32 ^ i = cry x y i + (x / B32 ^ i + y / B32 ^ i) := by
      have h1 := Nat.mod_add_div x (B32 ^ i)
      have h2 := Nat.mod_add_div y (B32 ^ i)
      unfold cry
      rw [← Nat.add_mul_div_left _ _ h, Nat.mul_add]
      congr 1
      omega
    rw [e, Nat.add_comm (cry x y i), Nat.add_mod, Nat.add_mod (x / B32 ^ i + y / B32 ^ i), Nat.add_mod (x / B32 ^ i) (y / B32 ^ i)]
  · unfold cry
    rw [Nat.mod_pow_succ, Nat.mod_pow_succ, Nat.pow_succ, ← Nat.div_div_eq_div_mul]
    congr 1
    rw [show x % B32 ^ i + B32 ^ i * (x / B32 ^ i % B32) + (y % B32 ^ i + B32 ^ i * (y / B32 ^ i % B32)) = (x % B32 ^ i + y % B32 ^ i) + B32 ^ i * (x / B32 ^ i % B32 + y / B32 ^ i % B32) by rw [Nat.mul_add]; omega, Nat.add_mul_div_left _ _ h]
    omega
def brw (x y i : Nat) : Nat := if x % B32 ^ i < y % B32 ^ i then 1 else 0
theorem Ya (x y i : Nat) : brw x y i ≤ 1 := by unfold brw; split <;> omega
theorem R5 {x y : Nat} (hle : y ≤ x) (i : Nat) : (x / B32 ^ i % B32 + B32 - y / B32 ^ i % B32 - brw x y i) % B32 = (x - y) / B32 ^ i % B32 ∧ 1 - (x / B32 ^ i % B32 + B32 - y / B32 ^ i % B32 - brw x y i) / B32 = brw x y (i + 1) := by
  have h := Nat.pow_pos (n := i) (show 0 < B32 by decide)
  have hb := Ya x y i
  have m1 := Nat.mod_lt (x / B32 ^ i) (show 0 < B32 by decide)
  have m2 := Nat.mod_lt (y / B32 ^ i) (show 0 < B32 by decide)
  have B : B32 = 4294967296 := rfl
  constructor
  · have e : (x - y) / B32 ^ i = x / B32 ^ i - y / B32 ^ i - brw x y i ∧ y / B32 ^ i + brw x y i ≤ x / B32 ^ i := by
      have h1 := Nat.mod_add_div x (B32 ^ i)
      have h2 := Nat.mod_add_div y (B32 ^ i)
      have h3 := Nat.mod_lt x h
      have h4 := Nat.mod_lt y h
      generalize hX : x / B32 ^ i = X at *
      generalize hY : y / B32 ^ i = Y at *
      have hYX : Y ≤ X := by rw [← hX, ← hY]; exact Nat.div_le_div_right hle
      unfold brw
      clear hX hY m1 m2
      generalize x % B32 ^ i = p at *
      generalize y % B32 ^ i = q at *
      generalize B32 ^ i = P at *
      by_cases hc : p < q
      · rw [if_pos hc]
        have hlt : Y < X := by
          rcases Nat.lt_or_ge Y X with h5 | h5
          · exact h5
          · have : X = Y := by omega
            subst this; omega
        refine ⟨?_, by omega⟩
        have e2 : x - y = (p + P - q) + P * (X - Y - 1) := by
          obtain ⟨d, rfl⟩ : ∃ d, X = Y + 1 + d := ⟨X - Y - 1, by omega⟩
          rw [show Y + 1 + d - Y - 1 = d by omega]
          rw [Nat.mul_add, Nat.mul_add, Nat.mul_one] at h1
          omega
        rw [e2, Nat.add_mul_div_left _ _ h, Nat.div_eq_of_lt (by omega)]
        omega
      · rw [if_neg hc]
        refine ⟨?_, by omega⟩
        have e2 : x - y = (p - q) + P * (X - Y) := by
          obtain ⟨d, rfl⟩ : ∃ d, X = Y + d := ⟨X - Y, by omega⟩
          rw [show Y + d - Y = d by omega]
          rw [Nat.mul_add] at h1
          omega
        rw [e2, Nat.add_mul_div_left _ _ h, Nat.div_eq_of_lt (by omega)]
        omega
    obtain ⟨e1, e2⟩ := e
    rw [e1]
    generalize x / B32 ^ i = X at *
    generalize y / B32 ^ i = Y at *
    generalize brw x y i = c at *
    show (X % 4294967296 + 4294967296 - Y % 4294967296 - c) % 4294967296 = (X - Y - c) % 4294967296
    omega
  · have e1 := Nat.mod_pow_succ (x := x) (b := B32) (k := i)
    have e2 := Nat.mod_pow_succ (x := y) (b := B32) (k := i)
    have h3 := Nat.mod_lt x h
    have h4 := Nat.mod_lt y h
    have hA : x % B32 ^ (i + 1) < y % B32 ^ (i + 1) ↔ x / B32 ^ i % B32 < y / B32 ^ i % B32 + brw x y i := by
      rw [e1, e2]
      have hbr : brw x y i = if x % B32 ^ i < y % B32 ^ i then 1 else 0 := rfl
      generalize x / B32 ^ i % B32 = dx at *
      generalize y / B32 ^ i % B32 = dy at *
      generalize brw x y i = c at *
      generalize x % B32 ^ i = p at *
      generalize y % B32 ^ i = q at *
      generalize B32 ^ i = P at *
      rcases Nat.lt_trichotomy dx dy with hd | hd | hd
      · have h5 : P * (dx + 1) ≤ P * dy := Nat.mul_le_mul_left _ hd
        rw [Nat.mul_add, Nat.mul_one] at h5
        constructor
        · intro _; omega
        · intro _; omega
      · subst hd
        by_cases hc : p < q
        · rw [if_pos hc] at hbr; constructor
          · intro _; omega
          · intro _; omega
        · rw [if_neg hc] at hbr; constructor
          · intro _; omega
          · intro _; omega
      · have h5 : P * (dy + 1) ≤ P * dx := Nat.mul_le_mul_left _ hd
        rw [Nat.mul_add, Nat.mul_one] at h5
        constructor
        · intro _; omega
        · intro _; omega
    have hgo : brw x y (i + 1) = if x / B32 ^ i % B32 < y / B32 ^ i % B32 + brw x y i then 1 else 0 := by
      by_cases h : x / B32 ^ i % B32 < y / B32 ^ i % B32 + brw x y i
      · rw [if_pos h]; exact if_pos (hA.2 h)
      · rw [if_neg h]; exact if_neg (fun h' => h (hA.1 h'))
    rw [hgo]
    generalize x / B32 ^ i % B32 = dx at *
    generalize y / B32 ^ i % B32 = dy at *
    generalize brw x y i = c at *
    have m1' : dx < 4294967296 := m1
    have m2' : dy < 4294967296 := m2
    show 1 - (dx + 4294967296 - dy - c) / 4294967296 = _
    split <;> omega
theorem Nn {x y : Int} {a b : List Int} : ∀ k, Jf (x :: a) (y :: b) (k + 1) = if Jf a b k = 0 then (if x < y then -1 else if y < x then 1 else 0) else Jf a b k
  | 0 => by simp [Jf]
  | k + 1 => by
    have ih := Nn (x := x) (y := y) (a := a) (b := b) k
    have e1 : Jf (x :: a) (y :: b) (k + 1 + 1) = if a.getD k 0 < b.getD k 0 then -1 else if b.getD k 0 < a.getD k 0 then 1 else Jf (x :: a) (y :: b) (k + 1) := rfl
    have e2 : Jf a b (k + 1) = if a.getD k 0 < b.getD k 0 then -1 else if b.getD k 0 < a.getD k 0 then 1 else Jf a b k := rfl
    rw [e1, e2, ih]
    by_cases h1 : a.getD k 0 < b.getD k 0
    · rw [if_pos h1, if_pos h1, if_neg (by decide)]
    · rw [if_neg h1, if_neg h1]
      by_cases h2 : b.getD k 0 < a.getD k 0
      · rw [if_pos h2, if_pos h2, if_neg (by decide)]
      · rw [if_neg h2, if_neg h2]
theorem Ix {b : Nat} (hb : 2 ≤ b) (x : Nat) : ∀ y, x ≤ y → (Bj b x).length ≤ (Bj b y).length := by
  induction x using Nat.strongRecOn with
  | _ x ih =>
    intro y hxy
    by_cases h : x = 0
    · subst h; rw [Dg]; exact Nat.zero_le _
    · rw [Dd hb h, Dd hb (by omega : y ≠ 0), List.length_cons, List.length_cons]
      have := ih (x / b) (Nat.div_lt_self (by omega) (by omega)) (y / b) (Nat.div_le_div_right hxy)
      omega
theorem Ut {b : Nat} (hb : 2 ≤ b) (x : Nat) : ∀ y, (Bj b x).length = (Bj b y).length → Jf (Bj b x) (Bj b y) (Bj b x).length = Du x y := by
  induction x using Nat.strongRecOn with
  | _ x ih =>
    intro y hl
    by_cases h : x = 0
    · subst h
      rw [Dg] at hl ⊢
      have hy : y = 0 := by
        rcases Nat.eq_zero_or_pos y with h | h
        · exact h
        · rw [Dd hb (by omega)] at hl; simp at hl
      subst hy; rfl
    · have hy : y ≠ 0 := by
        intro e; subst e
        rw [Dg, Dd hb h] at hl; simp at hl
      rw [Dd hb h, Dd hb hy] at hl ⊢
      have hl' : (Bj b (x / b)).length = (Bj b (y / b)).length := by simpa using hl
      rw [List.length_cons, Nn, ih (x / b) (Nat.div_lt_self (by omega) (by omega)) (y / b) hl']
      have e1 := Nat.mod_add_div x b
      have e2 := Nat.mod_add_div y b
      have m1 := Nat.mod_lt x (show 0 < b by omega)
      have m2 := Nat.mod_lt y (show 0 < b by omega)
      generalize x / b = X at *
      generalize y / b = Y at *
      rcases Nat.lt_trichotomy X Y with hd | hd | hd
      · have h5 : b * (X + 1) ≤ b * Y := Nat.mul_le_mul_left _ hd
        rw [Nat.mul_add, Nat.mul_one] at h5
        have c1 : Du X Y = -1 := if_pos (by omega)
        have c2 : Du x y = -1 := if_pos (by omega)
        rw [c1, c2]; rfl
      · subst hd
        have c1 : Du X X = 0 := Qg.2 rfl
        rw [c1, if_pos rfl]
        rcases Nat.lt_trichotomy (x % b) (y % b) with g1 | g1 | g1
        · have q1 : ((x % b : Nat) : Int) < ((y % b : Nat) : Int) := Int.ofNat_lt.2 g1
          have c2 : Du x y = -1 := if_pos (by omega)
          rw [if_pos q1, c2]
        · have c2 : Du x y = 0 := Qg.2 (by omega)
          rw [g1, if_neg (Int.lt_irrefl _), if_neg (Int.lt_irrefl _), c2]
        · have q1 : ((y % b : Nat) : Int) < ((x % b : Nat) : Int) := Int.ofNat_lt.2 g1
          have c2 : Du x y = 1 := by
            have n1 : ¬ ((x : Nat) : Int) < y := by omega
            have n2 : ((y : Nat) : Int) < x := by omega
            unfold Du; rw [if_neg n1, if_pos n2]
          rw [if_neg (Int.lt_asymm q1), if_pos q1, c2]
      · have h5 : b * (Y + 1) ≤ b * X := Nat.mul_le_mul_left _ hd
        rw [Nat.mul_add, Nat.mul_one] at h5
        have c1 : Du X Y = 1 := by unfold Du; rw [if_neg (by omega), if_pos (by omega)]
        have c2 : Du x y = 1 := by unfold Du; rw [if_neg (by omega), if_pos (by omega)]
        rw [c1, c2]; rfl
theorem Aeu (x y : Nat) : cry x y 0 = 0 := by unfold cry; rw [Nat.pow_zero, Nat.mod_one, Nat.mod_one]
theorem Aev (x y : Nat) : brw x y 0 = 0 := by unfold brw; rw [Nat.pow_zero, Nat.mod_one, Nat.mod_one]; rfl
theorem Ni {z n : Nat} : List.replicate n (0 : Int) = Cv (dvl z 0) n := by simp [Cv, dvl]
theorem P6 {z i n : Nat} (h : i ≤ n) : (Cv (dvl z i) n).length = n := Et (by rw [Fq]; exact h)
theorem J0 {z n : Nat} : Cv (dvl z n) n = dvl z n := D0 (Fq z n)
theorem Xa {x y n : Nat} (hx : (Bj B32 x).length ≤ n) (hy : (Bj B32 y).length ≤ n) : x + y < B32 ^ (n + 1) := by
  have h1 := Nat.lt_of_lt_of_le (Jc (b := B32) (by decide) x) (Nat.pow_le_pow_right (by decide) hx)
  have h2 := Nat.lt_of_lt_of_le (Jc (b := B32) (by decide) y) (Nat.pow_le_pow_right (by decide) hy)
  rw [Nat.pow_succ]
  have : 2 * B32 ^ n ≤ B32 ^ n * B32 := by rw [Nat.mul_comm]; exact Nat.mul_le_mul_left _ (by decide)
  omega
theorem Ada {x y : Nat} : x - y < B32 ^ (Bj B32 x).length := Nat.lt_of_le_of_lt (Nat.sub_le x y) (Jc (by decide) x)
theorem Uu {b : Nat} (hb : 2 ≤ b) (x y : Nat) : Lk (Bj b x) (Bj b y) = Du x y := by
  unfold Lk
  by_cases h1 : (Bj b x).length < (Bj b y).length
  · rw [if_pos h1]
    have : x < y := by
      rcases Nat.lt_or_ge x y with h | h
      · exact h
      · have := Ix hb y x h; omega
    exact (if_pos (by omega)).symm
  · rw [if_neg h1]
    by_cases h2 : (Bj b y).length < (Bj b x).length
    · rw [if_pos h2]
      have : y < x := by
        rcases Nat.lt_or_ge y x with h | h
        · exact h
        · have := Ix hb x y h; omega
      unfold Du; rw [if_neg (by omega), if_pos (by omega)]
    · rw [if_neg h2]
      exact Ut hb x y (by omega)

def zs (s : Bool) (n : Nat) : Int := if s = true then -(n : Int) else n
theorem Rd {s : Bool} {n : Nat} : (zs s n).natAbs = n := by unfold zs; split <;> omega
theorem Aet {s : Bool} {n : Nat} : dg (zs s n) = Bj B32 n := by unfold dg; rw [Rd]
theorem Ml {n : Nat} : Bj B32 n = [] ↔ n = 0 := by
  constructor
  · intro h
    rcases Nat.eq_zero_or_pos n with h0 | h0
    · exact h0
    · rw [Dd (by decide) (by omega)] at h; simp at h
  · rintro rfl; exact Dg
theorem Ael {s : Bool} {n : Nat} : (s && decide (Bj B32 n ≠ [])) = decide (zs s n < 0) := by
  have h := Ml (n := n)
  unfold zs
  by_cases h0 : n = 0
  · subst h0
    rw [h.2 rfl]; simp
  · have h1 : Bj B32 n ≠ [] := fun e => h0 (h.1 e)
    rw [decide_eq_true h1, Bool.and_true]
    cases s <;> simp <;> omega
theorem Rf {x y : Int} (h : (decide (x < 0) == decide (y < 0)) = true) : zs (decide (x < 0)) (x.natAbs + y.natAbs) = x + y := by
  have h : decide (x < 0) = decide (y < 0) := by simpa using h
  unfold zs
  by_cases hx : x < 0
  · have hy : y < 0 := of_decide_eq_true (h ▸ decide_eq_true hx)
    rw [if_pos (decide_eq_true hx)]; omega
  · have hy : ¬ y < 0 := of_decide_eq_false (h ▸ decide_eq_false hx)
    rw [if_neg (by rw [decide_eq_false hx]; decide)]; omega
theorem Yp {x y : Int} (h : (decide (x < 0) == decide (y < 0)) = false) (hc : 0 ≤ Du (x.natAbs : Int) y.natAbs) : zs (decide (x < 0)) (x.natAbs - y.natAbs) = x + y := by
  have h : ¬ decide (x < 0) = decide (y < 0) := by simpa using h
  have hle : y.natAbs ≤ x.natAbs := by
    rcases Nat.lt_or_ge x.natAbs y.natAbs with h1 | h1
    · have : Du (x.natAbs : Int) y.natAbs = -1 := if_pos (by omega)
      omega
    · exact h1
  unfold zs
  by_cases hx : x < 0
  · have hy : ¬ y < 0 := fun hy => h (by rw [decide_eq_true hx, decide_eq_true hy])
    rw [if_pos (decide_eq_true hx)]; omega
  · have hy : y < 0 := Classical.byContradiction fun hy => h (by rw [decide_eq_false hx, decide_eq_false hy])
    rw [if_neg (by rw [decide_eq_false hx]; decide)]; omega
theorem Yo {x y : Int} (h : (decide (x < 0) == decide (y < 0)) = false) (hc : ¬ 0 ≤ Du (x.natAbs : Int) y.natAbs) : zs (decide (y < 0)) (y.natAbs - x.natAbs) = x + y := by
  have h : ¬ decide (x < 0) = decide (y < 0) := by simpa using h
  have hle : x.natAbs < y.natAbs := by
    rcases Nat.lt_or_ge x.natAbs y.natAbs with h1 | h1
    · exact h1
    · exfalso; apply hc; unfold Du; rw [if_neg (by omega)]; split <;> decide
  unfold zs
  by_cases hx : x < 0
  · have hy : ¬ y < 0 := fun hy => h (by rw [decide_eq_true hx, decide_eq_true hy])
    rw [if_neg (by rw [decide_eq_false hy]; decide)]; omega
  · have hy : y < 0 := Classical.byContradiction fun hy => h (by rw [decide_eq_false hx, decide_eq_false hy])
    rw [if_pos (decide_eq_true hy)]; omega
theorem Uo {x y : Nat} (hc : 0 ≤ Du (x : Int) y) : y ≤ x := by
  rcases Nat.lt_or_ge x y with h1 | h1
  · have : Du (x : Int) y = -1 := if_pos (by omega)
    omega
  · exact h1
theorem Adi {x y : Nat} (hc : ¬ 0 ≤ Du (x : Int) y) : x ≤ y := by
  rcases Nat.lt_or_ge x y with h1 | h1
  · omega
  · exfalso; apply hc; unfold Du; rw [if_neg (by omega)]; split <;> decide
theorem Afu {x : Int} : zs (!decide (x < 0)) x.natAbs = -x := by
  unfold zs
  by_cases hx : x < 0
  · rw [decide_eq_true hx]; simp; omega
  · rw [decide_eq_false hx]; simp; omega
theorem Afv {x y : Int} : zs (!(decide (x < 0) == decide (y < 0))) (x.natAbs * y.natAbs) = x * y := by
  have e := Int.natAbs_mul x y
  rw [← e]
  unfold zs
  by_cases hx : x < 0
  · by_cases hy : y < 0
    · rw [decide_eq_true hx, decide_eq_true hy]
      have := Int.mul_pos_of_neg_of_neg hx hy
      simp; omega
    · rw [decide_eq_true hx, decide_eq_false hy]
      have := Int.mul_nonpos_of_nonpos_of_nonneg (Int.le_of_lt hx) (show 0 ≤ y by omega)
      simp; omega
  · by_cases hy : y < 0
    · rw [decide_eq_false hx, decide_eq_true hy]
      have := Int.mul_nonpos_of_nonneg_of_nonpos (show 0 ≤ x by omega) (Int.le_of_lt hy)
      simp; omega
    · rw [decide_eq_false hx, decide_eq_false hy]
      have := Int.mul_nonneg (show 0 ≤ x by omega) (show 0 ≤ y by omega)
      simp; omega
theorem Aar {v : Int} : decide (((v.natAbs : Nat) : Int) < 0) = false := decide_eq_false (by omega)
theorem X6 {v : Int} : dg ((v.natAbs : Nat) : Int) = dg v := by unfold dg; rw [Int.natAbs_natCast]
theorem F4 {x : Int} : (x < 0 ∧ Cb x = -1) ∨ (x = 0 ∧ Cb x = 0) ∨ (0 < x ∧ Cb x = 1) := by
  unfold Cb
  rcases Int.lt_trichotomy x 0 with h | h | h
  · exact .inl ⟨h, by rw [if_neg (by omega), if_pos h]⟩
  · exact .inr (.inl ⟨h, by rw [if_pos h]⟩)
  · exact .inr (.inr ⟨h, by rw [if_neg (by omega), if_neg (by omega)]⟩)
theorem Aal {v : Int} : ((dg v).length : Int) = 0 ↔ v = 0 := by
  constructor
  · intro h; exact Lh.1 (List.eq_nil_of_length_eq_zero (by omega))
  · intro h; rw [Lh.2 h]; rfl

theorem B2 : Try.prog.follows .mixedOrders = true := by kernel_rfl
theorem Bo : slB Try.prog 25 79 1 = true := by kernel_rfl
theorem Bw : K8 Try.prog 79 = true := by kernel_rfl
theorem Rt : Try.prog.underlying 25 = some (.slice 79) := by kernel_rfl
theorem Ky : elP Try.prog 25 79 1 8 (.int .u64 0) := P8 Rt (by kernel_rfl) rfl (by decide)
theorem Af0 : Try.prog.underlying 9 = some .string := by kernel_rfl
theorem H7 : Try.prog.underlying 79 = some (.int .u64) := by kernel_rfl
theorem Ae8 : Try.prog.underlying 5 = some (.int .u8) := by kernel_rfl
theorem Mt : Try.prog.underlying 3 = some (.int .i64) := by kernel_rfl
theorem Dc : slB Try.prog 30 79 1 = true := by kernel_rfl
theorem Bx : ((Try.prog.info? 32).bind (·.zero)).map (·.cells.toList) = some [(.bool false), (.slice none 0 0)] := by kernel_rfl
theorem Ih : Vz Try.prog 32 [0, 1] [(0, 1), (1, 1)] = true := by kernel_rfl
theorem Ca : (Try.prog.info? 32).any (·.size == 2) = true := by kernel_rfl
theorem Bt : Qi Try.prog 32 2 = true := by kernel_rfl
theorem Hv : slB Try.prog 22 79 1 = true := by kernel_rfl
theorem Abe : Try.prog.underlying 30 = some (.slice 79) := by kernel_rfl
theorem Vj : elP Try.prog 30 79 1 8 (.int .u64 0) := P8 Abe (by kernel_rfl) rfl (by decide)
theorem Abf : Try.prog.underlying 22 = some (.slice 79) := by kernel_rfl
theorem Aaf : elP Try.prog 22 79 1 8 (.int .u64 0) := P8 Abf (by kernel_rfl) rfl (by decide)
theorem Ep : Vi Try.prog 32 0 0 1 = true := by kernel_rfl
theorem C5 : K8 Try.prog 4 = true := by kernel_rfl
theorem Qo : Try.prog.underlying 4 = some .bool := by kernel_rfl
theorem Dl : Vi Try.prog 32 1 1 1 = true := by kernel_rfl
theorem Fl : K8 Try.prog 30 = true := by kernel_rfl
theorem At : ((Try.prog.info? 27).bind (·.zero)).map (·.cells.toList) = some [(.bool false), (.slice none 0 0)] := by kernel_rfl
theorem Bp : Vi Try.prog 27 1 1 1 = true := by kernel_rfl
theorem Ce : K8 Try.prog 25 = true := by kernel_rfl
theorem Cf : Vi Try.prog 27 0 0 1 = true := by kernel_rfl
theorem Dx : Vz Try.prog 27 [0, 1] [(0, 1), (1, 1)] = true := by kernel_rfl
theorem Au : (Try.prog.info? 27).any (·.size == 2) = true := by kernel_rfl
theorem Aq : Qi Try.prog 27 2 = true := by kernel_rfl
theorem F1 : Vz Try.prog 27 [1] [(1, 1)] = true := by kernel_rfl
theorem Yn : ((Try.prog.info? 114).bind (·.zero)).map (·.cells.toList) = some [.nilFunc, .nilFunc, .nilFunc, .nilFunc, .nilFunc] := by kernel_rfl
theorem Abo : (Try.prog.info? 114).any (·.size == 5) = true := by kernel_rfl
theorem Adm : Qi Try.prog 114 5 = true := by kernel_rfl
theorem Lq : Try.prog.underlying 114 = some (.array 5 113) := by kernel_rfl
theorem Pq : K8 Try.prog 113 = true := by kernel_rfl
theorem Xc : (Try.prog.info? 79).map (·.size) = some 1 := by kernel_rfl
theorem Gu : Vz Try.prog 27 [] [] = true := by kernel_rfl
end Go.Proofs.Ythbbbopbglbagaa.Vc
