/- The calculus, fourth part: light operations that look at types and memory. -/
import Derived.Test.YtcdipmjgpimmdaaVcC
set_option linter.unusedVariables false
set_option linter.unusedSimpArgs false
namespace Go.Proofs.Ytcdipmjgpimmdaa.Vc
open Go Go.RowKit

/-- A type whose values take one cell and are no struct, no array. -/
def oneB (P : Program) (T : TypeId) : Bool :=
  (match P.underlying T with | some (.struct _) | some (.array _ _) | none => false | _ => true) && (P.info? T).any (·.size == 1)
/-- A struct or an array of n cells. -/
def aggB (P : Program) (T : TypeId) (n : Nat) : Bool :=
  (match P.underlying T with | some (.struct _) | some (.array _ _) => true | _ => false) && (P.info? T).any (·.size == n)
/-- A struct's field: where it lies, how many cells. -/
def fldB (P : Program) (S : TypeId) (f off n : Nat) : Bool :=
  match P.underlying S with
  | some (.struct fs) => (fs[f]?).any fun fd => fd.offset == off && (P.info? fd.type).any (·.size == n) && n != 0
  | _ => false
/-- A slice type, the cells of an element. -/
def slB (P : Program) (T E : TypeId) (n : Nat) : Bool :=
  (match P.underlying T with | some (.slice e) => e == E | _ => false) && (P.info? E).any (·.size == n)
def arB (P : Program) (T E : TypeId) (len n : Nat) : Bool :=
  (match P.underlying T with | some (.array l e) => e == E && l == len | _ => false) && (P.info? E).any (·.size == n)

section
variable {P : Program} {Γ : Ctx} {F : Fr} {H : List Ob} {Q : Exit → Fr → List Ob → Prop}

theorem run_sizeOf' {T n : Nat} (h : (P.info? T).any (·.size == n) = true) (w : World) : (sizeOf T).run P w = .ok n w := by
  cases hi : P.info? T with
  | none => rw [hi] at h; cases h
  | some i => rw [hi] at h; simp at h; simp [sizeOf, typeInfo, hi, h]
theorem oneB_isAgg {T : TypeId} (h : oneB P T = true) (w : World) : (isAgg T).run P w = .ok false w := by
  unfold oneB at h
  cases hu : P.underlying T with
  | none => rw [hu] at h; cases h
  | some D => rw [hu] at h; cases D <;> first | (simp at h; done) | simp [isAgg, run_underlying hu]
theorem aggB_isAgg {T n : Nat} (h : aggB P T n = true) (w : World) : (isAgg T).run P w = .ok true w := by
  unfold aggB at h
  cases hu : P.underlying T with
  | none => rw [hu] at h; cases h
  | some D => rw [hu] at h; cases D <;> first | (simp at h; done) | simp [isAgg, run_underlying hu]
theorem oneB_size {T : TypeId} (h : oneB P T = true) : (P.info? T).any (·.size == 1) = true := by unfold oneB at h; simp only [Bool.and_eq_true] at h; exact h.2
theorem aggB_size {T n : Nat} (h : aggB P T n = true) : (P.info? T).any (·.size == n) = true := by unfold aggB at h; simp only [Bool.and_eq_true] at h; exact h.2
theorem slB_size {T E n : Nat} (h : slB P T E n = true) : (P.info? E).any (·.size == n) = true := by unfold slB at h; simp only [Bool.and_eq_true] at h; exact h.2
theorem slB_und {T E n : Nat} (h : slB P T E n = true) : P.underlying T = some (.slice E) := by
  unfold slB at h
  cases hu : P.underlying T with
  | none => rw [hu] at h; simp at h
  | some D => rw [hu] at h; cases D <;> simp at h; rw [h.1]
theorem arB_size {T E l n : Nat} (h : arB P T E l n = true) : (P.info? E).any (·.size == n) = true := by unfold arB at h; simp only [Bool.and_eq_true] at h; exact h.2
theorem arB_und {T E l n : Nat} (h : arB P T E l n = true) : P.underlying T = some (.array l E) := by
  unfold arB at h
  cases hu : P.underlying T with
  | none => rw [hu] at h; simp at h
  | some D => rw [hu] at h; cases D <;> simp at h; rw [h.1.1, h.1.2]
theorem fldB_spec {S f off n : Nat} (h : fldB P S f off n = true) : ∃ fs fd, P.underlying S = some (.struct fs) ∧ fs[f]? = some fd ∧ fd.offset = off ∧ (P.info? fd.type).any (·.size == n) = true ∧ n ≠ 0 := by
  unfold fldB at h
  cases hu : P.underlying S with
  | none => rw [hu] at h; cases h
  | some D =>
    rw [hu] at h
    cases D <;> first | (simp at h; done) | skip
    rename_i fs
    simp only at h
    cases hf : fs[f]? with
    | none => rw [hf] at h; cases h
    | some fd =>
      rw [hf] at h
      simp only [Option.any_some, Bool.and_eq_true, beq_iff_eq, bne_iff_ne] at h
      exact ⟨fs, fd, rfl, hf, h.1.1, h.1.2, h.2⟩

/-! ### Own objects looked into -/
structure Own (Γ : Ctx) (ρ : List Re) (H : List Ob) (w : World) (id : Nat) (ob : Ob) (re : Re) : Prop where
  at_ : ρ[id]? = some re
  ok : ObOk w (Lset Γ.M ρ H) Γ.w0.heap.size ρ re ob
theorem StA.own {ρ : List Re} {a : Act} {w : World} (s : StA Γ ρ F H a w) {id : Nat} {ob : Ob} (h : H[id]? = some ob) (hl : ob.live = true) : ∃ re, Own Γ ρ H w id ob re := by
  obtain ⟨re, h1, h2⟩ := s.hr.ob id ob h hl
  exact ⟨re, h1, h2⟩
theorem Own.cell {ρ : List Re} {w : World} {id : Nat} {ob : Ob} {re : Re} (o : Own Γ ρ H w id ob re) {g : Nat} (hg : re.g = some g) {j : Nat} {y : V} (hy : ob.cs[j]? = some y) :
    ∃ u, w.cell? ⟨g, j, none⟩ = some u ∧ u.oneCell' = true ∧ Rel w (Lset Γ.M ρ H) Γ.w0.heap.size ρ y u := by
  obtain ⟨cur, hc, _, _, _, hcs⟩ := o.ok.blk g hg
  obtain ⟨u, h1, h2, h3⟩ := hcs j y hy
  exact ⟨u, by simp [World.cell?, hc, h1], h2, h3⟩

theorem run_loadAt_one {T : TypeId} (hT : oneB P T = true) {ad : Addr} {u : Value} {w : World} (h : w.cell? ad = some u) : (Instr.loadAt T (.pointer (some ad))).run P w = .ok u w := by
  simp [Instr.loadAt, Instr.sureAddr, loadVar, oneB_isAgg hT, load, Sem.run, h]
theorem run_loadAt_agg {T : TypeId} {us : List Value} (hT : aggB P T us.length = true) {ad : Addr} {w : World} (h : ∀ j v, us[j]? = some v → w.cell? (ad.add j) = some v) : (Instr.loadAt T (.pointer (some ad))).run P w = .ok (.agg us.toArray) w := by
  simp [Instr.loadAt, Instr.sureAddr, loadVar, aggB_isAgg hT, run_sizeOf' (aggB_size hT), run_loadCells_list w ad us h]

theorem addr_add_plain (g o j : Nat) : (⟨g, o, none⟩ : Addr).add j = ⟨g, o + j, none⟩ := by unfold Addr.add; split <;> simp_all

/-- A load of one cell out of an own object. -/
theorem ly_ld {T : TypeId} {x : Operand} {id ver off : Nat} {t sz : Nat} {cs : List V} {y : V} (hT : oneB P T = true) (hx : ovO F x = some (.p id ver off)) (hH : H[id]? = some ⟨t, sz, ver, true, cs⟩) (hy : cs[off]? = some y) :
    LY P Γ (.load T x) F H y := fun ρ a w s => by
  obtain ⟨re, o⟩ := s.own hH rfl
  obtain ⟨re', e1, hle, hp⟩ := s.ov hx
  obtain rfl : re' = re := by have := e1.symm.trans o.at_; injection this
  obtain ⟨g, hg, hv⟩ := hp (o.ok.ver.symm)
  obtain ⟨u, hc, _, hr⟩ := o.cell hg hy
  refine ⟨u, hr, fun _ _ _ _ _ w' hw' => ?_⟩
  have e : (Instr.loadAt T (a.eval x)).run P w' = .ok u w' := by rw [hv]; exact run_loadAt_one hT (hw' _ _ hc)
  exact run_v e
/-- n cells from a place on. -/
def takeV : List V → Nat → Nat → List V
  | _, _, 0 => []
  | [], _, _ + 1 => []
  | c :: cs, 0, n + 1 => c :: takeV cs 0 n
  | _ :: cs, o + 1, n + 1 => takeV cs o (n + 1)
theorem takeV_eq : ∀ (cs : List V) (o n : Nat), takeV cs o n = (cs.drop o).take n
  | cs, o, 0 => by unfold takeV; simp
  | [], o, n + 1 => by simp [takeV]
  | c :: cs, 0, n + 1 => by simp [takeV, takeV_eq cs 0 n]
  | c :: cs, o + 1, n + 1 => by simp [takeV, takeV_eq cs o (n + 1)]
theorem own_cells {ρ : List Re} {w : World} {id : Nat} {ob : Ob} {re : Re} (o : Own Γ ρ H w id ob re) {g : Nat} (hg : re.g = some g) : ∀ (ys : List V) (off : Nat), (∀ j y, ys[j]? = some y → ob.cs[off + j]? = some y) →
    ∃ us : List Value, us.length = ys.length ∧ RelL w (Lset Γ.M ρ H) Γ.w0.heap.size ρ ys us ∧ (∀ u ∈ us, u.oneCell' = true) ∧ ∀ j v, us[j]? = some v → w.cell? ((⟨g, off, none⟩ : Addr).add j) = some v
  | [], off, _ => ⟨[], rfl, rfl, by simp, by simp⟩
  | y :: ys, off, h => by
    obtain ⟨u, hc, h1, hr⟩ := o.cell hg (h 0 y rfl)
    obtain ⟨us, hlen, hrs, hone, hcs⟩ := own_cells o hg ys (off + 1) (fun j z hz => by have := h (j + 1) z (by simpa using hz); rwa [show off + (j + 1) = off + 1 + j by omega] at this)
    refine ⟨u :: us, by simp [hlen], ⟨u, us, rfl, hr, hrs⟩, by simp [h1]; exact hone, fun j v hv => ?_⟩
    cases j with
    | zero => simp at hv; subst hv; rw [addr_add_plain]; exact hc
    | succ j =>
      have := hcs j v (by simpa using hv)
      rw [addr_add_plain] at this ⊢
      rwa [show off + (j + 1) = off + 1 + j by omega]
/-- A load of a struct or an array out of an own object. -/
theorem ly_lda {T n : Nat} {x : Operand} {id ver off : Nat} {t sz : Nat} {cs : List V} {ys : List V} (hT : aggB P T n = true) (hx : ovO F x = some (.p id ver off)) (hH : H[id]? = some ⟨t, sz, ver, true, cs⟩) (hy : takeV cs off n = ys) (hn : ys.length = n) :
    LY P Γ (.load T x) F H (.a ys) := fun ρ a w s => by
  obtain ⟨re, o⟩ := s.own hH rfl
  obtain ⟨re', e1, hle, hp⟩ := s.ov hx
  obtain rfl : re' = re := by have := e1.symm.trans o.at_; injection this
  obtain ⟨g, hg, hv⟩ := hp (o.ok.ver.symm)
  obtain ⟨us, hlen, hrs, _, hcs⟩ := own_cells o hg ys off (fun j y h => by
    rw [← hy, takeV_eq] at h
    rw [List.getElem?_take] at h
    split at h
    · rw [List.getElem?_drop] at h; exact h
    · cases h)
  refine ⟨_, ⟨us, rfl, hrs⟩, fun _ _ _ _ _ w' hw' => ?_⟩
  have e : (Instr.loadAt T (a.eval x)).run P w' = .ok (.agg us.toArray) w' := by rw [hv]; exact run_loadAt_agg (by rw [hlen, hn]; exact hT) (fun j v h => hw' _ _ (hcs j v h))
  exact run_v e
/-- What is read out of memory that nobody writes. -/
def old : V → V
  | .i k n => .i k n
  | .b x => .b x
  | .s x => .s x
  | .c v => .c v
  | .n _ k l => .n false k l
  | .l _ sz es => .l false sz es
  | .q es => .q es
  | .f fn [] => .f fn []
  | _ => .u
theorem rel_old {w : World} {L : Nat → Prop} {B : Nat} {ρ : List Re} : ∀ {y : V} {u : Value}, Rel w L 0 [] y u → Rel w L B ρ (old y) u
  | .i _ _, _, h => h
  | .b _, _, h => h
  | .s _, _, h => h
  | .c _, _, h => h
  | .n fr k l, u, ⟨A, c, e, h1, h2, h3⟩ => ⟨A, c, e, h1, h2, fun hl => by obtain ⟨ad, e1, hb, hc⟩ := h3 hl; exact ⟨ad, e1, ⟨hb.1, hb.2.1, by simp⟩, hc⟩⟩
  | .l fr sz es, u, ⟨A, c, e, h1, h2, h3⟩ => ⟨A, c, e, h1, h2, fun hl => by obtain ⟨ad, e1, hb, hc⟩ := h3 hl; exact ⟨ad, e1, ⟨hb.1, hb.2.1, by simp⟩, hc⟩⟩
  | .q es, u, ⟨ad, e, hb, hc⟩ => ⟨ad, e, ⟨hb.1, hb.2.1, by simp⟩, hc⟩
  | .f fn [], u, ⟨us, e, hr⟩ => ⟨us, e, hr⟩
  | .f fn (_ :: _), u, _ => trivial
  | .p _ _ _, _, _ => trivial
  | .o _ _ _ _, _, _ => trivial
  | .u, _, _ => trivial
  | .a _, _, _ => trivial
  | .t _, _, _ => trivial
/-- Loads from memory that nobody writes. -/
theorem ly_ldq {T : TypeId} {x : Operand} {y z : V} {ys : List V} (hT : oneB P T = true) (hx : ovO F x = some (.q (y :: ys))) (hz : old y = z) : LY P Γ (.load T x) F H z := fun ρ a w s => by
  obtain ⟨ad, hv, _, ⟨u, hc, hr⟩, _⟩ := s.ov hx
  refine ⟨u, hz ▸ rel_old hr, fun _ _ _ _ _ w' hw' => ?_⟩
  have e : (Instr.loadAt T (a.eval x)).run P w' = .ok u w' := by rw [hv]; exact run_loadAt_one hT (hw' _ _ (by simpa [Addr.add] using hc))
  exact run_v e
theorem relC_take {w : World} {L : Nat → Prop} {B : Nat} {ρ : List Re} {ad : Addr} : ∀ (ys : List V) (k : Nat), RelC w L 0 [] ad k ys → ∃ us : List Value, us.length = ys.length ∧ RelL w L B ρ (ys.map old) us ∧ ∀ j v, us[j]? = some v → w.cell? (ad.add (k + j)) = some v
  | [], k, _ => ⟨[], rfl, rfl, by simp⟩
  | y :: ys, k, ⟨⟨u, hc, hr⟩, h⟩ => by
    obtain ⟨us, hlen, hrs, hcs⟩ := relC_take ys (k + 1) h
    refine ⟨u :: us, by simp [hlen], ⟨u, us, rfl, rel_old hr, hrs⟩, fun j v hv => ?_⟩
    cases j with
    | zero => simp at hv; subst hv; exact hc
    | succ j => have := hcs j v (by simpa using hv); rwa [show k + (j + 1) = k + 1 + j by omega]
theorem ly_ldqa {T n : Nat} {x : Operand} {ys zs : List V} (hT : aggB P T n = true) (hx : ovO F x = some (.q ys)) (hn : ys.length = n) (hz : ys.map old = zs) : LY P Γ (.load T x) F H (.a zs) := fun ρ a w s => by
  obtain ⟨ad, hv, _, hc⟩ := s.ov hx
  obtain ⟨us, hlen, hrs, hcs⟩ := relC_take ys 0 hc
  refine ⟨_, ⟨us, rfl, hz ▸ hrs⟩, fun _ _ _ _ _ w' hw' => ?_⟩
  have e : (Instr.loadAt T (a.eval x)).run P w' = .ok (.agg us.toArray) w' := by rw [hv]; exact run_loadAt_agg (by rw [hlen, hn]; exact hT) (fun j v h => hw' _ _ (by have := hcs j v h; rwa [Nat.zero_add] at this))
  exact run_v e

/-! ### Addresses -/
theorem run_fieldAt {S f off n : Nat} (h : fldB P S f off n = true) (ad : Addr) (w : World) : (Instr.fieldAt S (.pointer (some ad)) f).run P w = .ok (.pointer (some (ad.add off))) w := by
  obtain ⟨fs, fd, hu, hf, ho, hs, hn⟩ := fldB_spec h
  simp [Instr.fieldAt, run_underlying hu, hf, Instr.sureAddr, fieldPlace, run_sizeOf' hs, hn, ho]
/-- A pointer into, a slice of an own object that is alive. -/
theorem StA.ptr {ρ : List Re} {a : Act} {w : World} (s : StA Γ ρ F H a w) {x : Operand} {id ver off : Nat} {t sz : Nat} {cs : List V} (hx : ovO F x = some (.p id ver off)) (hH : H[id]? = some ⟨t, sz, ver, true, cs⟩) :
    ∃ re g, Own Γ ρ H w id ⟨t, sz, ver, true, cs⟩ re ∧ re.g = some g ∧ a.eval x = .pointer (some ⟨g, off, none⟩) := by
  obtain ⟨re, o⟩ := s.own hH rfl
  obtain ⟨re', e1, hle, hp⟩ := s.ov hx
  obtain rfl : re' = re := by have := e1.symm.trans o.at_; injection this
  obtain ⟨g, hg, hv⟩ := hp (o.ok.ver.symm)
  exact ⟨re', g, o, hg, hv⟩
theorem Own.p {ρ : List Re} {w : World} {id : Nat} {ob : Ob} {re : Re} (o : Own Γ ρ H w id ob re) {g : Nat} (hg : re.g = some g) (off : Nat) :
    Rel w (Lset Γ.M ρ H) Γ.w0.heap.size ρ (.p id ob.ver off) (.pointer (some ⟨g, off, none⟩)) := ⟨re, o.at_, by rw [o.ok.ver]; exact Nat.le_refl _, fun _ => ⟨g, hg, rfl⟩⟩
theorem ly_fa {S f off n : Nat} {x : Operand} {id ver o : Nat} {t sz : Nat} {cs : List V} {r : Nat} (hS : fldB P S f off n = true) (hx : ovO F x = some (.p id ver o)) (hH : H[id]? = some ⟨t, sz, ver, true, cs⟩) (hr : o + off = r) :
    LY P Γ (.fieldAddr S x f) F H (.p id ver r) := fun ρ a w s => by
  obtain ⟨re, g, ow, hg, hv⟩ := s.ptr hx hH
  refine ⟨.pointer (some ⟨g, r, none⟩), ow.p hg r, fun _ _ _ _ _ w' _ => ?_⟩
  have e : (Instr.fieldAt S (a.eval x) f).run P w' = .ok (.pointer (some ⟨g, r, none⟩)) w' := by rw [hv, run_fieldAt hS, addr_add_plain, hr]
  exact run_v e
theorem relC_drop {w : World} {L : Nat → Prop} {B : Nat} {ρ : List Re} {ad : Addr} (off : Nat) : ∀ (ys : List V) (k : Nat), RelC w L B ρ (ad.add off) k ys ↔ RelC w L B ρ ad (off + k) ys
  | [], k => Iff.rfl
  | y :: ys, k => by
    have e : (ad.add off).add k = ad.add (off + k) := by
      unfold Addr.add
      (repeat' split) <;> simp_all <;> omega
    show (∃ u, w.cell? ((ad.add off).add k) = some u ∧ _) ∧ RelC w L B ρ (ad.add off) (k + 1) ys ↔ (∃ u, w.cell? (ad.add (off + k)) = some u ∧ _) ∧ RelC w L B ρ ad (off + k + 1) ys
    rw [e, relC_drop off ys (k + 1)]
    exact Iff.rfl
theorem relC_of_drop {w : World} {L : Nat → Prop} {B : Nat} {ρ : List Re} {ad : Addr} : ∀ (off : Nat) (ys : List V) (k : Nat), RelC w L B ρ ad k ys → RelC w L B ρ ad (k + off) (ys.drop off)
  | 0, ys, k, h => h
  | off + 1, [], k, h => trivial
  | off + 1, y :: ys, k, h => by
    have := relC_of_drop off ys (k + 1) h.2
    rwa [show k + 1 + off = k + (off + 1) by omega] at this
theorem ly_faq {S f off n : Nat} {x : Operand} {ys zs : List V} (hS : fldB P S f off n = true) (hx : ovO F x = some (.q ys)) (hz : ys.drop off = zs) : LY P Γ (.fieldAddr S x f) F H (.q zs) := fun ρ a w s => by
  obtain ⟨ad, hv, hb, hc⟩ := s.ov hx
  refine ⟨.pointer (some (ad.add off)), ⟨ad.add off, rfl, by rw [block_add]; exact hb, ?_⟩, fun _ _ _ _ _ w' _ => ?_⟩
  · rw [relC_drop, ← hz]; have := relC_of_drop off ys 0 hc; rwa [Nat.zero_add] at this
  · have e : (Instr.fieldAt S (a.eval x) f).run P w' = .ok (.pointer (some (ad.add off))) w' := by rw [hv, run_fieldAt hS]
    exact run_v e
theorem ly_nilp {x : Operand} {id ver off : Nat} {t sz : Nat} {cs : List V} (hx : ovO F x = some (.p id ver off)) (hH : H[id]? = some ⟨t, sz, ver, true, cs⟩) : LY P Γ (.nilCheck x) F H (.p id ver off) := fun ρ a w s => by
  obtain ⟨re, g, ow, hg, hv⟩ := s.ptr hx hH
  exact ⟨_, ow.p hg off, fun _ _ _ _ _ w' _ => by simp only [execOp, hv]; rfl⟩
theorem ly_nilq {x : Operand} {ys : List V} (hx : ovO F x = some (.q ys)) : LY P Γ (.nilCheck x) F H (.q ys) := fun ρ a w s => by
  have h := s.ov hx
  obtain ⟨ad, hv, hb, hc⟩ := h
  exact ⟨_, ⟨ad, rfl, hb, hc⟩, fun _ _ _ _ _ w' _ => by simp only [execOp, hv]; rfl⟩

theorem run_indexAt_sl {T E sz : Nat} (hT : slB P T E sz = true) {ad : Addr} {len cap : Nat} {k : IntKind} {n : Int} (h0 : 0 ≤ n) (h1 : n < len) (w : World) :
    (Instr.indexAt T (.slice (some ad) len cap) (.int k n)).run P w = .ok (.pointer (some (ad.add (n.toNat * sz)))) w := by
  simp [Instr.indexAt, run_underlying (slB_und hT), asIntOf, run_sizeOf' (slB_size hT), h0, h1]
/-- The address of an element of an own object. -/
theorem ly_ia {T E sz : Nat} {x ix : Operand} {id ver off len : Nat} {t : Nat} {cs : List V} {k : IntKind} {n : Int} {i r : Nat} (hT : slB P T E sz = true) (hx : ovO F x = some (.o id ver off len)) (hH : H[id]? = some ⟨t, sz, ver, true, cs⟩) (hi : ovO F ix = some (.i k n)) (hn : n = (i : Int))
    (h1 : i < len) (hr : (off + i) * sz = r) : LY P Γ (.indexAddr T x ix) F H (.p id ver r) := fun ρ a w s => by
  obtain ⟨re, o⟩ := s.own hH rfl
  obtain ⟨re', e1, hle, hp⟩ := s.ov hx
  obtain rfl : re' = re := by have := e1.symm.trans o.at_; injection this
  obtain ⟨hcap, ⟨g, ad, hg, hv, had⟩ | ⟨_, _, _, h⟩⟩ := hp (o.ok.ver.symm)
  · have hsz : re'.sz = sz := o.ok.sz
    refine ⟨.pointer (some ⟨g, r, none⟩), o.p hg r, fun _ _ _ _ _ w' _ => ?_⟩
    have e : (Instr.indexAt T (a.eval x) (a.eval ix)).run P w' = .ok (.pointer (some ⟨g, r, none⟩)) w' := by
      rw [hv, eval_i s hi, hn, run_indexAt_sl hT (by omega) (by omega), had (by omega), addr_add_plain, hsz]
      congr 4
      rw [← hr, Nat.add_mul]; simp
    exact run_v e
  · omega
theorem ly_ia1 {T E : Nat} {x ix : Operand} {id ver len : Nat} {t : Nat} {cs : List V} {k : IntKind} {i : Nat} (hT : slB P T E 1 = true) (hx : ovO F x = some (.o id ver 0 len)) (hH : H[id]? = some ⟨t, 1, ver, true, cs⟩) (hi : ovO F ix = some (.i k (i : Int)))
    (h1 : i < len) : LY P Γ (.indexAddr T x ix) F H (.p id ver i) := ly_ia hT hx hH hi rfl h1 (by simp)
/-- The address of an element of a slice of whole numbers that nobody writes. -/
theorem ly_ian {T E : Nat} {x ix : Operand} {fr : Bool} {kk : IntKind} {l : List Int} {k : IntKind} {n : Int} {i : Nat} (hT : slB P T E 1 = true) (hx : ovO F x = some (.n fr kk l)) (hi : ovO F ix = some (.i k n)) (hn : n = (i : Int))
    (h1 : i < l.length) : LY P Γ (.indexAddr T x ix) F H (.q [.i kk (l.getD i 0)]) := fun ρ a w s => by
  obtain ⟨A, c, hv, _, _, h3⟩ := s.ov hx
  obtain ⟨ad, rfl, hb, hc⟩ := h3 (by intro e; rw [e] at h1; simp at h1)
  refine ⟨.pointer (some (ad.add i)), ⟨ad.add i, rfl, by rw [block_add]; exact ⟨hb.1, hb.2.1, by simp⟩, ⟨_, ?_, rfl⟩, trivial⟩, fun _ _ _ _ _ w' _ => ?_⟩
  · have e : (ad.add i).add 0 = ad.add i := by simp [Addr.add]
    rw [e]
    exact hc i _ (by rw [List.getD_eq_getElem?_getD, List.getElem?_eq_getElem h1]; rfl)
  · have e : (Instr.indexAt T (a.eval x) (a.eval ix)).run P w' = .ok (.pointer (some (ad.add i))) w' := by
      rw [hv, eval_i s hi, hn, run_indexAt_sl hT (by omega) (by omega)]; simp
    exact run_v e
theorem relR_at {w : World} {L : Nat → Prop} {B : Nat} {ρ : List Re} {sz : Nat} {ad : Addr} : ∀ (es : List (List V)) (k i : Nat) (r : List V), RelR w L B ρ sz ad k es → es[i]? = some r → r.length = sz ∧ RelC w L B ρ ad (k + i * sz) r
  | [], _, i, r, _, h => by simp at h
  | e :: es, k, 0, r, h, hr => by simp at hr; subst hr; exact ⟨h.1, by simpa using h.2.1⟩
  | e :: es, k, i + 1, r, h, hr => by
    have := relR_at es (k + sz) i r h.2.2 (by simpa using hr)
    rwa [show k + sz + i * sz = k + (i + 1) * sz by rw [Nat.add_mul]; omega] at this
/-- The address of a row of a slice that nobody writes. -/
theorem ly_ial {T E sz : Nat} {x ix : Operand} {fr : Bool} {es : List (List V)} {row : List V} {k : IntKind} {n : Int} {i : Nat} (hT : slB P T E sz = true) (hx : ovO F x = some (.l fr sz es)) (hi : ovO F ix = some (.i k n)) (hn : n = (i : Int))
    (h1 : es[i]? = some row) : LY P Γ (.indexAddr T x ix) F H (.q row) := fun ρ a w s => by
  obtain ⟨A, c, hv, _, _, h3⟩ := s.ov hx
  have hlt : i < es.length := (List.getElem?_eq_some_iff.1 h1).1
  obtain ⟨ad, rfl, hb, hc⟩ := h3 (by intro e; rw [e] at hlt; simp at hlt)
  obtain ⟨_, hc'⟩ := relR_at es 0 i row hc h1
  refine ⟨.pointer (some (ad.add (i * sz))), ⟨ad.add (i * sz), rfl, by rw [block_add]; exact ⟨hb.1, hb.2.1, by simp⟩, ?_⟩, fun _ _ _ _ _ w' _ => ?_⟩
  · rw [relC_drop]; simpa using hc'
  · have e : (Instr.indexAt T (a.eval x) (a.eval ix)).run P w' = .ok (.pointer (some (ad.add (i * sz)))) w' := by
      rw [hv, eval_i s hi, hn, run_indexAt_sl hT (by omega) (by omega)]; simp
    exact run_v e
/-- The address of an element of an own array. -/
theorem ly_iar {T E l sz : Nat} {x ix : Operand} {id ver o : Nat} {t sz' : Nat} {cs : List V} {k : IntKind} {n : Int} {i r : Nat} (hT : arB P T E l sz = true) (hx : ovO F x = some (.p id ver o)) (hH : H[id]? = some ⟨t, sz', ver, true, cs⟩) (hi : ovO F ix = some (.i k n)) (hn : n = (i : Int))
    (h1 : i < l) (hr : o + i * sz = r) : LY P Γ (.indexAddr T x ix) F H (.p id ver r) := fun ρ a w s => by
  obtain ⟨re, g, ow, hg, hv⟩ := s.ptr hx hH
  refine ⟨.pointer (some ⟨g, r, none⟩), ow.p hg r, fun _ _ _ _ _ w' _ => ?_⟩
  have e : (Instr.indexAt T (a.eval x) (a.eval ix)).run P w' = .ok (.pointer (some ⟨g, r, none⟩)) w' := by
    rw [hv, eval_i s hi, hn]
    simp [Instr.indexAt, run_underlying (arB_und hT), asIntOf, run_sizeOf' (arB_size hT), Instr.sureAddr, h1, addr_add_plain, hr]
  exact run_v e

/-! ### Lengths, texts, parts -/
def byteAt (s : ByteArray) (i : Nat) : Int := if h : i < s.size then ((s[i]'h).toNat : Int) else 0
theorem byteAt_range (s : ByteArray) (i : Nat) : 0 ≤ byteAt s i ∧ byteAt s i < 256 := by
  unfold byteAt
  split
  · have := (s[i]).toNat_lt; omega
  · omega
theorem ly_ixs {T : TypeId} {x ix : Operand} {b : ByteArray} {k : IntKind} {n : Int} {i : Nat} (hT : P.underlying T = some .string) (hx : ovO F x = some (.s b)) (hi : ovO F ix = some (.i k n)) (hn : n = (i : Int)) (h1 : i < b.size) :
    LY P Γ (.index T x ix) F H (.i .u8 (byteAt b i)) := fun ρ a w s =>
  ⟨.int .u8 (byteAt b i), rfl, fun _ _ _ _ _ w' _ => by
    have e : (Instr.index T (a.eval x) (a.eval ix)).run P w' = .ok (.int .u8 (byteAt b i)) w' := by
      rw [eval_s s hx, eval_i s hi, hn]
      have h2 : b[i]? = some b[i] := by simp [getElem?_pos, h1]
      simp [Instr.index, asIntOf, run_underlying hT, h2, byteAt, h1]
    exact run_v e⟩
theorem run_builtin {b : Builtin} {args : Array Operand} {ts : Array TypeId} {T : TypeId} {a : Act} {vs : List Value} {w w' : World} {v : Value} (hargs : args.map a.eval = vs.toArray) (f : Array TypeId → TypeId → Array Value → Sem Value)
    (hb : ∀ cs as, builtin b ts T cs as = (do pure (.value (← f ts T as)) : Sem Next)) (h : (f ts T vs.toArray).run P w = .ok v w') (dst : Option Tmp) (ps : String) (af : Array Edge) (g : Option (Nat × Bool)) :
    (execOp a.eval ⟨dst, .call { callee := .builtin b, args := args, argTypes := ts }, T, ps, af, g⟩).run P w = .ok (.value v) w' := by
  simp only [execOp, resolve, hargs, Sem.run_bind, Sem.run_pure, Result.andThen_ok, invoke, hb]
  rw [h]; rfl
/-- len. -/
theorem ly_len {x : Operand} {T : TypeId} {y : V} {m : Nat} (hx : ovO F x = some y) (hl : ∀ w L B ρ v, Rel w L B ρ y v → ∀ w' U, (Builtin.len_ #[T] U #[v]).run P w' = .ok (.int .i64 m) w') :
    LY P Γ (.call { callee := .builtin .len, args := #[x], argTypes := #[T] }) F H (.i .i64 m) := fun ρ a w s =>
  ⟨.int .i64 m, rfl, fun _ U _ _ _ w' _ => run_builtin (vs := [a.eval x]) (by simp) (fun ts t as => Builtin.len_ ts t as) (fun _ _ => rfl) (hl _ _ _ _ _ (s.ov hx) w' U) _ _ _ _⟩
theorem ly_lens {x : Operand} {T : TypeId} {b : ByteArray} (hT : P.underlying T = some .string) (hx : ovO F x = some (.s b)) : LY P Γ (.call { callee := .builtin .len, args := #[x], argTypes := #[T] }) F H (.i .i64 b.size) :=
  ly_len hx fun w L B ρ v r w' U => by rw [show v = .string b from r]; simp [Builtin.len_, run_underlying hT, goInt]
theorem ly_lenn {x : Operand} {T E sz : Nat} {fr : Bool} {k : IntKind} {l : List Int} (hT : slB P T E sz = true) (hx : ovO F x = some (.n fr k l)) : LY P Γ (.call { callee := .builtin .len, args := #[x], argTypes := #[T] }) F H (.i .i64 l.length) :=
  ly_len hx fun w L B ρ v r w' U => by obtain ⟨A, c, rfl, _⟩ := r; simp [Builtin.len_, run_underlying (slB_und hT), goInt]
theorem ly_lenl {x : Operand} {T E sz : Nat} {fr : Bool} {z : Nat} {es : List (List V)} (hT : slB P T E sz = true) (hx : ovO F x = some (.l fr z es)) : LY P Γ (.call { callee := .builtin .len, args := #[x], argTypes := #[T] }) F H (.i .i64 es.length) :=
  ly_len hx fun w L B ρ v r w' U => by obtain ⟨A, c, rfl, _⟩ := r; simp [Builtin.len_, run_underlying (slB_und hT), goInt]
theorem ly_lenc {x : Operand} {T E sz : Nat} {A : Option Addr} {m c : Nat} (hT : slB P T E sz = true) (hx : ovO F x = some (.c (.slice A m c))) : LY P Γ (.call { callee := .builtin .len, args := #[x], argTypes := #[T] }) F H (.i .i64 m) :=
  ly_len hx fun w L B ρ v r w' U => by rw [show v = .slice A m c from r]; simp [Builtin.len_, run_underlying (slB_und hT), goInt]
theorem ly_leno {x : Operand} {T E sz : Nat} {id ver off len : Nat} {t z : Nat} {cs : List V} (hT : slB P T E sz = true) (hx : ovO F x = some (.o id ver off len)) (hH : H[id]? = some ⟨t, z, ver, true, cs⟩) : LY P Γ (.call { callee := .builtin .len, args := #[x], argTypes := #[T] }) F H (.i .i64 len) := fun ρ a w s => by
  obtain ⟨re, o⟩ := s.own hH rfl
  obtain ⟨re', e1, hle, hp⟩ := s.ov hx
  obtain rfl : re' = re := by have := e1.symm.trans o.at_; injection this
  obtain ⟨hcap, hq⟩ := hp (o.ok.ver.symm)
  have hv : ∃ A c, a.eval x = .slice A len c := by
    rcases hq with ⟨g, ad, _, hv, _⟩ | ⟨_, hv, _, h⟩
    · exact ⟨_, _, hv⟩
    · exact ⟨none, 0, by rw [hv, h]⟩
  obtain ⟨A, c, hv⟩ := hv
  exact ⟨.int .i64 len, rfl, fun _ U _ _ _ w' _ => run_builtin (vs := [a.eval x]) (by simp) (fun ts t as => Builtin.len_ ts t as) (fun _ _ => rfl) (by rw [hv]; simp [Builtin.len_, run_underlying (slB_und hT), goInt]) _ _ _ _⟩
theorem relL_at {w : World} {L : Nat → Prop} {B : Nat} {ρ : List Re} : ∀ (ys : List V) (us : List Value) (i : Nat) (y : V), RelL w L B ρ ys us → ys[i]? = some y → ∃ u, us[i]? = some u ∧ Rel w L B ρ y u
  | [], _, i, y, _, h => by simp at h
  | z :: ys, us, 0, y, ⟨u, us', e, h1, h2⟩, hy => by simp at hy; subst hy; exact ⟨u, by simp [e], h1⟩
  | z :: ys, us, i + 1, y, ⟨u, us', e, h1, h2⟩, hy => by
    obtain ⟨u', e', h'⟩ := relL_at ys us' i y h2 (by simpa using hy)
    exact ⟨u', by simp [e, e'], h'⟩
theorem ly_ext {x : Operand} {vs : List V} {i : Nat} {y : V} (hx : ovO F x = some (.t vs)) (hy : vs[i]? = some y) : LY P Γ (.extract x i) F H y := fun ρ a w s => by
  obtain ⟨us, hv, hr⟩ := s.ov hx
  obtain ⟨u, hu, hr'⟩ := relL_at vs us i y hr hy
  refine ⟨u, hr', fun _ _ _ _ _ w' _ => ?_⟩
  have e : (Instr.extract (a.eval x) i).run P w' = .ok u w' := by rw [hv]; simp [Instr.extract, hu]
  exact run_v e
end
end Go.Proofs.Ytcdipmjgpimmdaa.Vc
