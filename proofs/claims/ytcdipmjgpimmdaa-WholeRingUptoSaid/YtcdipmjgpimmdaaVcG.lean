/- The calculus, seventh part: slicing, freezing, contracts without own objects, calls, returns. -/
import Derived.Test.YtcdipmjgpimmdaaVcF
set_option linter.unusedVariables false
set_option linter.unusedSimpArgs false
namespace Go.Proofs.Ytcdipmjgpimmdaa.Vc
open Go Go.RowKit

section
variable {P : Program} {Γ : Ctx} {F : Fr} {H : List Ob} {Q : Exit → Fr → List Ob → Prop}

/-! ### Slicing -/
/-- A slice's bounds: none or a whole number. -/
def bnd (F : Fr) (dflt : Nat) : Option Operand → Nat → Prop
  | none, n => n = dflt
  | some x, n => ∃ k z, ovO F x = some (.i k z) ∧ z = (n : Int)
theorem bnd_none {d : Nat} : bnd F d none d := rfl
theorem bnd_some {d : Nat} {x : Operand} {k : IntKind} {n : Nat} (h : ovO F x = some (.i k (n : Int))) : bnd F d (some x) n := ⟨k, _, h, rfl⟩
theorem bnd_some' {d : Nat} {x : Operand} {k : IntKind} {z : Int} {n : Nat} (h : ovO F x = some (.i k z)) (hz : z = (n : Int)) : bnd F d (some x) n := ⟨k, z, h, hz⟩
theorem run_bounds {ρ : List Re} {a : Act} {w : World} (s : StA Γ ρ F H a w) {isSlice : Bool} {len cap : Nat} {lo hi mx : Option Operand} {l h m : Nat} (hl : bnd F 0 lo l) (hh : bnd F len hi h) (hm : bnd F cap mx m) (hmh : mx.isSome = true → hi.isSome = true)
    (h1 : l ≤ h) (h2 : h ≤ m) (h3 : m ≤ cap) (w' : World) : (Instr.sliceBounds isSlice len cap (lo.map a.eval) (hi.map a.eval) (mx.map a.eval)).run P w' = .ok (l, h, m) w' := by
  have ev : ∀ {x : Operand} {k z} {n : Nat}, ovO F x = some (.i k z) → z = (n : Int) → a.eval x = .int k (n : Int) := fun hx hz => by rw [eval_i s hx, hz]
  have e1 : ∀ (k : IntKind) (y n : Nat) (c : BoundsCode), n ≤ y → (Instr.sliceBound (.int k (n : Int)) y c).run P w' = .ok n w' := fun k y n c hle => by
    rw [run_sliceBound w' k n y c (by omega) (by omega)]; simp
  cases mx with
  | none =>
    have hm' : m = cap := hm
    subst hm'
    cases hi with
    | none =>
      have hh' : h = len := hh
      subst hh'
      cases lo with
      | none => have hl' : l = 0 := hl; subst hl'; simp [Instr.sliceBounds]
      | some x => obtain ⟨k, z, hx, hz⟩ := hl; simp [Instr.sliceBounds, ev hx hz, e1 _ _ _ _ h1]
    | some y =>
      obtain ⟨k', z', hy, hz'⟩ := hh
      cases lo with
      | none => have hl' : l = 0 := hl; subst hl'; simp [Instr.sliceBounds, ev hy hz', e1 _ _ _ _ h2]
      | some x => obtain ⟨k, z, hx, hz⟩ := hl; simp [Instr.sliceBounds, ev hx hz, ev hy hz', e1 _ _ _ _ h1, e1 _ _ _ _ h2]
  | some x' =>
    obtain ⟨k'', z'', hx', hz''⟩ := hm
    cases hi with
    | none => simp at hmh
    | some y =>
      obtain ⟨k', z', hy, hz'⟩ := hh
      cases lo with
      | none => have hl' : l = 0 := hl; subst hl'; simp [Instr.sliceBounds, ev hy hz', ev hx' hz'', e1 _ _ _ _ h2, e1 _ _ _ _ h3]
      | some x => obtain ⟨k, z, hx, hz⟩ := hl; simp [Instr.sliceBounds, ev hx hz, ev hy hz', ev hx' hz'', e1 _ _ _ _ h1, e1 _ _ _ _ h2, e1 _ _ _ _ h3]
/-- A slice of a slice of whole numbers that nobody writes. -/
theorem ly_sln {T E : Nat} {x : Operand} {lo hi mx : Option Operand} {fr : Bool} {k : IntKind} {ls : List Int} {l h : Nat} (hT : slB P T E 1 = true) (hx : ovO F x = some (.n fr k ls)) (hl : bnd F 0 lo l) (hh : bnd F ls.length hi h)
    (hm : mx = none ∨ ∃ m, (bnd F ls.length mx m ∧ h ≤ m ∧ m ≤ ls.length ∧ hi.isSome = true)) (h1 : l ≤ h) (h2 : h ≤ ls.length) : LY P Γ (.slice T x lo hi mx) F H (.n fr k ((ls.take h).drop l)) := fun ρ a w s => by
  obtain ⟨A, c, hv, hle, hcm, h3⟩ := s.ov hx
  -- the place where the capacity ends
  obtain ⟨m, hm1, hm2, hm3, hm4⟩ : ∃ m, bnd F c mx m ∧ h ≤ m ∧ m ≤ c ∧ (mx.isSome = true → hi.isSome = true) := by
    rcases hm with rfl | ⟨m, g1, g2, g3, g4⟩
    · exact ⟨c, rfl, by omega, Nat.le_refl _, by simp⟩
    · cases mx with
      | none => exact ⟨c, rfl, by omega, Nat.le_refl _, by simp⟩
      | some y => exact ⟨m, g1, g2, by omega, fun _ => g4⟩
  have hlen : ((ls.take h).drop l).length = h - l := by simp; omega
  refine ⟨.slice (if m = l then A else A.map (·.add (l * 1))) (h - l) (m - l), ⟨_, m - l, by rw [hlen], by rw [hlen]; omega, by omega, fun hne => ?_⟩, fun _ _ _ _ _ w' _ => ?_⟩
  · have hlt : l < h := by
      rcases Nat.lt_or_ge l h with g | g
      · exact g
      · exact absurd (List.eq_nil_of_length_eq_zero (by rw [hlen]; omega)) hne
    obtain ⟨ad, rfl, hb, hc⟩ := h3 (by intro e; rw [e] at h2; simp at h2; omega)
    rw [if_neg (by omega)]
    refine ⟨ad.add (l * 1), rfl, by rw [block_add]; exact hb, fun j y hy => ?_⟩
    have e : (ad.add (l * 1)).add j = ad.add (l + j) := by
      unfold Addr.add
      (repeat' split) <;> simp_all <;> omega
    rw [e]
    refine hc _ y ?_
    rw [List.getElem?_drop, List.getElem?_take] at hy
    split at hy
    · exact hy
    · cases hy
  · have e : (Instr.sliceAt T (a.eval x) (lo.map a.eval) (hi.map a.eval) (mx.map a.eval)).run P w' = .ok (.slice (if m = l then A else A.map (·.add (l * 1))) (h - l) (m - l)) w' := by
      rw [hv]
      simp [Instr.sliceAt, Instr.slice, run_underlying (slB_und hT), run_bounds (P := P) s (isSlice := true) hl hh hm1 hm4 h1 hm2 hm3 w', run_sizeOf' (slB_size hT)]
    exact run_v e
/-- A slice of an own object. -/
theorem ly_slo {T E sz : Nat} {x : Operand} {lo hi : Option Operand} {id ver off len t : Nat} {cs : List V} {l h r n : Nat} (hT : slB P T E sz = true) (hx : ovO F x = some (.o id ver off len)) (hH : H[id]? = some ⟨t, sz, ver, true, cs⟩) (hl : bnd F 0 lo l) (hh : bnd F len hi h)
    (h1 : l ≤ h) (h2 : h ≤ len) (hr : off + l = r) (hn : h - l = n) : LY P Γ (.slice T x lo hi none) F H (.o id ver r n) := fun ρ a w s => by
  obtain ⟨re, o⟩ := s.own hH rfl
  obtain ⟨re', e1, hle, hp⟩ := s.ov hx
  obtain rfl : re' = re := by have := e1.symm.trans o.at_; injection this
  obtain ⟨hcap, hq⟩ := hp (o.ok.ver.symm)
  have hsz : re'.sz = sz := o.ok.sz
  rcases hq with ⟨g, ad, hg, hv, had⟩ | ⟨hg, hv, ho, hl0⟩
  · refine ⟨.slice (if re'.cap - off = l then some ad else some (ad.add (l * sz))) n (re'.cap - off - l), ⟨re', o.at_, hle, fun _ => ⟨by omega, .inl ⟨g, if re'.cap - off = l then ad else ad.add (l * sz), hg, ?_, fun hc => ?_⟩⟩⟩, fun _ _ _ _ _ w' _ => ?_⟩
    · split <;> (congr 1; omega)
    · rcases hc with hc | hc
      · rw [if_neg (by omega), had (by omega), addr_add_plain, hsz, ← hr, Nat.add_mul]
      · have : l = 0 := by omega
        subst this
        have e3 : off = r := by omega
        subst e3
        split
        · rw [had (by omega)]
        · rw [had (by omega), addr_add_plain]; simp
    · have e : (Instr.sliceAt T (a.eval x) (lo.map a.eval) (hi.map a.eval) none).run P w' = .ok (.slice (if re'.cap - off = l then some ad else some (ad.add (l * sz))) n (re'.cap - off - l)) w' := by
        rw [hv]
        have eb := run_bounds (P := P) s (isSlice := true) (cap := re'.cap - off) (mx := none) hl hh rfl (by simp) h1 (by omega) (Nat.le_refl _) w'
        simp only [Option.map_none] at eb
        simp [Instr.sliceAt, Instr.slice, run_underlying (slB_und hT), eb, run_sizeOf' (slB_size hT), hn]
      exact run_v e
  · have : l = 0 := by omega
    subst this
    refine ⟨.slice none 0 0, ⟨re', o.at_, hle, fun _ => ⟨by omega, .inr ⟨hg, rfl, by omega, by omega⟩⟩⟩, fun _ _ _ _ _ w' _ => ?_⟩
    have e : (Instr.sliceAt T (a.eval x) (lo.map a.eval) (hi.map a.eval) none).run P w' = .ok (.slice none 0 0) w' := by
      rw [hv]
      subst hl0
      have eb := run_bounds (P := P) s (isSlice := true) (cap := 0) (mx := none) hl hh rfl (by simp) h1 (by omega) (Nat.le_refl _) w'
      simp only [Option.map_none] at eb
      have hh0 : h = 0 := by omega
      subst hh0
      simp [Instr.sliceAt, Instr.slice, run_underlying (slB_und hT), eb, run_sizeOf' (slB_size hT)]
    exact run_v e
theorem ly_sls {T : Nat} {x : Operand} {lo hi : Option Operand} {b : ByteArray} {l h : Nat} (hT : P.underlying T = some .string) (hx : ovO F x = some (.s b)) (hl : bnd F 0 lo l) (hh : bnd F b.size hi h) (h1 : l ≤ h) (h2 : h ≤ b.size) :
    LY P Γ (.slice T x lo hi none) F H (.s (b.extract l h)) := fun ρ a w s =>
  ⟨.string (b.extract l h), rfl, fun _ _ _ _ _ w' _ => by
    have e : (Instr.sliceAt T (a.eval x) (lo.map a.eval) (hi.map a.eval) none).run P w' = .ok (.string (b.extract l h)) w' := by
      rw [eval_s s hx]
      have eb := run_bounds (P := P) s (isSlice := false) (cap := b.size) (mx := none) hl hh rfl (by simp) h1 h2 (Nat.le_refl _) w'
      simp only [Option.map_none] at eb
      simp [Instr.sliceAt, Instr.slice, run_underlying hT, eb]
    exact run_v e⟩

/-! ### Frames and objects looked at anew -/
/-- All that the first frame says, the second one says. -/
def Sub (F' F : Fr) : Prop := ∀ t y, getO F' t = some y → getO F t = some y
theorem Sub.nil : Sub [] F := fun t y h => by simp [getO] at h
theorem Sub.cons {F' : Fr} {t : Nat} {y : V} (h : getO F t = some y) (hs : Sub F' F) : Sub ((t, y) :: F') F := fun k z hz => by
  simp only [getO] at hz
  cases hb : Nat.beq k t
  · rw [hb] at hz; exact hs k z hz
  · rw [hb] at hz
    have := Nat.eq_of_beq_eq_true hb
    subst this
    simp at hz; subst hz; exact h
theorem StA.sub {ρ : List Re} {a : Act} {w : World} {F' : Fr} (h : Sub F' F) (s : StA Γ ρ F H a w) : StA Γ ρ F' H a w :=
  ⟨s.hr, s.n, s.ds, fun t => by
    have h1 := s.fr t
    unfold get at h1 ⊢
    cases h2 : getO F' t with
    | none => exact trivial
    | some y => rw [h t y h2] at h1; exact h1, s.fro⟩
theorem St.sub {a : Act} {w : World} {F' : Fr} (h : Sub F' F) (s : St Γ F H a w) : St Γ F' H a w := by obtain ⟨ρ, s⟩ := s; exact ⟨ρ, s.sub h⟩
theorem jc_keep {c : Code} {F' : Fr} (h : Sub F' F) (j : JC P c Γ F' H Q) : JC P c Γ F H Q := fun a w s => j a w (s.sub h)
theorem jo_keep {ops : Array Oper} {l : List Oper} {F' : Fr} (h : Sub F' F) (j : JO P ops l Γ F' H Q) : JO P ops l Γ F H Q := fun a w s => j a w (s.sub h)
theorem jc_H {c : Code} {H' : List Ob} (h : H = H') (j : JC P c Γ F H' Q) : JC P c Γ F H Q := h ▸ j

/-- An own object that is written no more. -/
def deadAt (H : List Ob) (id : Nat) : List Ob := H.modify id fun ob => { ob with live := false, cs := [] }
theorem deadAt_some {id i : Nat} {o : Ob} (h : (deadAt H id)[i]? = some o) (hl : o.live = true) : i ≠ id ∧ H[i]? = some o := by
  unfold deadAt at h
  rw [List.getElem?_modify] at h
  cases hi : H[i]? with
  | none => rw [hi] at h; cases h
  | some o' =>
    rw [hi] at h
    by_cases e : id = i
    · simp [e] at h; rw [← h] at hl; cases hl
    · simp [e] at h; exact ⟨Ne.symm e, by rw [h]⟩
theorem StA.dead {ρ : List Re} {a : Act} {w : World} (s : StA Γ ρ F H a w) (id : Nat) : StA Γ ρ F (deadAt H id) a w := by
  have lsub : ∀ b, Lset Γ.M ρ (deadAt H id) b → Lset Γ.M ρ H b := by
    rintro b (h | ⟨i, o, r, h1, h2, h3, h4⟩)
    · exact .inl h
    · exact .inr ⟨i, o, r, (deadAt_some h1 h2).2, h2, h3, h4⟩
  have ev : Ev w (Lset Γ.M ρ H) Γ.w0.heap.size ρ w (Lset Γ.M ρ (deadAt H id)) Γ.w0.heap.size ρ :=
    ⟨Nat.le_refl _, fun _ _ _ => rfl, fun b _ hn h => hn (lsub b h), Nat.le_refl _, fun i r h => ⟨r, h, Nat.le_refl _, fun _ => rfl⟩⟩
  refine ⟨⟨by simp [deadAt, s.hr.len], fun i o h1 h2 => ?_, fun i j oi oj ri rj g hij h1 h2 h3 h4 => s.hr.apart i j oi oj ri rj g hij (deadAt_some h1 h2).2 h2 (deadAt_some h3 h4).2 h4, fun i o r g h1 h2 => s.hr.foreign i o r g (deadAt_some h1 h2).2 h2⟩, s.n, s.ds, fun t => (s.fr t).ev ev,
    ⟨s.fro.os, s.fro.tape, s.fro.output, s.fro.size, s.fro.blk, s.fro.old, fun i o r g h1 h2 => s.fro.mine i o r g (deadAt_some h1 h2).2 h2, s.fro.rho⟩⟩
  obtain ⟨r, h3, h4⟩ := s.hr.ob i o (deadAt_some h1 h2).2 h2
  refine ⟨r, h3, h4.ver, h4.sz, h4.nob, fun g hg => ?_⟩
  obtain ⟨cur, c1, c2, c3, c4, c5⟩ := h4.blk g hg
  exact ⟨cur, c1, c2, c3, c4, fun j y hy => by obtain ⟨u, d1, d2, d3⟩ := c5 j y hy; exact ⟨u, d1, d2, d3.ev ev⟩⟩
/-- A slice of an own row of whole numbers, once the row is written no more. -/
theorem StA.frozen {ρ : List Re} {a : Act} {w : World} (s : StA Γ ρ F H a w) {id ver off len t : Nat} {k : IntKind} {l : List Int} (hH : H[id]? = some ⟨t, 1, ver, true, ints k l⟩) {v : Value} (r : Rel w (Lset Γ.M ρ H) Γ.w0.heap.size ρ (.o id ver off len) v) (hle : off + len ≤ l.length)
    (hp : ∀ b, ¬ Γ.L0 b) : Rel w (Lset Γ.M ρ (deadAt H id)) Γ.w0.heap.size ρ (.n true k ((l.drop off).take len)) v := by
  obtain ⟨re, o⟩ := s.own hH rfl
  obtain ⟨re', e1, _, hq⟩ := r
  obtain rfl : re' = re := by have := e1.symm.trans o.at_; injection this
  obtain ⟨hcap, hq⟩ := hq (o.ok.ver.symm)
  have hsz : re'.sz = 1 := o.ok.sz
  have hlen : ((l.drop off).take len).length = len := by simp; omega
  rcases hq with ⟨g, ad, hg, hv, had⟩ | ⟨hg, hv, ho, hl0⟩
  · obtain ⟨cur, c1, c2, c3, c4, c5⟩ := o.ok.blk g hg
    refine ⟨some ad, re'.cap - off, by rw [hlen]; exact hv, by rw [hlen]; omega, by omega, fun hne => ⟨ad, rfl, ?_, fun j y hy => ?_⟩⟩
    · have hpos : 0 < len := by
        rcases Nat.eq_zero_or_pos len with h | h
        · exact absurd (List.eq_nil_of_length_eq_zero (by rw [hlen, h])) hne
        · exact h
      rw [had (by omega)]
      refine ⟨s.hr.lt hH rfl o.at_ hg, ?_, fun _ => ?_⟩
      · rintro (h | ⟨i, oi, ri, h1, h2, h3, h4⟩)
        · exact s.hr.foreign id _ re' g hH rfl o.at_ hg h
        · obtain ⟨hne, h1'⟩ := deadAt_some h1 h2
          exact s.hr.apart i id oi _ ri re' g hne h1' h2 hH rfl h3 o.at_ h4 hg
      · rcases s.fro.mine id _ re' g hH rfl o.at_ hg with h | h
        · exact h
        · exact absurd h (hp g)
    · rw [List.getElem?_take] at hy
      split at hy
      · rename_i hj
        rw [List.getElem?_drop] at hy
        rw [had (by omega), addr_add_plain, hsz, Nat.mul_one]
        obtain ⟨u, d1, _, d3⟩ := o.cell hg (show (ints k l)[off + j]? = some (.i k y) by rw [ints_at, hy]; rfl)
        rw [d1, show u = .int k y from d3]
      · cases hy
  · subst hl0
    exact ⟨none, 0, by simpa using hv, by simp, by simp [maxLen], fun h => absurd (by simp) h⟩
/-- What may be read for good once nobody writes it: no pointers into own objects. -/
def pureV : V → Bool
  | .i _ _ | .b _ | .s _ | .c _ | .n _ _ _ | .l _ _ _ | .q _ | .u => true
  | _ => false
theorem rel_pure {w : World} {L : Nat → Prop} {B : Nat} {ρ : List Re} : ∀ (y : V) (v : Value), pureV y = true → Rel w L B ρ y v → Rel w L 0 [] y v
  | .i _ _, _, _, h => h
  | .b _, _, _, h => h
  | .s _, _, _, h => h
  | .c _, _, _, h => h
  | .n _ _ _, _, _, ⟨A, c, e, h1, h2, h3⟩ => ⟨A, c, e, h1, h2, fun hl => by obtain ⟨ad, e1, hb, hc⟩ := h3 hl; exact ⟨ad, e1, ⟨hb.1, hb.2.1, fun _ => Nat.zero_le _⟩, hc⟩⟩
  | .l _ _ _, _, _, ⟨A, c, e, h1, h2, h3⟩ => ⟨A, c, e, h1, h2, fun hl => by obtain ⟨ad, e1, hb, hc⟩ := h3 hl; exact ⟨ad, e1, ⟨hb.1, hb.2.1, fun _ => Nat.zero_le _⟩, hc⟩⟩
  | .q _, _, _, ⟨ad, e, hb, hc⟩ => ⟨ad, e, ⟨hb.1, hb.2.1, by simp⟩, hc⟩
  | .u, _, _, _ => trivial
/-- The block of an object that is written no more. -/
theorem StA.mine_dead {ρ : List Re} {a : Act} {w : World} (s : StA Γ ρ F H a w) {id g : Nat} {ob : Ob} {re : Re} (hH : H[id]? = some ob) (hl : ob.live = true) (hre : ρ[id]? = some re) (hg : re.g = some g) (hp : ∀ b, ¬ Γ.L0 b) (fr : Bool) :
    Okb w (Lset Γ.M ρ (deadAt H id)) Γ.w0.heap.size fr g := by
  refine ⟨s.hr.lt hH hl hre hg, ?_, fun _ => ?_⟩
  · rintro (h | ⟨i, oi, ri, h1, h2, h3, h4⟩)
    · exact s.hr.foreign id _ re g hH hl hre hg h
    · obtain ⟨hne, h1'⟩ := deadAt_some h1 h2
      exact s.hr.apart i id oi _ ri re g hne h1' h2 hH hl h3 hre h4 hg
  · rcases s.fro.mine id _ re g hH hl hre hg with h | h
    · exact h
    · exact absurd h (hp g)
theorem StA.dead_ev {ρ : List Re} {a : Act} {w : World} (s : StA Γ ρ F H a w) (id : Nat) : Ev w (Lset Γ.M ρ H) Γ.w0.heap.size ρ w (Lset Γ.M ρ (deadAt H id)) Γ.w0.heap.size ρ :=
  ⟨Nat.le_refl _, fun _ _ _ => rfl, fun b _ hn h => hn (by
    rcases h with h | ⟨i, o, r, h1, h2, h3, h4⟩
    · exact .inl h
    · exact .inr ⟨i, o, r, (deadAt_some h1 h2).2, h2, h3, h4⟩), Nat.le_refl _, fun i r h => ⟨r, h, Nat.le_refl _, fun _ => rfl⟩⟩
theorem relC_of {w : World} {L : Nat → Prop} {B : Nat} {ρ : List Re} {ad : Addr} : ∀ (ys : List V) (k : Nat), (∀ (j : Nat) (y : V), ys[j]? = some y → ∃ u, w.cell? (ad.add (k + j)) = some u ∧ Rel w L B ρ y u) → RelC w L B ρ ad k ys
  | [], _, _ => trivial
  | y :: ys, k, h => ⟨by simpa using h 0 y rfl, relC_of ys (k + 1) fun j z hz => by have := h (j + 1) z (by simpa using hz); rwa [show k + (j + 1) = k + 1 + j by omega] at this⟩
theorem StA.frozenC {ρ : List Re} {a : Act} {w : World} (s : StA Γ ρ F H a w) {id ver off t sz : Nat} {cs : List V} (hH : H[id]? = some ⟨t, sz, ver, true, cs⟩) {v : Value} (r : Rel w (Lset Γ.M ρ H) Γ.w0.heap.size ρ (.p id ver off) v) (hpu : cs.all pureV = true)
    (hp : ∀ b, ¬ Γ.L0 b) : Rel w (Lset Γ.M ρ (deadAt H id)) Γ.w0.heap.size ρ (.q (cs.drop off)) v := by
  obtain ⟨re, o⟩ := s.own hH rfl
  obtain ⟨re', e1, _, hq⟩ := r
  obtain rfl : re' = re := by have := e1.symm.trans o.at_; injection this
  obtain ⟨g, hg, hv⟩ := hq (o.ok.ver.symm)
  have hok := s.mine_dead hH rfl o.at_ hg hp false
  refine ⟨⟨g, off, none⟩, hv, hok, relC_of _ _ fun j y hy => ?_⟩
  rw [List.getElem?_drop] at hy
  obtain ⟨u, d1, _, d3⟩ := o.cell hg hy
  refine ⟨u, by rw [addr_add_plain, Nat.zero_add]; exact d1, rel_pure _ _ (List.all_eq_true.1 hpu _ (List.mem_of_getElem? hy)) (d3.ev (s.dead_ev id))⟩
theorem flat_at {sz : Nat} : ∀ (rows : List (List V)) (i j : Nat) (r : List V) (y : V), (∀ r ∈ rows, r.length = sz) → rows[i]? = some r → r[j]? = some y → rows.flatten[i * sz + j]? = some y
  | [], i, j, r, y, _, h, _ => by simp at h
  | r0 :: rows, 0, j, r, y, hl, h, hy => by
    simp at h; subst h
    have : j < r0.length := (List.getElem?_eq_some_iff.1 hy).1
    simp [List.getElem?_append_left this, hy]
  | r0 :: rows, i + 1, j, r, y, hl, h, hy => by
    have h0 := hl r0 (List.mem_cons_self ..)
    have := flat_at rows i j r y (fun r hr => hl r (List.mem_cons_of_mem _ hr)) (by simpa using h) hy
    rw [List.flatten_cons, List.getElem?_append_right (by rw [h0, Nat.add_mul]; omega), h0]
    rw [show (i + 1) * sz + j - sz = i * sz + j by rw [Nat.add_mul]; omega]
    exact this
theorem relR_of {w : World} {L : Nat → Prop} {B : Nat} {ρ : List Re} {sz : Nat} {ad : Addr} : ∀ (rows : List (List V)) (k : Nat), (∀ r ∈ rows, r.length = sz) → (∀ (i : Nat) (r : List V), rows[i]? = some r → RelC w L B ρ ad (k + i * sz) r) → RelR w L B ρ sz ad k rows
  | [], _, _, _ => trivial
  | r :: rows, k, h1, h2 => ⟨h1 r (List.mem_cons_self ..), by simpa using h2 0 r rfl, relR_of rows (k + sz) (fun r hr => h1 r (List.mem_cons_of_mem _ hr)) fun i r hr => by have := h2 (i + 1) r (by simpa using hr); rwa [show k + (i + 1) * sz = k + sz + i * sz by rw [Nat.add_mul]; omega] at this⟩
theorem StA.frozenR {ρ : List Re} {a : Act} {w : World} (s : StA Γ ρ F H a w) {id ver len t sz : Nat} {cs : List V} {rows : List (List V)} (hH : H[id]? = some ⟨t, sz, ver, true, cs⟩) {v : Value} (r : Rel w (Lset Γ.M ρ H) Γ.w0.heap.size ρ (.o id ver 0 len) v)
    (hcs : cs = rows.flatten) (hlen : rows.length = len) (hsz : ∀ r ∈ rows, r.length = sz) (hpu : ∀ r ∈ rows, r.all pureV = true) (h0 : 0 < sz)
    (hp : ∀ b, ¬ Γ.L0 b) : Rel w (Lset Γ.M ρ (deadAt H id)) Γ.w0.heap.size ρ (.l true sz rows) v := by
  obtain ⟨re, o⟩ := s.own hH rfl
  obtain ⟨re', e1, _, hq⟩ := r
  obtain rfl : re' = re := by have := e1.symm.trans o.at_; injection this
  obtain ⟨hcap, hq⟩ := hq (o.ok.ver.symm)
  rcases hq with ⟨g, ad, hg, hv, had⟩ | ⟨hg, hv, ho, hl0⟩
  · obtain ⟨cur, c1, c2, c3, c4, c5⟩ := o.ok.blk g hg
    have had' := had (.inr rfl)
    rw [Nat.zero_mul] at had'
    refine ⟨some ad, re'.cap - 0, by rw [hlen]; exact hv, by rw [hlen]; omega, by omega, fun hne => ⟨ad, rfl, ?_, relR_of rows 0 hsz fun i row hi => relC_of _ _ fun j y hy => ?_⟩⟩
    · rw [had']; exact s.mine_dead hH rfl o.at_ hg hp true
    · have hy' := flat_at rows i j row y hsz hi hy
      rw [← hcs] at hy'
      obtain ⟨u, d1, _, d3⟩ := o.cell hg hy'
      refine ⟨u, by rw [had', addr_add_plain, Nat.zero_add, Nat.zero_add]; exact d1, rel_pure _ _ (List.all_eq_true.1 (hpu row (List.mem_of_getElem? hi)) _ (List.mem_of_getElem? hy)) (d3.ev (s.dead_ev id))⟩
  · subst hl0
    have : rows = [] := List.eq_nil_of_length_eq_zero hlen
    subst this
    exact ⟨none, 0, by simpa using hv, by simp, by simp [maxLen], fun h => absurd rfl h⟩
theorem StA.frz {ρ : List Re} {a : Act} {w : World} (s : StA Γ ρ F H a w) (id t : Nat) {y z : V} (hx : getO F t = some y) (h : ∀ v, Rel w (Lset Γ.M ρ H) Γ.w0.heap.size ρ y v → Rel w (Lset Γ.M ρ (deadAt H id)) Γ.w0.heap.size ρ z v) : StA Γ ρ ((t, z) :: F) (deadAt H id) a w := by
  refine ⟨(s.dead id).hr, s.n, s.ds, fun t' => ?_, (s.dead id).fro⟩
  rw [get_cons]
  by_cases e : t' = t
  · subst e
    rw [if_pos rfl]
    have := s.fr t'
    unfold get at this
    rw [hx] at this
    exact h _ this
  · rw [if_neg e]; exact (s.dead id).fr t'
/-- The slot's struct, array is written no more. -/
theorem jc_frzp {c : Code} (t : Nat) {id ver off T sz : Nat} {cs zs : List V} (hx : getO F t = some (.p id ver off)) (hH : H[id]? = some ⟨T, sz, ver, true, cs⟩) (hpu : cs.all pureV = true) (hz : cs.drop off = zs) (hp : ∀ b, ¬ Γ.L0 b)
    (j : JC P c Γ ((t, .q zs) :: F) (deadAt H id) Q) : JC P c Γ F H Q := fun a w ⟨ρ, s⟩ =>
  j a w ⟨ρ, s.frz id t hx fun v r => hz ▸ s.frozenC hH r hpu hp⟩
theorem jo_frzp {ops : Array Oper} {rest : List Oper} (t : Nat) {id ver off T sz : Nat} {cs zs : List V} (hx : getO F t = some (.p id ver off)) (hH : H[id]? = some ⟨T, sz, ver, true, cs⟩) (hpu : cs.all pureV = true) (hz : cs.drop off = zs) (hp : ∀ b, ¬ Γ.L0 b)
    (j : JO P ops rest Γ ((t, .q zs) :: F) (deadAt H id) Q) : JO P ops rest Γ F H Q := fun a w ⟨ρ, s⟩ =>
  j a w ⟨ρ, s.frz id t hx fun v r => hz ▸ s.frozenC hH r hpu hp⟩
/-- The slot's rows are written no more. -/
theorem jc_frzr {c : Code} (t : Nat) {id ver len T sz : Nat} {cs : List V} (rows : List (List V)) (hx : getO F t = some (.o id ver 0 len)) (hH : H[id]? = some ⟨T, sz, ver, true, cs⟩) (hcs : cs = rows.flatten) (hlen : rows.length = len) (hsz : ∀ r ∈ rows, r.length = sz) (hpu : ∀ r ∈ rows, r.all pureV = true) (h0 : 0 < sz) (hp : ∀ b, ¬ Γ.L0 b)
    (j : JC P c Γ ((t, .l true sz rows) :: F) (deadAt H id) Q) : JC P c Γ F H Q := fun a w ⟨ρ, s⟩ =>
  j a w ⟨ρ, s.frz id t hx fun v r => s.frozenR hH r hcs hlen hsz hpu h0 hp⟩
theorem jc_frz {c : Code} (t : Nat) {id ver off len T : Nat} {k : IntKind} {l : List Int} (hx : getO F t = some (.o id ver off len)) (hH : H[id]? = some ⟨T, 1, ver, true, ints k l⟩) (hle : off + len ≤ l.length) {l' : List Int} (hl : (l.drop off).take len = l') (hp : ∀ b, ¬ Γ.L0 b)
    (j : JC P c Γ ((t, .n true k l') :: F) (deadAt H id) Q) : JC P c Γ F H Q := fun a w ⟨ρ, s⟩ =>
  j a w ⟨ρ, s.frz id t hx fun v r => hl ▸ s.frozen hH r hle hp⟩
/-- The slot's row is written no more. -/
theorem jo_frz {ops : Array Oper} {rest : List Oper} (t : Nat) {id ver off len T : Nat} {k : IntKind} {l l' : List Int} (hx : getO F t = some (.o id ver off len)) (hH : H[id]? = some ⟨T, 1, ver, true, ints k l⟩) (hle : off + len ≤ l.length) (hl : (l.drop off).take len = l') (hp : ∀ b, ¬ Γ.L0 b)
    (j : JO P ops rest Γ ((t, .n true k l') :: F) (deadAt H id) Q) : JO P ops rest Γ F H Q := fun a w ⟨ρ, s⟩ =>
  j a w ⟨ρ, s.frz id t hx fun v r => hl ▸ s.frozen hH r hle hp⟩
end
end Go.Proofs.Ytcdipmjgpimmdaa.Vc
