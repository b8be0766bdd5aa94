/- lex.Value says what every number says, and nothing else is one Texts joined: Jf, Jg, Pa, Pb, Pc, Pd, Pe, Pf, Pg, Ph, Pi, Pj, Pk, Pl, Pm, Pn, Po, Pp, Pq, Pv, Pw, Px, Py, Pz, Qd, Qe, Xa, Za, Qf, Zb, Zc, Zd, Zf, Zg, Zh, Zi, Zj, Zo, Qg, Qh, Qi, Qj, Qk, Ql, Qn, Qo, Qp, Qs, Qt, Qu, Qv, Qw, Qx, Sa, Sc, Se, Sf, Sg, Sh, Si, Sk, Sm, Sn, So, Xb, Ra, Xm. -/
import Derived.Test.YtpldmajdiljoaaaK6
set_option linter.unusedVariables false
set_option linter.unusedSimpArgs false
set_option maxHeartbeats 4000000
namespace Go.Proofs.Ytpldmajdiljoaaa.Vc
open Go Go.RowKit
theorem lx_Lex_s (s : ByteArray) (hs : s.size < 4294967296) : Spec Try.prog 93 [.s s] (fun o => o = .ret (lx_LexV s)) := by
  refine spec_of' [(0, .s s)] rfl Try.func93 rfl (zlb rfl) fun Γ hN hds hL hR => ?_
  have hd := hdOf 31 hN
  refine zsr <| zas rfl (hd 2 rfl) <| zas rfl (hd 3 rfl) <| zas rfl (hd 4 rfl) <| jo_nil <| jc_seq <| jc_region ?_
  refine jo_call Try.f89 (lx_classes_s) rfl Try.func89 rfl rfl ovL_nil .nil (hd 11 rfl) ?_ (fun ch hp => by simp at hp)
  rintro _ ⟨⟩; refine jo_h (hy_alloc (id := 0) zero1110 (by kernel_rfl) List.length_replicate (by decide) rfl) (hd 5 rfl) <| jo_st (sy_store rfl rfl rfl siz1110 lx_tbl_len ints_one lx_tbl_fit) <| jo_nil <| zsr <| zas rfl (hd 6 rfl) <| jo_nil <| jc_seq <| lx_jc_tbl 5 rfl rfl hL <| jc_own0 (id := 1) 6 114 3 rfl rfl <| jc_region <| zas rfl (hd 7 rfl) <| jo_nil ?_; refine jc_block <| jc_keep (F' := [(0, _), (2, _), (3, _), (4, _), (5, _), (6, _), (7, _)]) (.cons rfl (.cons rfl (.cons rfl (.cons rfl (.cons rfl (.cons rfl (.cons rfl .nil))))))) ?_
  refine jc_loopD (G := List lx_Tok × Nat) 2 (fun g => lx_lexGo s 0 = (g.1 ++ (lx_lexGo s g.2).1, (lx_lexGo s g.2).2) ∧ g.2 ≤ s.size ∧ g.1.length ≤ g.2) (fun g => [(6, .o 1 g.1.length 0 g.1.length), (7, .i .i64 (g.2 : Int)), (2, .u), (3, .u), (4, .u), (8, .u), (9, .u), (10, .u), (12, .u), (13, .u), (14, .u), (15, .u), (16, .u), (17, .u), (18, .u), (19, .u), (20, .u), (21, .u), (22, .u), (23, .u), (24, .u), (25, .u), (26, .u), (27, .u), (28, .u), (29, .u), (30, .u)]) (fun g => [⟨110, 256, 0, false, []⟩, ⟨114, 3, g.1.length, true, (g.1.map lx_tokRow).flatten⟩]) (fun g => s.size - g.2) ([], 0) ?_ ?_ rfl hR rfl (fun _ _ => rfl) (fun g _ => .dead rfl (.cons (lx_tok_id 2 g.1) .nil)) ?_
  · exact ⟨rfl, Nat.zero_le _, Nat.zero_le _⟩
  · exact (.cons rfl (.cons rfl (.u (.u (.u (.u (.u (.u (.u (.u (.u (.u (.u (.u (.u (.u (.u (.u (.u (.u (.u (.u (.u (.u (.u (.u (.u .nil)))))))))))))))))))))))))))
  · rintro ⟨acc, p⟩ ⟨hc1, hc2, hc3⟩
    dsimp only at hc1 hc2 hc3
    refine jc_block <| zsr <| zmv rfl (hd 13 rfl) <| zmv rfl (hd 14 rfl) ?_
    refine jo_call Try.f90 (lx_next_s s p hc2 (by omega)) rfl Try.func90 rfl rfl (ovL_cons rfl (ovL_cons rfl (ovL_cons rfl ovL_nil))) (.cons .q (.cons .s (.cons .i .nil))) (hd 15 rfl) ?_ (fun ch hp => by simp at hp)
    rintro _ ⟨⟩; refine zmv rfl (hd 12 rfl) <| jo_l (ly_ext rfl rfl) (hd 16 rfl) <| jo_l (ly_ext rfl rfl) (hd 17 rfl) <| jo_l (ly_ext rfl rfl) (hd 18 rfl) <| jo_h (hy_alloc (id := 2) zero1114 (by decide) rfl (by decide) rfl) (hd 8 rfl) <| jo_st (sy_store rfl rfl rfl siz1114 rfl rfl (zlb rfl)) <| zas rfl (hd 9 rfl) <| zas rfl (hd 10 rfl) <| jo_nil <| jc_seq <| zsr <| zmv rfl (hd 19 rfl) ?_; refine jo_l (ly_not rfl) (hd 20 rfl) <| jo_nil ?_
    refine jc_cond rfl (fun h1 => ?_) (fun h1 => ?_)
    · rw [Bool.not_eq_true'] at h1
      refine zsr <| zmv rfl (hd 21 rfl) <| zas rfl (hd 2 rfl) <| zas rfl (hd 3 rfl) <| zas rfl (hd 4 rfl) <| jo_nil <| jc_ret ?_
      refine ⟨_, _, (.cons rfl (.cons rfl (.cons rfl .nil))), (.t1 (.nill (fr := true) (sz := 3)) (.t1 .i (.t1 .i .t0))), ?_⟩
      unfold lx_LexV
      rw [hc1, lx_lexGo_bad (by simp_all)]
      rfl
    · rw [Bool.not_eq_false'] at h1
      refine jc_skip <| jc_seq <| zsr <| jo_l (ly_fa fld1114_0 rfl rfl rfl) (hd 22 rfl) <| jo_l (ly_ld one1112 rfl rfl rfl) (hd 23 rfl) <| jo_l (ly_eq rfl rfl) (hd 24 rfl) <| jo_nil ?_
      refine jc_if rfl (fun h2 => ?_) (fun h2 => ?_)
      · refine zsr <| zmv rfl (hd 25 rfl) <| zas rfl (hd 2 rfl) <| zas rfl (hd 3 rfl) <| zas rfl (hd 4 rfl) <| jo_nil <| jc_ret ?_
        refine ⟨_, _, (.cons rfl (.cons rfl (.cons rfl .nil))), (.t1 (.ol rfl rfl (by simp) (lx_tok_len _) (lx_tok_pure _) (by decide)) (.t1 .i (.t1 .i .t0))), ?_⟩
        unfold lx_LexV
        rw [hc1, lx_lexGo_end (by simp_all) (by omega)]
        simp only [List.append_nil]
        rfl
      · refine jc_skip <| jc_region <| zmv rfl (hd 26 rfl) <| jo_l (ly_lda agg1114 rfl rfl rfl rfl) (hd 27 rfl) <| jo_h (hy_lit (id := 3) (xs := [.tmp 27]) el1120 rfl (ovL_cons rfl ovL_nil) rfl (all2_of rfl) (by decide) rfl) (hd 28 rfl) <| jo_app el1120 rfl rfl (lx_tok_flat acc) rfl (src_o rfl rfl rfl) (by show (acc.length + 1) * 32 ≤ _; omega) (by show acc.length + 1 ≤ 9223372036854775807; omega) (hd 29 rfl) <| zmv rfl (hd 30 rfl) <| zas rfl (hd 6 rfl) <| zas rfl (hd 7 rfl) <| jo_nil ?_
        refine ⟨(acc ++ [((lx_nx s p).1, (lx_nx s p).2.1, (lx_nx s p).2.2.1)], (lx_nx s p).2.2.2.1), ?_, ?_, (by rw [lx_tok_snoc, List.length_append]; rfl), cov_n 49 rfl rfl ?_⟩
        · have hlt := lx_nx_lt s p hc2 (by simp_all) (by assumption)
          have hle := lx_nx_le s p hc2
          refine ⟨?_, hle.2, by rw [List.length_append]; simp only [List.length_singleton]; omega⟩
          rw [hc1, lx_lexGo_more hc2 (by simp_all) (by assumption)]
          simp
        · have hlt := lx_nx_lt s p hc2 (by simp_all) (by assumption)
          have hle := lx_nx_le s p hc2
          show s.size - (lx_nx s p).2.2.2.1 < s.size - p
          omega
        · exact (.cons (by show some _ = some _; rw [List.length_append]; rfl) (.cons rfl (.u (.u (.u (.u (.u (.u (.u (.u (.u (.u (.u (.u (.u (.u (.u (.u (.u (.u (.u (.u (.u (.u (.u (.u (.u .nil)))))))))))))))))))))))))))

theorem lx_awake_s  : Spec Try.prog 38 [] (fun o => o = .ret (.b true)) := by
  refine spec_of' [] rfl Try.func38 rfl (zlb rfl) fun Γ hN hds hL hR => ?_
  have hd := hdOf 42 hN
  have rL : Spec Try.prog 93 [.s lx_s2pi] (fun o => o = .ret (.t [lx_rowsV lx_l2pi, .i .i64 0, .i .i64 0])) := by
    have h := lx_Lex_s lx_s2pi (by decide)
    unfold lx_LexV at h
    rw [lx_lex_2pi] at h
    exact h
  refine zsr <| zas rfl (hd 0 rfl) <| jo_nil <| jc_seq <| jc_region ?_
  refine jo_call Try.f93 (rL) rfl Try.func93 rfl rfl (ovL_cons rfl ovL_nil) (.cons .s .nil) (hd 5 rfl) ?_ (fun ch hp => by simp at hp)
  rintro _ ⟨⟩; refine zmv rfl (hd 4 rfl) <| jo_l (ly_ext rfl rfl) (hd 6 rfl) <| jo_l (ly_ext rfl rfl) (hd 7 rfl) <| jo_l (ly_ext rfl rfl) (hd 8 rfl) <| zas rfl (hd 1 rfl) <| zas rfl (hd 2 rfl) <| zas rfl (hd 3 rfl) <| jo_nil <| zsr <| zmv rfl (hd 9 rfl) ?_
  refine jo_call Try.f37 (lx_num_s 0) rfl Try.func37 rfl rfl (ovL_cons rfl ovL_nil) (.cons .i .nil) (hd 10 rfl) ?_ (fun ch hp => by simp at hp)
  rintro _ ⟨⟩; refine jo_l (ly_tt (ly_eq rfl rfl) rfl) (hd 11 rfl) <| zmv rfl (hd 12 rfl) <| jo_g 12 rfl rfl (ly_mv rfl) (hd 13 rfl) <| jo_g 12 rfl rfl (ly_tt (ly_eq rfl rfl) rfl) (hd 14 rfl) <| jo_l (ly_pick_t rfl rfl) (hd 15 rfl) <| zmv rfl (hd 16 rfl) <| jo_g 16 rfl rfl (ly_mv rfl) (hd 17 rfl) <| jo_g 16 rfl rfl (ly_lenl sl1120 rfl) (hd 18 rfl) <| jo_g 16 rfl rfl (ly_tt (ly_eq rfl rfl) rfl) (hd 19 rfl) <| jo_l (ly_pick_t rfl rfl) (hd 20 rfl) <| zmv rfl (hd 21 rfl) <| jo_g 21 rfl rfl (ly_mv rfl) (hd 22 rfl) <| jo_g 21 rfl rfl (ly_ial (i := 2) (row := _) sl1120 rfl rfl rfl rfl) (hd 23 rfl) ?_; refine jo_g 21 rfl rfl (ly_faq fld1114_1 rfl rfl) (hd 24 rfl) <| jo_g 21 rfl rfl (ly_ldq one9 rfl rfl) (hd 25 rfl) <| jo_g 21 rfl rfl (ly_tt (ly_eqS rfl rfl) rfl) (hd 26 rfl) <| jo_l (ly_pick_t rfl rfl) (hd 27 rfl) <| zmv rfl (hd 28 rfl) <| jo_g 28 rfl rfl (ly_mv rfl) (hd 29 rfl) <| jo_g 28 rfl rfl (ly_ial (i := 2) (row := _) sl1120 rfl rfl rfl rfl) (hd 30 rfl) <| jo_g 28 rfl rfl (ly_faq fld1114_2 rfl rfl) (hd 31 rfl) <| jo_g 28 rfl rfl (ly_ldq one3 rfl rfl) (hd 32 rfl) <| jo_g 28 rfl rfl (ly_tt (ly_eq rfl rfl) rfl) (hd 33 rfl) <| jo_l (ly_pick_t rfl rfl) (hd 34 rfl) <| zmv rfl (hd 35 rfl) <| jo_g 35 rfl rfl (ly_mv rfl) (hd 36 rfl) ?_; refine jo_g 35 rfl rfl (ly_ial (i := 1) (row := _) sl1120 rfl rfl rfl rfl) (hd 37 rfl) <| jo_g 35 rfl rfl (ly_faq fld1114_0 rfl rfl) (hd 38 rfl) <| jo_g 35 rfl rfl (ly_ldq one1112 rfl rfl) (hd 39 rfl) <| jo_g 35 rfl rfl (ly_tt (ly_eq rfl rfl) rfl) (hd 40 rfl) <| jo_l (ly_pick_t rfl rfl) (hd 41 rfl) <| zas rfl (hd 0 rfl) <| jo_nil <| jc_ret ?_
  refine ⟨_, _, (.cons rfl .nil), .b, ?_⟩
  exact rfl

def xr5 (x : Int) : Int := bitop .xor .u64 x 5
def xorL (l : List Int) : List Int := l.map xr5
def xorI (l : List Int) (i : Nat) : List Int := xorL (l.take i) ++ l.drop i
def cpI (l : List Int) (i : Nat) : List Int := fillI (l.take i) l.length
theorem cpI_0 (l : List Int) : List.replicate l.length (0 : Int) = cpI l 0 := by simp [cpI, fillI]
theorem cpI_len {l : List Int} {i : Nat} (h : i ≤ l.length) : (cpI l i).length = l.length := fillI_len (by rw [List.length_take]; omega)
theorem cpI_all (l : List Int) : cpI l l.length = l := by rw [cpI, List.take_length, fillI_full rfl]
theorem cpI_set {l : List Int} {i : Nat} (h : i < l.length) : (cpI l i).set ((0 + i) * 1) (l.getD i 0) = cpI l (i + 1) := by
  rw [Nat.zero_add, Nat.mul_one]
  unfold cpI
  have e : (l.take i).length = i := by rw [List.length_take]; omega
  have := fillI_set (l := l.take i) (n := l.length) (v := l.getD i 0) (by omega)
  rw [e] at this
  rw [this, List.take_add_one, List.getElem?_eq_getElem h, List.getD_eq_getElem?_getD, List.getElem?_eq_getElem h]
  rfl


theorem vb_append (b : Nat) : ∀ l l' : List Int, vb b (l ++ l') = vb b l + (b : Int) ^ l.length * vb b l'
  | [], l' => by simp [vb]
  | x :: l, l' => by
    rw [List.cons_append, vb, vb, vb_append b l l', List.length_cons, Int.pow_succ, Int.mul_add, Int.mul_comm ((b : Int) ^ l.length) b, Int.mul_assoc]
    omega
theorem vb_lt {b : Nat} : ∀ {l : List Int}, rng b l → vb b l < (b : Int) ^ l.length
  | [], _ => by simp [vb]
  | x :: l, h => by
    have hx := h x (List.mem_cons_self ..)
    have ih := vb_lt (rng_tail h)
    rw [vb, List.length_cons, Int.pow_succ]
    have : (b : Int) * (vb b l + 1) ≤ b * (b : Int) ^ l.length := Int.mul_le_mul_of_nonneg_left (by omega) (by omega)
    rw [Int.mul_comm ((b : Int) ^ l.length)]
    rw [Int.mul_add] at this
    omega
def padD (b m x : Nat) : List Int := digs b x ++ List.replicate (m - (digs b x).length) 0
def hdg (b m x : Nat) : List Int := (padD b m x).reverse

theorem pm_half {x k : Nat} (hk : 0 < k) : x / 2 ^ k = x / 2 ^ (k - 1) / 2 := by
  obtain ⟨j, rfl⟩ : ∃ j, k = j + 1 := ⟨k - 1, by omega⟩
  rw [Nat.add_sub_cancel, Nat.pow_succ, Nat.div_div_eq_div_mul]
theorem pm_bit1 {x k : Nat} (hk : 0 < k) (h : ((x / 2 ^ (k - 1) % 2 : Nat) : Int) = 1) : 2 * (x / 2 ^ k) + 1 = x / 2 ^ (k - 1) := by
  rw [pm_half hk]; omega
theorem pm_bit0 {x k : Nat} (hk : 0 < k) (h : ¬ ((x / 2 ^ (k - 1) % 2 : Nat) : Int) = 1) : 2 * (x / 2 ^ k) = x / 2 ^ (k - 1) := by
  rw [pm_half hk]; omega

theorem rng_take {b : Nat} {l : List Int} (h : rng b l) (k : Nat) : rng b (l.take k) := fun x hx => h x (List.mem_of_mem_take hx)
theorem take_pred {l : List Int} {k : Nat} (hk : 0 < k) (hl : k ≤ l.length) : l.take k = l.take (k - 1) ++ [l.getD (k - 1) 0] := by
  obtain ⟨j, rfl⟩ : ∃ j, k = j + 1 := ⟨k - 1, by omega⟩
  rw [Nat.add_sub_cancel, List.take_add_one, List.getD_eq_getElem?_getD, List.getElem?_eq_getElem (by omega)]
  rfl
def revI (B : List Int) (i : Nat) : List Int := List.replicate (B.length - i) 0 ++ (B.take i).reverse

def pwV (b k : Nat) : V := .n true .u64 (lm ((b ^ 2 ^ k : Nat) : Int))
def pwR (b K : Nat) : List (List V) := (List.range K).map fun k => [pwV b k]

def ltrTab : ByteArray := ⟨#[48, 49, 50, 51, 52, 53, 54, 55, 56, 57, 97, 98, 99, 100, 101, 102, 103, 104, 105, 106, 107, 108, 109, 110, 111, 112, 113, 114, 115, 116, 117, 118, 119, 120, 121, 122]⟩
def ltr (x : Int) : Int := byteAt ltrTab x.toNat
def ltrB (x : Int) : UInt8 := UInt8.ofNat (ltr x).toNat
def txt (l : List Int) : ByteArray := ⟨(l.map ltrB).toArray⟩

def hv (b : Nat) (l : List Int) : Int := vb b l.reverse
theorem hv_nil {b : Nat} : hv b [] = 0 := rfl
theorem hv_snoc {b : Nat} {l : List Int} {d : Int} : hv b (l ++ [d]) = hv b l * b + d := by
  unfold hv
  rw [List.reverse_append]
  show d + (b : Int) * vb b l.reverse = _
  rw [Int.mul_comm, Int.add_comm]
theorem hv_app {b : Nat} (l m : List Int) : hv b (l ++ m) = hv b l * (b : Int) ^ m.length + hv b m := by
  unfold hv
  rw [List.reverse_append, vb_append, List.length_reverse, Int.add_comm, Int.mul_comm]
theorem hv_step {b i : Nat} {l : List Int} (h : i < l.length) : hv b (l.take (i + 1)) = hv b (l.take i) * b + l.getD i 0 := by
  have := take_pred (l := l) (k := i + 1) (by omega) (by omega)
  rw [Nat.add_sub_cancel] at this
  rw [this, hv_snoc]
theorem rng_rev {b : Nat} {l : List Int} (h : rng b l) : rng b l.reverse := fun x hx => h x (List.mem_reverse.1 hx)
theorem hv_nonneg {b : Nat} {l : List Int} (h : rng b l) : 0 ≤ hv b l := vb_nonneg (rng_rev h)
theorem hv_lt {b : Nat} {l : List Int} (h : rng b l) : hv b l < (b : Int) ^ l.length := by
  have := vb_lt (rng_rev h)
  rwa [List.length_reverse] at this
theorem hv_12 {b : Nat} {l : List Int} (hb : b ≤ 36) (hb0 : 2 ≤ b) (h : rng b l) (hl : l.length ≤ 12) : hv b l < 4738381338321616896 := by
  have h1 := hv_lt h
  have h2 : b ^ l.length ≤ 36 ^ 12 := Nat.le_trans (Nat.pow_le_pow_left hb _) (Nat.pow_le_pow_right (by decide) hl)
  have h3 : (b : Int) ^ l.length = ((b ^ l.length : Nat) : Int) := by simp
  rw [h3] at h1
  have h4 : (36 : Nat) ^ 12 = 4738381338321616896 := by decide
  omega
theorem hv_drop1 {b : Nat} {l : List Int} (h0 : l.getD 0 0 = 0) : hv b (l.drop 1) = hv b l := by
  cases l with
  | nil => rfl
  | cons x l =>
    have : x = 0 := h0
    subst this
    unfold hv
    rw [List.reverse_cons]
    exact (vb_app b l.reverse 1).symm
theorem hv_dropI {b i : Nat} {l : List Int} (h0 : (l.drop i).getD 0 0 = 0) (h : hv b (l.drop i) = hv b l) : hv b (l.drop (i + 1)) = hv b l := by
  rw [← h, ← hv_drop1 (l := l.drop i) h0, List.drop_drop]
theorem rng_drop {b : Nat} {l : List Int} (h : rng b l) (k : Nat) : rng b (l.drop k) := fun x hx => h x (List.mem_of_mem_drop hx)
def dgv (c : Int) : Int := if 48 ≤ c ∧ c ≤ 57 then c - 48 else if 97 ≤ c ∧ c ≤ 122 then c - 97 + 10 else 36
theorem dgv_rng {c : Int} (h0 : 0 ≤ c) (h1 : c < 256) : 0 ≤ dgv c ∧ dgv c ≤ 36 := by
  unfold dgv; split <;> (try split) <;> omega
def dgs (s : ByteArray) : List Int := (bytesI s).map dgv
theorem dgs_len (s : ByteArray) : (dgs s).length = s.size := by simp [dgs, bytesI_len]
theorem bytesI_getD {s : ByteArray} {i : Nat} (h : i < s.size) : (bytesI s).getD i 0 = byteAt s i := by
  unfold bytesI byteAt
  rw [dif_pos h, List.getD_eq_getElem?_getD, List.getElem?_map, Array.getElem?_toList, Array.getElem?_eq_getElem (by simpa using h)]
  rfl
theorem dgs_getD {s : ByteArray} {i : Nat} (h : i < s.size) : (dgs s).getD i 0 = dgv (byteAt s i) := by
  unfold dgs
  rw [List.getD_eq_getElem?_getD, List.getElem?_map]
  have h1 := bytesI_getD h
  rw [List.getD_eq_getElem?_getD] at h1
  have h2 : i < (bytesI s).length := by rw [bytesI_len]; exact h
  rw [List.getElem?_eq_getElem h2] at h1 ⊢
  rw [← h1]; rfl

theorem hv_cons {b : Nat} {x : Int} {l : List Int} : hv b (x :: l) = x * (b : Int) ^ l.length + hv b l := by
  have := hv_app (b := b) [x] l
  rw [List.singleton_append] at this
  rw [this]
  congr 1
  unfold hv; simp [vb]
def ordW (s t : ByteArray) : Int := if s.size < t.size ∨ (s.size = t.size ∧ Op.bytesLess s.toList t.toList = true) then -1 else if s = t then 0 else 1

theorem and1i {n : Nat} (h1 : n < 9223372036854775808) : bitop .and .i64 (n : Int) 1 = ((n % 2 : Nat) : Int) := by
  unfold bitop
  simp only [IntKind.bits]
  have e1 : (BitVec.ofInt 64 (n : Int)).toNat = n := by
    rw [BitVec.toNat_ofInt]; simp; omega
  have e2 : (BitVec.ofInt 64 1).toNat = 1 := by decide
  have e3 : (BitVec.ofInt 64 (n : Int) &&& BitVec.ofInt 64 1).toNat = n % 2 := by
    rw [BitVec.toNat_and, e1, e2]
    simp
  show IntKind.i64.wrap (((BitVec.ofInt 64 (n : Int) &&& BitVec.ofInt 64 1).toNat : Nat) : Int) = _
  rw [e3, wrap_i64 (by omega) (by omega)]
def PW (v n : Nat) : Int := ((v ^ n : Nat) : Int)
theorem PW_0 {v : Nat} : PW v 0 = 1 := rfl
theorem PW_1 {v : Nat} : PW v 1 = v := by unfold PW; rw [Nat.pow_one]
theorem PW_nn {v n : Nat} : 0 ≤ PW v n := Int.natCast_nonneg _
theorem PW_pos {v n : Nat} (hv : 2 ≤ v) : PW v n ≠ 0 := by
  have := Nat.pow_pos (n := n) (show 0 < v by omega)
  unfold PW; omega
theorem PW_add {v m n : Nat} : PW v m * PW v n = PW v (m + n) := by
  unfold PW; rw [← Int.natCast_mul, Nat.pow_add]
theorem PW_sq {v m : Nat} : vl (lm (PW v m)) * vl (lm (PW v m)) = PW v (2 * m) := by
  rw [vl_lm PW_nn, PW_add]; congr 1; omega
theorem PW_s {v m : Nat} : vl (lm (PW v m)) * vl (lm (v : Int)) = PW v (m + 1) := by
  rw [vl_lm PW_nn, vl_lm (Int.natCast_nonneg _), ← PW_1 (v := v), PW_add]
theorem PW_mono {v m n : Nat} (hv : 2 ≤ v) (h : m ≤ n) : lenV (PW v m) ≤ lenV (PW v n) := by
  refine lenV_mono ?_
  unfold PW
  rw [Int.natAbs_natCast, Int.natAbs_natCast]
  exact Nat.pow_le_pow_right (by omega) h
theorem errL_fit {x : Int} {r : List Int} {e : Int} (h : ErrL x r e) (hx : lenV x ≤ 67108864) : r = lm x ∧ e = 0 := by
  rcases h with ⟨h, h2, _⟩ | ⟨_, _, h⟩
  · exact ⟨h2, h⟩
  · omega
theorem lenV_ge {x : Int} {k : Nat} (h : 2 ^ k ≤ x.natAbs) : k + 1 ≤ lenV x := by
  unfold lenV
  rcases Nat.lt_or_ge (nbits x.natAbs) (k + 1) with h1 | h1
  · have := nbits_le.1 (show nbits x.natAbs ≤ k by omega)
    omega
  · exact h1
theorem lenV_pw {x : Int} (h : x ≠ 0) : 2 ^ (lenV x - 1) ≤ x.natAbs := by
  rcases Nat.lt_or_ge x.natAbs (2 ^ (lenV x - 1)) with h1 | h1
  · have h2 := nbits_le.2 h1
    have h3 : nbits x.natAbs = lenV x := rfl
    have h4 : 0 < lenV x := nbits_pos (by omega)
    omega
  · exact h1
theorem lenV_2 {v : Nat} (hv : 2 ≤ v) : 2 ≤ lenV (v : Int) := lenV_ge (k := 1) (by rw [Int.natAbs_natCast]; exact hv)
theorem PW_len {v n : Nat} (hv : 2 ≤ v) : (lenV (v : Int) - 1) * n + 1 ≤ lenV (PW v n) := by
  refine lenV_ge ?_
  have h := lenV_pw (x := (v : Int)) (by omega)
  rw [Int.natAbs_natCast] at h
  unfold PW
  rw [Int.natAbs_natCast, Nat.pow_mul]
  exact Nat.pow_le_pow_left h n
theorem PW_n {v n : Nat} (hv : 2 ≤ v) : n + 1 ≤ lenV (PW v n) := by
  have h1 := PW_len (n := n) hv
  have h2 := lenV_2 hv
  have h3 : 1 * n ≤ (lenV (v : Int) - 1) * n := Nat.mul_le_mul_right n (by omega)
  omega
theorem lenV_digK {b n K : Nat} {x : Int} (hb : b ≤ 36) (hb0 : 2 ≤ b) (h0 : 0 ≤ x) (hx : x ≤ PW b n) (hK : 6 * n < K) : lenV x ≤ K := by
  refine nbits_le.2 ?_
  have h1 : b ^ n ≤ 2 ^ (6 * n) := by
    rw [Nat.pow_mul]
    exact Nat.pow_le_pow_left (by omega) n
  have h4 : x.natAbs ≤ b ^ n := by unfold PW at hx; omega
  exact Nat.lt_of_le_of_lt (Nat.le_trans h4 h1) (Nat.pow_lt_pow_right (by decide) hK)
theorem lenV_dig {b n : Nat} {x : Int} (hb : b ≤ 36) (hb0 : 2 ≤ b) (h0 : 0 ≤ x) (hx : x ≤ PW b n) (hn : n ≤ 2097152) : lenV x ≤ 16777216 := lenV_digK hb hb0 h0 hx (by omega)
theorem PW_fit {b n : Nat} (hb : b ≤ 36) (hb0 : 2 ≤ b) (hn : n ≤ 2097152) : lenV (PW b n) ≤ 16777216 := lenV_dig hb hb0 PW_nn (Int.le_refl _) hn
theorem hv_fit {b : Nat} {l : List Int} (hb : b ≤ 36) (hb0 : 2 ≤ b) (hr : rng b l) (hl : l.length ≤ 2097152) : lenV (hv b l) ≤ 16777216 := by
  refine lenV_dig (n := l.length) hb hb0 (hv_nonneg hr) ?_ hl
  have h := hv_lt hr
  rw [show (b : Int) ^ l.length = PW b l.length by unfold PW; simp] at h
  omega
theorem hv_split {b k : Nat} (l : List Int) (hk : k ≤ l.length) : hv b l = hv b (l.take (l.length - k)) * PW b k + hv b (l.drop (l.length - k)) := by
  have h := hv_app (b := b) (l.take (l.length - k)) (l.drop (l.length - k))
  rw [List.take_append_drop, List.length_drop, show l.length - (l.length - k) = k by omega] at h
  rw [h, show (b : Int) ^ k = PW b k by unfold PW; simp]
def cF (b n : Nat) : V := .n false .u64 (lm (PW b n))

theorem rOf_v {l : List Int} (hu : u64s l) : trm (dig l) = digs B32 (vl l).toNat := by
  rw [trm_dig (s := false) hu rfl]
  show digs 4294967296 (vl l).natAbs = digs 4294967296 (vl l).toNat
  have := vl_nonneg hu
  rw [show (vl l).natAbs = (vl l).toNat by omega]
theorem rInt_v {v : Nat} (h : v < 18446744073709551616) : trm (dig [(v : Int)]) = digs B32 v := by
  rw [rOf_v (fun x hx => by simp at hx; subst hx; omega), show (vl [(v : Int)]).toNat = v by simp [vl]]
theorem digs_dg {v : Int} (h : 0 ≤ v) : digs B32 v.toNat = dg v := by
  show digs 4294967296 v.toNat = digs 4294967296 v.natAbs
  rw [show v.natAbs = v.toNat by omega]
theorem digs_le_32 {b x n : Nat} (hb : 2 ≤ b) (h : x < 2 ^ n) : (digs b x).length ≤ n := digs_len hb n x (Nat.lt_of_lt_of_le h (Nat.pow_le_pow_left hb n))

def padZ (l : List Int) (j : Nat) : List Int := List.replicate j 0 ++ l
def zfill (m i : Nat) : List Int := List.replicate i 48 ++ List.replicate (m - i) 0
theorem bytesI_ext (s : ByteArray) (l h : Nat) : ((bytesI s).take h).drop l = bytesI (s.extract l h) := by
  unfold bytesI
  rw [ByteArray.data_extract, Array.toList_extract, ← List.map_take, ← List.map_drop, List.extract_eq_take_drop, List.drop_take]
def ptx (s : ByteArray) (k : Nat) : ByteArray := s.extract 0 (s.size - k) ++ ⟨#[46]⟩ ++ s.extract (s.size - k) s.size

theorem hv_lead {b : Nat} {l : List Int} (hb : 2 ≤ b) (hr : rng b l) (h0 : l.getD 0 0 ≠ 0) : PW b (l.length - 1) ≤ hv b l := by
  cases l with
  | nil => exact absurd rfl h0
  | cons x l =>
    rw [hv_cons]
    have hx := hr x (List.mem_cons_self ..)
    have h1 : x ≠ 0 := h0
    have h2 := hv_nonneg (b := b) (l := l) fun y hy => hr y (List.mem_cons_of_mem _ hy)
    have h3 : (0 : Int) < (b : Int) ^ l.length := Int.pow_pos (by omega)
    have h4 : 1 * (b : Int) ^ l.length ≤ x * (b : Int) ^ l.length := Int.mul_le_mul_of_nonneg_right (by omega) (by omega)
    show PW b l.length ≤ _
    unfold PW
    rw [Int.natCast_pow]
    omega
theorem PW_small {b n : Nat} (hb : b ≤ 36) (hb0 : 2 ≤ b) (hn : n ≤ 2097152) : lenV (PW b n) ≤ 67108864 := Nat.le_trans (PW_fit hb hb0 hn) (by decide)
theorem lead_len {b : Nat} {l : List Int} (hb : 2 ≤ b) (hr : rng b l) (hf : lenV (hv b l) ≤ 67108864) (hd : l.length = 0 ∨ l.getD 0 0 ≠ 0) : l.length ≤ 67108864 := by
  rcases hd with h | h
  · omega
  · have h1 := hv_lead hb hr h
    have h2 := PW_n (n := l.length - 1) hb
    have h3 : lenV (PW b (l.length - 1)) ≤ lenV (hv b l) := lenV_mono (by have := PW_nn (v := b) (n := l.length - 1); omega)
    omega
theorem lead_fit {b : Nat} {l : List Int} (hb : 2 ≤ b) (hb2 : b ≤ 36) (hr : rng b l) (hf : lenV (hv b l) ≤ 67108864) (hd : l.length = 0 ∨ l.getD 0 0 ≠ 0) : lenV (PW b ((l.length + 1) / 2)) ≤ 67108864 := by
  by_cases h1 : l.length ≤ 1
  · exact PW_small hb2 hb (by omega)
  · have h2 : l.getD 0 0 ≠ 0 := hd.resolve_left (by omega)
    have h3 := hv_lead hb hr h2
    refine Nat.le_trans (PW_mono hb (m := (l.length + 1) / 2) (n := l.length - 1) (by omega)) (Nat.le_trans (lenV_mono ?_) hf)
    have := PW_nn (v := b) (n := l.length - 1)
    omega
theorem half_fit {b : Nat} {l : List Int} {k : Nat} (hb : 2 ≤ b) (hr : rng b l) (hk : k ≤ l.length) (hf : lenV (hv b l) ≤ 67108864) :
    lenV (hv b (l.take (l.length - k))) ≤ 67108864 ∧ lenV (hv b (l.drop (l.length - k))) ≤ 67108864 ∧ lenV (hv b (l.take (l.length - k)) * PW b k) ≤ 67108864 := by
  have h1 := hv_split (b := b) (k := k) l hk
  have h2 := hv_nonneg (rng_take hr (l.length - k))
  have h3 := hv_nonneg (rng_drop hr (l.length - k))
  have h4 := PW_nn (v := b) (n := k)
  have h5 := PW_pos (v := b) (n := k) hb
  have h6 : hv b (l.take (l.length - k)) * 1 ≤ hv b (l.take (l.length - k)) * PW b k := Int.mul_le_mul_of_nonneg_left (by omega) h2
  exact ⟨Nat.le_trans (lenV_mono (by omega)) hf, Nat.le_trans (lenV_mono (by omega)) hf, Nat.le_trans (lenV_mono (by omega)) hf⟩
theorem rng_getD' {b i : Nat} {l : List Int} (hr : rng b l) (h : i < l.length) : 0 < b := by
  have := hr _ (List.getElem_mem h)
  omega
theorem digs_lenV {x : Int} (h0 : 0 ≤ x) : (digs B32 x.toNat).length ≤ lenV x := by
  have h := nbits_le.1 (Nat.le_refl (lenV x))
  exact digs_le_32 (by decide) (Nat.lt_of_le_of_lt (by omega) h)
theorem hv_nat {b i : Nat} {l : List Int} (hr : rng b l) (h : i < l.length) : (hv b (l.take (i + 1))).toNat = (hv b (l.take i)).toNat * b + (l.getD i 0).toNat := by
  have h1 := hv_step (b := b) h
  have h2 := hv_nonneg (rng_take hr i)
  have hb : 0 < b := rng_getD' hr h
  have h3 := (rng_getD hb hr i).1
  rw [h1]
  obtain ⟨x, hx⟩ := Int.eq_ofNat_of_zero_le h2
  obtain ⟨y, hy⟩ := Int.eq_ofNat_of_zero_le h3
  rw [hx, hy]
  rw [← Int.natCast_mul, ← Int.natCast_add]
  rfl

def wtxt (v : Int) : ByteArray := if v < 0 then (⟨#[45]⟩ : ByteArray) ++ txt (hdg 10 1 v.natAbs) else txt (hdg 10 1 v.natAbs)
theorem dgv_10 {c : Int} (h0 : 0 ≤ c) (h1 : c < 256) (h : dgv c < 10) : 48 ≤ c ∧ c ≤ 57 := by
  unfold dgv at h
  split at h
  · assumption
  · split at h <;> omega
theorem dgv_of10 {c : Int} (h0 : 48 ≤ c) (h : c ≤ 57) : dgv c = c - 48 := by unfold dgv; rw [if_pos ⟨h0, h⟩]

def dgm (b : Nat) (s : ByteArray) : List Int := (dgs s).map fun d => if d < (b : Int) then d else -1

def tab10 : ByteArray := ⟨#[48, 49, 50, 51, 52, 53, 54, 55, 56, 57]⟩

def nwt (a x n : Nat) : Nat := (n * x + a / x ^ n) / (n + 1)
structure RootIs (a k r : Nat) : Prop where
  le : r ^ k ≤ a
  lt : a < (r + 1) ^ k
def twoL (n : Nat) : List Int := List.replicate (n / 64) 0 ++ [((2 ^ (n % 64) : Nat) : Int), 0]
def twoS (n i : Nat) : List Int := if i = 0 then List.replicate (n / 64 + 2) 0 else twoL n

def smallB (K : Nat) (rows : List (List Int)) : Bool := rows.all fun l => decide (lenV (vl l) ≤ K)
theorem rn_nt {x y : Nat} : rn (x : Int) (y : Int) = ((x % y : Nat) : Int) := by
  unfold rn
  rw [Int.natAbs_natCast, Int.natAbs_natCast]
  rfl
theorem gcd_step {x y : Nat} : Nat.gcd y (x % y) = Nat.gcd x y := by
  rw [Nat.gcd_comm y, ← Nat.gcd_rec, Nat.gcd_comm]

def Rw (l : List Int) (x : Nat) : Prop := u64s l ∧ vl l = (x : Int) ∧ l.length ≤ 1048576
theorem Rw.v {l : List Int} {x : Nat} (h : Rw l x) : vl l = (x : Int) := h.2.1
theorem Rw.l {l : List Int} {x : Nat} (h : Rw l x) : l.length ≤ 1048576 := h.2.2
theorem Rw.t {l : List Int} {x : Nat} (h : Rw l x) : trm l = lm (x : Int) := trm_lm h.1 h.2.1
theorem Rw.b {l : List Int} {x : Nat} (h : Rw l x) : lenV (x : Int) ≤ 67108864 := by
  have h1 := lenV_64 (s := false) h.1
  rw [show sv false l = (x : Int) from h.2.1] at h1
  have := h.2.2
  omega
theorem Rw.of {x : Nat} (h : lenV (x : Int) ≤ 67108864) : Rw (lm (x : Int)) x := ⟨lm_u _, by rw [lm_v, Int.natAbs_natCast], lenV_lm h⟩
theorem lenV_nat {x y : Nat} (h : x ≤ y) : lenV (x : Int) ≤ lenV (y : Int) := lenV_mono (by omega)
theorem lm_len0 {x : Nat} : (lm (x : Int)).length = 0 ↔ x = 0 := by
  constructor
  · intro h
    refine Decidable.byContradiction fun hx => ?_
    exact lm_ne (show (x : Int) ≠ 0 by omega) (List.eq_nil_of_length_eq_zero h)
  · rintro rfl; rw [show ((0 : Nat) : Int) = 0 from rfl, lm_0]; rfl
theorem lm_1n : lm ((1 : Nat) : Int) = [1] := by rw [← fl_lm (v := ((1 : Nat) : Int)) (by decide) (by decide)]; rfl
def rn0 (x y : Nat) : Nat := x / Nat.gcd x y
def rd0 (x y : Nat) : Nat := y / Nat.gcd x y
def sgq (s : Bool) (x : Nat) : Bool := s && decide (x ≠ 0)
theorem gcd_pos' {x y : Nat} (hy : y ≠ 0) : 0 < Nat.gcd x y := Nat.gcd_pos_of_pos_right _ (by omega)
theorem rn0_le {x y : Nat} : rn0 x y ≤ x := Nat.div_le_self _ _
theorem rd0_le {x y : Nat} : rd0 x y ≤ y := Nat.div_le_self _ _
theorem rd0_pos {x y : Nat} (hy : y ≠ 0) : 0 < rd0 x y := Nat.div_pos (Nat.le_of_dvd (by omega) (Nat.gcd_dvd_right _ _)) (gcd_pos' hy)
theorem rn0_mul {x y : Nat} : rn0 x y * Nat.gcd x y = x := Nat.div_mul_cancel (Nat.gcd_dvd_left _ _)
theorem rd0_mul {x y : Nat} : rd0 x y * Nat.gcd x y = y := Nat.div_mul_cancel (Nat.gcd_dvd_right _ _)
theorem rn0_0 {y : Nat} : rn0 0 y = 0 := by unfold rn0; exact Nat.zero_div _
theorem rd0_0 {y : Nat} (hy : y ≠ 0) : rd0 0 y = 1 := by unfold rd0; rw [Nat.gcd_zero_left]; exact Nat.div_self (by omega)
theorem rn0_cop {x y : Nat} (hy : y ≠ 0) : Nat.gcd (rn0 x y) (rd0 x y) = 1 := by
  have h := Nat.gcd_mul_right (rn0 x y) (Nat.gcd x y) (rd0 x y)
  rw [rn0_mul, rd0_mul] at h
  have h1 := gcd_pos' (x := x) hy
  have h2 : Nat.gcd (rn0 x y) (rd0 x y) * Nat.gcd x y = 1 * Nat.gcd x y := by omega
  exact Nat.eq_of_mul_eq_mul_right h1 h2
theorem rn0_b {x y L : Nat} (h : lenV (x : Int) ≤ L) : lenV ((rn0 x y : Nat) : Int) ≤ L := Nat.le_trans (lenV_nat rn0_le) h
theorem rd0_b {x y L : Nat} (h : lenV (y : Int) ≤ L) : lenV ((rd0 x y : Nat) : Int) ≤ L := Nat.le_trans (lenV_nat rd0_le) h
theorem gcd_b {x y L : Nat} (hy : y ≠ 0) (h : lenV (y : Int) ≤ L) : lenV ((Nat.gcd x y : Nat) : Int) ≤ L := Nat.le_trans (lenV_nat (Nat.le_of_dvd (by omega) (Nat.gcd_dvd_right _ _))) h

theorem sgq_0 {s : Bool} : sgq s 0 = false := by cases s <;> rfl
theorem sgq_p {s : Bool} {x : Nat} (h : x ≠ 0) : sgq s x = s := by unfold sgq; rw [decide_eq_true h, Bool.and_true]
theorem lm_1w {v : Nat} (h0 : 0 < v) (h : v < 18446744073709551616) : lm ((v : Nat) : Int) = [(v : Int)] := by rw [← fl_lm (by omega) (by omega), if_neg (by omega)]
theorem rw_1 {v : Nat} (h0 : 0 < v) (h : v < 18446744073709551616) : Rw [(v : Int)] v := ⟨fun x hx => (by rw [List.mem_singleton] at hx; omega), (by show (v : Int) + Bs * 0 = _; omega), (by show 1 ≤ _; decide)⟩
def rtV (r : Bool × List Int × List Int) : List V := [.b r.1, .n false .u64 r.2.1, .n false .u64 r.2.2]
def rtsV (rs : List (Bool × List Int × List Int)) : List (List V) := rs.map rtV
def rat0 (rs : List (Bool × List Int × List Int)) (i : Nat) : Bool × List Int × List Int := rs.getD i (false, [], [])
def lkO (tg : TypeId) (rs : List (Bool × List Int × List Int)) : Out := if rs.all (fun r => decide (vl r.2.2 ≠ 0)) then .ret (.t []) else .pan (gave tg 70 false)
def ntx (x : Nat) : ByteArray := txt (hdg 10 1 x)
def rtx1 (s : Bool) (x : Nat) : ByteArray := if s then (⟨#[45]⟩ : ByteArray) ++ ntx x else ntx x
def rtx (s : Bool) (x y : Nat) : ByteArray := if y = 1 then rtx1 s x else rtx1 s x ++ ((⟨#[47]⟩ : ByteArray) ++ ntx y)

theorem low_uniq {a b c d : Nat} (h1 : Nat.gcd a b = 1) (h2 : Nat.gcd c d = 1) (hb : b ≠ 0) (hd : d ≠ 0) (h : a * d = c * b) : a = c ∧ b = d := by
  have e1 : b ∣ d := by
    have hc : Nat.Coprime b a := by rw [Nat.coprime_comm]; exact h1
    exact hc.dvd_of_dvd_mul_left (h ▸ Nat.dvd_mul_left b c)
  have e2 : d ∣ b := by
    have hc : Nat.Coprime d c := by rw [Nat.coprime_comm]; exact h2
    exact hc.dvd_of_dvd_mul_left (h ▸ Nat.dvd_mul_left d a)
  have e := Nat.dvd_antisymm e1 e2
  subst e
  exact ⟨Nat.eq_of_mul_eq_mul_right (Nat.pos_of_ne_zero hb) h, rfl⟩
def nn (z : Int) (Y : Nat) : Nat := rn0 z.natAbs Y
def dd (z : Int) (Y : Nat) : Nat := rd0 z.natAbs Y
theorem low_of {a b : Nat} {z : Int} {Y : Nat} (h1 : Nat.gcd a b = 1) (hb : b ≠ 0) (hY : Y ≠ 0) (h : a * Y = z.natAbs * b) : a = nn z Y ∧ b = dd z Y := by
  refine low_uniq h1 (rn0_cop hY) hb (Nat.pos_iff_ne_zero.1 (rd0_pos hY)) ?_
  have e1 : nn z Y * Nat.gcd z.natAbs Y = z.natAbs := @rn0_mul z.natAbs Y
  have e2 : dd z Y * Nat.gcd z.natAbs Y = Y := @rd0_mul z.natAbs Y
  have hg := gcd_pos' (x := z.natAbs) hY
  refine Nat.eq_of_mul_eq_mul_right hg ?_
  show a * dd z Y * _ = nn z Y * b * _
  rw [Nat.mul_assoc, e2, h, Nat.mul_right_comm, e1]
theorem zs_neg {s : Bool} {x : Nat} : decide (zs s x < 0) = sgq s x := by
  unfold zs sgq
  cases s
  · simp
  · by_cases h : x = 0
    · subst h; rfl
    · rw [if_pos rfl, decide_eq_true h, Bool.true_and]; exact decide_eq_true (by omega)
def Qe (s : Bool) (x y : Nat) (z : Int) (Y : Nat) : Prop := y ≠ 0 ∧ Y ≠ 0 ∧ zs s x * (Y : Int) = z * (y : Int)
theorem Qe.abs {s : Bool} {x y : Nat} {z : Int} {Y : Nat} (h : Qe s x y z Y) : x * Y = z.natAbs * y := by
  have := congrArg Int.natAbs h.2.2
  rwa [Int.natAbs_mul, Int.natAbs_mul, Int.natAbs_natCast, Int.natAbs_natCast, zs_abs] at this
theorem Qe.sgn {s : Bool} {x y : Nat} {z : Int} {Y : Nat} (h : Qe s x y z Y) : sgq s x = decide (z < 0) := by
  rw [← zs_neg, decide_eq_decide]
  have h1 : (0 : Int) < (y : Int) := by have := h.1; omega
  have h2 : (0 : Int) < (Y : Int) := by have := h.2.1; omega
  have h3 := h.2.2
  constructor
  · intro h4
    have : zs s x * (Y : Int) < 0 := Int.mul_neg_of_neg_of_pos h4 h2
    rw [h3] at this
    exact Int.not_le.1 fun h5 => absurd (Int.mul_nonneg h5 (Int.le_of_lt h1)) (by omega)
  · intro h4
    have : z * (y : Int) < 0 := Int.mul_neg_of_neg_of_pos h4 h1
    rw [← h3] at this
    exact Int.not_le.1 fun h5 => absurd (Int.mul_nonneg h5 (Int.le_of_lt h2)) (by omega)
theorem Qe.low {s : Bool} {x y : Nat} {z : Int} {Y : Nat} (h : Qe s x y z Y) : rn0 x y = nn z Y ∧ rd0 x y = dd z Y := by
  refine low_of (rn0_cop h.1) (Nat.pos_iff_ne_zero.1 (rd0_pos h.1)) h.2.1 ?_
  have hg := gcd_pos' (x := x) h.1
  refine Nat.eq_of_mul_eq_mul_right hg ?_
  rw [Nat.mul_right_comm, rn0_mul, Nat.mul_assoc, rd0_mul, h.abs]

def cN (a b c d : Nat) : Int := cmpI ((a * d : Nat) : Int) ((c * b : Nat) : Int)

structure Qr (s : Bool) (l d : List Int) (x y : Nat) (z : Int) (Y b : Nat) : Prop where
  hx : Rw l x
  hy : Rw d y
  q : Qe s x y z Y
  bx : lenV (x : Int) ≤ b
  bd : lenV (y : Int) ≤ b
  bz : lenV z ≤ b
  bY : lenV (Y : Int) ≤ b
variable {s t : Bool} {l d l2 d2 : List Int} {x y x2 y2 : Nat} {z w : Int} {Y X b c : Nat}
def okR (r : Bool × List Int × List Int) : Prop := vl r.2.2 ≠ 0 ∧ lenV (vl r.2.2) ≤ 1048576 ∧ lenV (vl r.2.1) ≤ 1048576
instance (r : Bool × List Int × List Int) : Decidable (okR r) := by unfold okR; exact inferInstance
def smallQ (rs : List (Bool × List Int × List Int)) : Bool := rs.all fun r => decide (okR r)
end Go.Proofs.Ytpldmajdiljoaaa.Vc

namespace Go.Proofs.Ytpldmajdiljoaaa.Vc
open Go Go.RowKit


theorem caughtR_0 (a b c ue : Value) (ha : a.oneCell' = true) (hb : b.oneCell' = true) (hc : c.oneCell' = true) (hu : ue.oneCell' = true) : Spec Try.prog 43 [.c .nilIface, .a [.c a, .c b, .c c], .c ue] (fun o => o = .ret (.t [.a [.c a, .c b, .c c], .c ue])) := by
  refine spec_of' [(0, .c .nilIface), (1, .a [.c a, .c b, .c c]), (2, .c ue)] rfl Try.func43 rfl (zlb rfl) fun Γ hN hds hL hR => ?_
  have hd := hdOf 26 hN
  refine zsr <| jo_h (hy_box (id := 0) (n := 3) rfl (one_c3V ha hb hc) rfl (by decide) rfl) (hd 4 rfl) <| jo_h (hy_alloc (id := 1) zero1028 (by decide) rfl (by decide) rfl) (hd 6 rfl) <| zas rfl (hd 7 rfl) <| jo_nil <| jc_seq <| zsr <| zmv rfl (hd 11 rfl) <| jo_l (ly_eqi0 undI20 rfl) (hd 12 rfl) <| jo_nil <| jc_litt rfl ?_; refine zsr <| jo_l (ly_lda agg1028 rfl rfl rfl rfl) (hd 13 rfl) <| zmv rfl (hd 14 rfl) <| jo_st (sy_store rfl rfl rfl siz1028 rfl (one_c3 ha hb hc) (zlb rfl)) <| zas rfl (hd 7 rfl) <| jo_nil <| jc_ret ?_
  refine ⟨_, _, (.cons (ResV.cell agg1028 rfl rfl rfl rfl) (.cons rfl .nil)), (.t1 (.a1 .c (.a1 .c (.a1 .c .a0))) (.t1 .c .t0)), ?_⟩
  exact rfl

theorem caughtR_1 (a b c ue : Value) (ha : a.oneCell' = true) (hb : b.oneCell' = true) (hc : c.oneCell' = true) (hu : ue.oneCell' = true) (e : Int) : Spec Try.prog 43 [.c (.iface 126 (.agg #[.int .i64 e])), .a [.c a, .c b, .c c], .c ue] (fun o => o = .ret (.t [(.a [.b false, .n false .u64 [], .n false .u64 []]), .i .i64 e])) := by
  refine spec_of' [(0, .c (.iface 126 (.agg #[.int .i64 e]))), (1, .a [.c a, .c b, .c c]), (2, .c ue)] rfl Try.func43 rfl (zlb rfl) fun Γ hN hds hL hR => ?_
  have hd := hdOf 26 hN
  refine zsr <| jo_h (hy_box (id := 0) (n := 3) rfl (one_c3V ha hb hc) rfl (by decide) rfl) (hd 4 rfl) <| jo_h (hy_alloc (id := 1) zero1028 (by decide) rfl (by decide) rfl) (hd 6 rfl) <| zas rfl (hd 7 rfl) <| jo_nil <| jc_seq <| zsr <| zmv rfl (hd 11 rfl) <| jo_l (ly_eqi1 undI20 rfl) (hd 12 rfl) <| jo_nil <| jc_litf rfl ?_; refine jc_skip <| zsr <| zmv rfl (hd 16 rfl) <| jo_l (ly_ta ndi1126 rfl) (hd 17 rfl) <| zmv rfl (hd 15 rfl) <| jo_l (ly_ext rfl rfl) (hd 18 rfl) <| jo_l (ly_ext rfl rfl) (hd 19 rfl) <| jo_h (hy_alloc (id := 2) zero1126 (by decide) rfl (by decide) rfl) (hd 8 rfl) <| jo_st (sy_store rfl rfl rfl siz1126 rfl rfl (zlb rfl)) <| zas rfl (hd 9 rfl) <| jo_nil <| jc_seq ?_; refine zsr <| zmv rfl (hd 20 rfl) <| jo_l (ly_not rfl) (hd 21 rfl) <| jo_nil <| jc_litf rfl <| jc_skip <| zsr <| jo_h (hy_alloc (id := 3) zero1028 (by decide) rfl (by decide) rfl) (hd 10 rfl) <| jo_nil <| jc_seq <| jc_draw (n := 5) _ rfl mixed ?_; refine zal 0 (lo_l (ly_lda agg1028 rfl rfl rfl rfl) (hd 23 rfl)) rfl ?_
  refine ja_2 1 3 ?_ ?_ rfl rfl (by kernel_rfl)
  · refine js_l (ly_fa fld1126_0 rfl rfl rfl) (hd 24 rfl) ?_
    refine ja_2 2 3 ?_ ?_ rfl rfl (by kernel_rfl)
    · refine js_l (ly_ld one23 rfl rfl rfl) (hd 25 rfl) ?_
      refine ja_1 3 ?_ rfl (by kernel_rfl)
      refine js_st (sy_store rfl rfl rfl siz1028 rfl rfl (zlb rfl)) rfl <| zal 4 (lo_l (ly_as rfl) (hd 7 rfl)) rfl <| ja_nil (by kernel_rfl) <| jc_ret ?_
      refine ⟨_, _, (.cons (ResV.cell agg1028 rfl rfl rfl rfl) (.cons rfl .nil)), (.t1 (.a1 .b (.a1 (.nil (fr := false) (k := .u64)) (.a1 (.nil (fr := false) (k := .u64)) .a0))) (.t1 .i .t0)), ?_⟩
      exact rfl
    · refine js_st (sy_store rfl rfl rfl siz1028 rfl rfl (zlb rfl)) rfl <| zal 2 (lo_l (ly_ld one23 rfl rfl rfl) (hd 25 rfl)) rfl <| zal 4 (lo_l (ly_as rfl) (hd 7 rfl)) rfl <| ja_nil (by kernel_rfl) <| jc_ret ?_
      refine ⟨_, _, (.cons (ResV.cell agg1028 rfl rfl rfl rfl) (.cons rfl .nil)), (.t1 (.a1 .b (.a1 (.nil (fr := false) (k := .u64)) (.a1 (.nil (fr := false) (k := .u64)) .a0))) (.t1 .i .t0)), ?_⟩
      exact rfl
  · refine js_st (sy_store rfl rfl rfl siz1028 rfl rfl (zlb rfl)) rfl <| zal 1 (lo_l (ly_fa fld1126_0 rfl rfl rfl) (hd 24 rfl)) rfl <| zal 2 (lo_l (ly_ld one23 rfl rfl rfl) (hd 25 rfl)) rfl <| zal 4 (lo_l (ly_as rfl) (hd 7 rfl)) rfl <| ja_nil (by kernel_rfl) <| jc_ret ?_
    refine ⟨_, _, (.cons (ResV.cell agg1028 rfl rfl rfl rfl) (.cons rfl .nil)), (.t1 (.a1 .b (.a1 (.nil (fr := false) (k := .u64)) (.a1 (.nil (fr := false) (k := .u64)) .a0))) (.t1 .i .t0)), ?_⟩
    exact rfl

theorem clo_2354 : Clo Try.prog 73 28 34 3 true 126 (.a [.b false, .n false .u64 [], .n false .u64 []]) where
  shape := ⟨Try.f73, Try.f43, 43, 35, 20, "ratio.go:256", Try.func73, rfl, rfl, rfl, Try.func43, rfl, rfl, fun us ue hl h1 h2 => by
    obtain ⟨a, b, c, rfl⟩ : ∃ a b c, us = [a, b, c] := by
      match us, hl with
      | [a, b, c], _ => exact ⟨a, b, c, rfl⟩
    exact caughtR_0 a b c ue (h1 a (by simp)) (h1 b (by simp)) (h1 c (by simp)) h2, fun us ue e hl h1 h2 => by
    obtain ⟨a, b, c, rfl⟩ : ∃ a b c, us = [a, b, c] := by
      match us, hl with
      | [a, b, c], _ => exact ⟨a, b, c, rfl⟩
    exact caughtR_1 a b c ue (h1 a (by simp)) (h1 b (by simp)) (h1 c (by simp)) h2 e⟩
  hm := mixed
  hld := .inl ⟨rfl, agg1028⟩
  hsz := siz1028
  hle := one23
  hz1 := rfl
  hz2 := rfl
  hz3 := fun _ => rfl


theorem mfits_l (l : List Int) (hl : l.length < 1099511627776) (hu : u64s l) : Spec Try.prog 132 [.n false .u64 l] (fun o => ∃ (r : List Int) (e : Int), o = .ret (.t [.n true .u64 r, .i .i64 e]) ∧ ErrL (vl l) r e) := by
  refine spec_of' [(0, .n false .u64 l)] rfl Try.func132 rfl (zlb rfl) fun Γ hN hds hL hR => ?_
  have hd := hdOf 10 hN
  have hm := trm_len l
  refine zsr <| zas rfl (hd 2 rfl) <| zas rfl (hd 3 rfl) <| jo_nil <| zsr <| zmv rfl (hd 4 rfl) ?_
  refine jo_call Try.f71 (Norm_s l hl) rfl Try.func71 rfl rfl (ovL_cons rfl ovL_nil) (.cons .n .nil) (hd 5 rfl) ?_ (fun ch hp => by simp at hp)
  rintro _ ⟨⟩; refine zas rfl (hd 0 rfl) <| jo_nil <| jc_seq <| zsr <| zmv rfl (hd 6 rfl) ?_
  refine jo_call Try.f66 (Length_s (trm l) (by omega) (u64s_trm hu)) rfl Try.func66 rfl rfl (ovL_cons rfl ovL_nil) (.cons .n .nil) (hd 7 rfl) ?_ (fun ch hp => by simp at hp)
  rintro _ ⟨⟩; refine jo_l (ly_gt rfl rfl) (hd 8 rfl) <| jo_nil ?_
  refine jc_if rfl (fun h1 => ?_) (fun h1 => ?_)
  · refine zsr <| zas rfl (hd 2 rfl) <| zas rfl (hd 3 rfl) <| jo_nil <| jc_ret ?_
    refine ⟨_, _, (.cons rfl (.cons rfl .nil)), (.t1 (.nil (fr := true) (k := .u64)) (.t1 .i .t0)), ?_⟩
    exact ⟨[], 3, rfl, errL_big hu rfl (by rw [lenN_trm] at *; omega)⟩
  · refine jc_skip <| zsr <| zmv rfl (hd 9 rfl) <| zas rfl (hd 2 rfl) <| zas rfl (hd 3 rfl) <| jo_nil <| jc_ret ?_
    refine ⟨_, _, (.cons rfl (.cons rfl .nil)), (.t1 .n (.t1 .i .t0)), ?_⟩
    exact ⟨_, 0, rfl, errL_ok hu rfl (by rw [lenN_trm] at *; omega)⟩

theorem product_l (a b : List Int) (hla : a.length < 4294967296) (hlb : b.length < 4294967296) (ua : u64s a) (ub : u64s b) : Spec Try.prog 107 [.n false .u64 a, .n false .u64 b, .f 108 []] (fun o => ∃ (r : List Int) (e : Int), o = .ret (.t [.n true .u64 r, .i .i64 e]) ∧ ErrL (vl a * vl b) r e) := by
  refine spec_of' [(0, .n false .u64 a), (1, .n false .u64 b), (2, .f 108 [])] rfl Try.func107 rfl (zlb rfl) fun Γ hN hds hL hR => ?_
  have hd := hdOf 22 hN
  have hma := trm_len a
  have hmb := trm_len b
  refine zsr <| zas rfl (hd 6 rfl) <| zas rfl (hd 7 rfl) <| jo_nil <| zsr <| zmv rfl (hd 8 rfl) ?_
  refine jo_call Try.f71 (Norm_s a (by omega)) rfl Try.func71 rfl rfl (ovL_cons rfl ovL_nil) (.cons .n .nil) (hd 9 rfl) ?_ (fun ch hp => by simp at hp)
  rintro _ ⟨⟩; refine zmv rfl (hd 10 rfl) ?_
  refine jo_call Try.f71 (Norm_s b (by omega)) rfl Try.func71 rfl rfl (ovL_cons rfl ovL_nil) (.cons .n .nil) (hd 11 rfl) ?_ (fun ch hp => by simp at hp)
  rintro _ ⟨⟩; refine zas rfl (hd 0 rfl) <| zas rfl (hd 1 rfl) <| jo_nil <| jc_seq <| zsr <| zmv rfl (hd 12 rfl) <| zmv rfl (hd 13 rfl) ?_
  refine jo_call Try.f131 (great_e (trm a) (trm b) (by omega) (by omega) (u64s_trm ua) (u64s_trm ub)) rfl Try.func131 rfl rfl (ovL_cons rfl (ovL_cons rfl ovL_nil)) (.cons .n (.cons .n .nil)) (hd 14 rfl) ?_ (fun ch hp => by simp at hp)
  rintro y ⟨x, hy, hx⟩; injection hy with hy; subst hy; refine jo_nil ?_
  refine jc_cond rfl (fun h1 => ?_) (fun h1 => ?_)
  · refine zsr <| zas rfl (hd 6 rfl) <| zas rfl (hd 7 rfl) <| jo_nil <| jc_ret ?_
    refine ⟨_, _, (.cons rfl (.cons rfl .nil)), (.t1 (.nil (fr := true) (k := .u64)) (.t1 .i .t0)), ?_⟩
    refine ⟨[], 3, rfl, ?_⟩
    obtain ⟨g1, g2, g3⟩ := hx (by assumption)
    have := errN_great (r := []) (u64s_trm ua) (u64s_trm ub) g1 g2 g3
    rw [vl_trm, vl_trm] at this
    exact errL_of this
  · refine jc_skip <| zsr <| zmv rfl (hd 15 rfl) <| zmv rfl (hd 16 rfl) <| zmv rfl (hd 17 rfl) ?_
    refine jo_call Try.f108 (way_s (trm a) (trm b) (by omega) (by omega) (u64s_trm ua) (u64s_trm ub)) rfl Try.func108 rfl rfl (ovL_cons rfl (ovL_cons rfl ovL_nil)) (.cons .n (.cons .n .nil)) (hd 18 rfl) ?_ (fun ch hp => by simp at hp)
    rintro y ⟨rs, hy, us, ls, vs⟩; injection hy with hy; subst hy
    refine jo_call Try.f132 (mfits_l rs (by omega) us) rfl Try.func132 rfl rfl (ovL_cons rfl ovL_nil) (.cons .n .nil) (hd 19 rfl) ?_ (fun ch hp => by simp at hp)
    rintro y ⟨rf, ef, hy, hf⟩; injection hy with hy; subst hy; refine jo_l (ly_ext rfl rfl) (hd 20 rfl) <| jo_l (ly_ext rfl rfl) (hd 21 rfl) <| zas rfl (hd 6 rfl) <| zas rfl (hd 7 rfl) <| jo_nil <| jc_ret ?_
    refine ⟨_, _, (.cons rfl (.cons rfl .nil)), (.t1 .n (.t1 .i .t0)), ?_⟩
    exact ⟨rf, ef, rfl, by rwa [vs, vl_trm, vl_trm] at hf⟩

theorem Mul_l (a b : List Int) (hla : a.length < 4294967296) (hlb : b.length < 4294967296) (ua : u64s a) (ub : u64s b) : Spec Try.prog 67 [.n false .u64 a, .n false .u64 b] (fun o => ∃ (r : List Int) (e : Int), o = .ret (.t [.n true .u64 r, .i .i64 e]) ∧ ErrL (vl a * vl b) r e) := by
  refine spec_of' [(0, .n false .u64 a), (1, .n false .u64 b)] rfl Try.func67 rfl (zlb rfl) fun Γ hN hds hL hR => ?_
  have hd := hdOf 11 hN
  refine zsr <| zas rfl (hd 4 rfl) <| zas rfl (hd 5 rfl) <| jo_nil <| zsr <| zmv rfl (hd 6 rfl) <| zmv rfl (hd 7 rfl) ?_
  refine jo_call Try.f107 (product_l a b hla hlb ua ub) rfl Try.func107 rfl rfl (ovL_cons rfl (ovL_cons rfl (ovL_cons rfl ovL_nil))) (.cons .n (.cons .n (.cons .f .nil))) (hd 8 rfl) ?_ (fun ch hp => by simp at hp)
  rintro y ⟨rp, ep, hy, hp⟩; injection hy with hy; subst hy; refine jo_l (ly_ext rfl rfl) (hd 9 rfl) <| jo_l (ly_ext rfl rfl) (hd 10 rfl) <| zas rfl (hd 4 rfl) <| zas rfl (hd 5 rfl) <| jo_nil <| jc_ret ?_
  refine ⟨_, _, (.cons rfl (.cons rfl .nil)), (.t1 .n (.t1 .i .t0)), ?_⟩
  exact ⟨rp, ep, rfl, hp⟩

theorem Square_l (a : List Int) (hla : a.length < 67108864) (ua : u64s a) : Spec Try.prog 111 [.n false .u64 a] (fun o => ∃ (r : List Int) (e : Int), o = .ret (.t [.n true .u64 r, .i .i64 e]) ∧ ErrL (vl a * vl a) r e) := by
  refine spec_of' [(0, .n false .u64 a)] rfl Try.func111 rfl (zlb rfl) fun Γ hN hds hL hR => ?_
  have hd := hdOf 9 hN
  refine zsr <| zas rfl (hd 2 rfl) <| zas rfl (hd 3 rfl) <| jo_nil <| zsr <| zmv rfl (hd 4 rfl) <| zmv rfl (hd 5 rfl) ?_
  refine jo_call Try.f67 (Mul_l a a (by omega) (by omega) ua ua) rfl Try.func67 rfl rfl (ovL_cons rfl (ovL_cons rfl ovL_nil)) (.cons .n (.cons .n .nil)) (hd 6 rfl) ?_ (fun ch hp => by simp at hp)
  rintro y ⟨rp, ep, hy, hp⟩; injection hy with hy; subst hy; refine jo_l (ly_ext rfl rfl) (hd 7 rfl) <| jo_l (ly_ext rfl rfl) (hd 8 rfl) <| zas rfl (hd 2 rfl) <| zas rfl (hd 3 rfl) <| jo_nil <| jc_ret ?_
  refine ⟨_, _, (.cons rfl (.cons rfl .nil)), (.t1 .n (.t1 .i .t0)), ?_⟩
  exact ⟨rp, ep, rfl, hp⟩












theorem good_y (b : Nat) (hb : 2 ≤ b) (hb2 : b ≤ 36) : Spec Try.prog 112 [.i .i64 (b : Int)] (fun o => o = .ret (.b true)) := by
  refine spec_of' [(0, .i .i64 (b : Int))] rfl Try.func112 rfl (zlb rfl) fun Γ hN hds hL hR => ?_
  have hd := hdOf 9 hN
  refine zsr <| zas rfl (hd 2 rfl) <| jo_nil <| zsr <| zmv rfl (hd 3 rfl) <| jo_l (ly_tt (ly_ge rfl rfl) (by omega)) (hd 4 rfl) <| zmv rfl (hd 5 rfl) <| jo_g 5 rfl rfl (ly_mv rfl) (hd 6 rfl) <| jo_g 5 rfl rfl (ly_tt (ly_le rfl rfl) (by omega)) (hd 7 rfl) <| jo_l (ly_pick_t rfl rfl) (hd 8 rfl) <| zas rfl (hd 2 rfl) ?_; refine jo_nil <| jc_ret ?_
  refine ⟨_, _, (.cons rfl .nil), .b, ?_⟩
  exact rfl


theorem part_12 (l : List Int) (b : Nat) (ys zs : List V) (hlb : 2 ≤ b) (hb2 : b ≤ 36) (hr : rng b l) (hl : l.length ≤ 12) : Spec Try.prog 140 [.n false .i64 l, .q [.i .i64 (b : Int)], .q ys, .q zs] (fun o => o = .ret (.t [.n false .u64 (lm (hv b l)), .i .i64 0])) := by
  refine spec_of' [(0, .n false .i64 l), (1, .q [.i .i64 (b : Int)]), (2, .q ys), (3, .q zs)] rfl Try.func140 rfl (zlb rfl) fun Γ hN hds hL hR => ?_
  have hd := hdOf 89 hN
  refine zsr <| zas rfl (hd 5 rfl) <| zas rfl (hd 6 rfl) <| jo_nil <| jc_seq <| zsr <| zmv rfl (hd 16 rfl) <| jo_l (ly_lenn sl1140 rfl) (hd 17 rfl) <| jo_l (ly_tt (ly_le rfl rfl) (by omega)) (hd 18 rfl) <| jo_nil <| jc_litt rfl ?_; refine zsr <| zas rfl (hd 7 rfl) <| jo_nil <| jc_seq <| zsr <| zmv rfl (hd 19 rfl) <| jo_l (ly_lenn sl1140 rfl) (hd 20 rfl) <| zmv rfl (hd 21 rfl) <| jo_nil <| jc_block ?_
  refine jc_loopF (G := Nat) (fun i => i ≤ l.length) (fun i => [(7, .i .u64 (hv b (l.take i))), (21, .i .i64 (i : Int)), (9, .u), (22, .u), (23, .u), (24, .u), (25, .u), (26, .u), (27, .u), (28, .u), (29, .u), (30, .u), (31, .u), (32, .u)]) (fun _ => _) (fun i => l.length - i) 0 ?_ ?_ rfl ?_
  · exact Nat.zero_le _
  · exact (.cons rfl (.cons rfl (.u (.u (.u (.u (.u (.u (.u (.u (.u (.u (.u (.u .nil))))))))))))))
  · rintro i hi
    have hrt := rng_take hr i
    have hn0 := hv_nonneg hrt
    have hn1 := hv_12 hb2 hlb hrt (by rw [List.length_take]; omega)
    have hx := rng_getD (by omega) hr i
    refine zsr <| jo_l (ly_lt rfl rfl) (hd 22 rfl) <| jo_nil <| jc_seq ?_
    refine jc_if rfl (fun h2 => ?_) (fun h2 => ?_)
    · have hrm := rng_take hr (i + 1)
      have hm0 := hv_nonneg hrm
      have hm1 := hv_12 hb2 hlb hrm (by rw [List.length_take]; omega)
      have hst := hv_step (b := b) (l := l) (i := i) (by omega)
      refine jc_skip <| jc_seq <| jc_block <| zsr <| jo_l (ly_ian (i := i) sl1140 rfl rfl (by first | rfl | omega) (by omega)) (hd 23 rfl) <| jo_l (ly_ldq one3 rfl rfl) (hd 24 rfl) <| zas rfl (hd 9 rfl) <| jo_nil <| jc_region <| zmv rfl (hd 25 rfl) <| jo_l (ly_ldq one3 rfl rfl) (hd 26 rfl) <| jo_l (ly_conv und3 und82 rfl (r := (b : Int)) (wrap_u64 (by omega) (by omega))) (hd 27 rfl) ?_; refine jo_l (ly_mul rfl rfl (r := (hv b (l.take i)) * b) (wrap_u64 (Int.mul_nonneg hn0 (by omega)) (by omega))) (hd 28 rfl) <| zmv rfl (hd 29 rfl) <| jo_l (ly_conv und3 und82 rfl (r := l.getD i 0) (wrap_u64 hx.1 (by omega))) (hd 30 rfl) <| jo_l (ly_add rfl rfl (r := hv b (l.take (i + 1))) (by rw [← hv_step (by omega)]; exact wrap_u64 hm0 (by omega))) (hd 31 rfl) <| zas rfl (hd 7 rfl) <| jo_nil <| jc_region <| jo_l (ly_add rfl rfl (r := ((i + 1 : Nat) : Int)) (by rw [wrap_i64 (by omega) (by omega)]; omega)) (hd 32 rfl) <| zmv rfl (hd 21 rfl) <| jo_nil ?_
      refine ⟨i + 1, ?_, ?_, rfl, cov_n 28 rfl rfl ?_⟩
      · omega
      · omega
      · exact (.cons rfl (.cons rfl (.u (.u (.u (.u (.u (.u (.u (.u (.u (.u (.u (.u .nil))))))))))))))
    · obtain rfl : i = l.length := by omega
      refine jc_exit <| zsr <| zmv rfl (hd 33 rfl) ?_
      refine jo_call Try.f58 (From_s (hv b (l.take l.length))) rfl Try.func58 rfl rfl (ovL_cons rfl ovL_nil) (.cons .i .nil) (hd 34 rfl) ?_ (fun ch hp => by simp at hp)
      rintro _ ⟨⟩; refine zas rfl (hd 5 rfl) <| zas rfl (hd 6 rfl) <| jo_nil <| jc_ret ?_
      refine ⟨_, _, (.cons rfl (.cons rfl .nil)), (.t1 .nn (.t1 .i .t0)), ?_⟩
      rw [fl_lm hn0 (by omega), List.take_length]




theorem Pow_v (v n : Nat) (hv : 2 ≤ v) (hlv0 : lenV (v : Int) ≤ 67108864) (hf : lenV (PW v n) ≤ 67108864) : Spec Try.prog 75 [.n false .u64 (lm (v : Int)), .i .i64 (n : Int)] (fun o => o = .ret (.t [.n false .u64 (lm (PW v n)), .i .i64 0])) := by
  refine spec_of' [(0, .n false .u64 (lm (v : Int))), (1, .i .i64 (n : Int))] rfl Try.func75 rfl (zlb rfl) fun Γ hN hds hL hR => ?_
  have hd := hdOf 63 hN
  have hF1 : Spec Try.prog 58 [.i .u64 1] (fun o => o = .ret (.n true .u64 (lm (PW v 0)))) := by have h := From_s 1; rwa [show (if (1 : Int) = 0 then [] else [(1 : Int)]) = lm (PW v 0) from by rw [PW_0]; exact fl_lm (by decide) (by decide)] at h
  have hlen := PW_len (n := n) hv
  have hn1 := PW_n (n := n) hv
  have hl2 := lenV_2 hv
  have hlmv := lenV_lm hlv0
  refine zsr <| zas rfl (hd 4 rfl) <| zas rfl (hd 5 rfl) <| jo_nil <| jc_seq <| zsr <| zmv rfl (hd 10 rfl) <| jo_l (ly_ff (ly_lt rfl rfl) (by omega)) (hd 11 rfl) <| jo_nil <| jc_litf rfl <| jc_skip ?_; refine zsr <| zmv rfl (hd 12 rfl) ?_
  refine jo_call Try.f71 (Norm_v (v : Int) (by omega)) rfl Try.func71 rfl rfl (ovL_cons rfl ovL_nil) (.cons .n .nil) (hd 13 rfl) ?_ (fun ch hp => by simp at hp)
  rintro _ ⟨⟩; refine zas rfl (hd 0 rfl) <| jo_nil <| jc_seq <| zsr <| zmv rfl (hd 14 rfl) <| jo_l (ly_eq rfl rfl) (hd 15 rfl) <| jo_nil ?_
  refine jc_if rfl (fun h2 => ?_) (fun h2 => ?_)
  · obtain rfl : n = 0 := by omega
    refine jc_seq <| jc_region ?_
    refine jo_call Try.f58 (hF1) rfl Try.func58 rfl rfl (ovL_cons rfl ovL_nil) (.cons .i .nil) (hd 16 rfl) ?_ (fun ch hp => by simp at hp)
    rintro _ ⟨⟩; refine zas rfl (hd 4 rfl) <| zas rfl (hd 5 rfl) <| jo_nil <| jc_ret ?_
    refine ⟨_, _, (.cons rfl (.cons rfl .nil)), (.t1 .nn (.t1 .i .t0)), ?_⟩
    rfl
  · refine jc_skip <| zsr <| zmv rfl (hd 17 rfl) ?_
    refine jo_call Try.f66 (Length_v (v : Int) (by omega)) rfl Try.func66 rfl rfl (ovL_cons rfl ovL_nil) (.cons .n .nil) (hd 18 rfl) ?_ (fun ch hp => by simp at hp)
    rintro _ ⟨⟩; refine zas rfl (hd 6 rfl) <| jo_nil <| jc_seq <| zsr <| zmv rfl (hd 19 rfl) <| jo_l (ly_ff (ly_le rfl rfl) (by omega)) (hd 20 rfl) <| jo_nil <| jc_litf rfl <| jc_skip <| jc_seq <| jc_seq <| jc_region ?_; refine zmv rfl (hd 22 rfl) <| jo_l (ly_ff (ly_gt rfl rfl) (by omega)) (hd 23 rfl) <| zmv rfl (hd 24 rfl) <| jo_g 24 rfl rfl (ly_mv rfl) (hd 25 rfl) <| jo_g 24 rfl rfl (ly_sub rfl rfl (r := ((lenV (v : Int) - 1 : Nat) : Int)) (by rw [wrap_i64 (by omega) (by omega)]; omega)) (hd 26 rfl) <| jo_g 24 rfl rfl (ly_mv rfl) (hd 27 rfl) <| jo_g 24 rfl rfl (ly_mul rfl rfl (r := (((lenV (v : Int) - 1) * n : Nat) : Int)) (by rw [← Int.natCast_mul]; exact wrap_i64 (by omega) (by omega))) (hd 28 rfl) <| jo_g 24 rfl rfl (ly_add rfl rfl (r := (((lenV (v : Int) - 1) * n + 1 : Nat) : Int)) (by rw [show (((lenV (v : Int) - 1) * n : Nat) : Int) + 1 = (((lenV (v : Int) - 1) * n + 1 : Nat) : Int) from rfl]; exact wrap_i64 (by omega) (by omega))) (hd 29 rfl) <| jo_g 24 rfl rfl (ly_ff (ly_gt rfl rfl) (by omega)) (hd 30 rfl) <| jo_l (ly_pick_f rfl rfl) (hd 31 rfl) <| jo_nil <| jc_litf rfl <| jc_skip ?_; refine jc_seq <| jc_region ?_
    refine jo_call Try.f58 (hF1) rfl Try.func58 rfl rfl (ovL_cons rfl ovL_nil) (.cons .i .nil) (hd 32 rfl) ?_ (fun ch hp => by simp at hp)
    rintro _ ⟨⟩; refine zas rfl (hd 7 rfl) <| jo_nil <| jc_seq <| zsr <| zas rfl (hd 8 rfl) <| jo_nil <| jc_block ?_
    refine jc_loopF (G := Nat) (fun k => k ≤ 63) (fun k => [(7, .n true .u64 (lm (PW v (n / 2 ^ k)))), (8, .i .i64 ((k : Int) - 1)), (4, .u), (5, .u), (9, .u), (33, .u), (34, .u), (35, .u), (36, .u), (37, .u), (38, .u), (39, .u), (40, .u), (41, .u), (42, .u), (43, .u), (44, .u), (45, .u), (46, .u), (47, .u), (48, .u), (49, .u), (50, .u), (51, .u), (52, .u), (53, .u), (54, .u), (55, .u), (56, .u), (57, .u), (58, .u), (59, .u), (60, .u), (61, .u)]) (fun _ => _) (fun k => k) 63 ?_ ?_ rfl ?_
    · exact Nat.le_refl _
    · exact (.cons (by show some (V.n _ _ _) = some (V.n _ _ _); rw [show n / 2 ^ 63 = 0 from Nat.div_eq_of_lt (by omega)]) (.cons rfl (.u (.u (.u (.u (.u (.u (.u (.u (.u (.u (.u (.u (.u (.u (.u (.u (.u (.u (.u (.u (.u (.u (.u (.u (.u (.u (.u (.u (.u (.u (.u (.u .nil))))))))))))))))))))))))))))))))))
    · rintro k hk; refine jc_seq <| zsr <| zmv rfl (hd 33 rfl) <| jo_l (ly_ge rfl rfl) (hd 34 rfl) <| jo_nil ?_
      refine jc_if rfl (fun h5 => ?_) (fun h5 => ?_)
      · have hk0 : 0 < k := by omega
        have hS : 2 * (n / 2 ^ k) ≤ n := by rw [pm_half hk0]; have := Nat.div_le_self n (2 ^ (k - 1)); omega
        have hO := Nat.le_trans (PW_mono (m := (n / 2 ^ k)) hv (by omega)) hf
        have hOl := lenV_lm hO
        have hO2 := Nat.le_trans (PW_mono hv hS) hf
        have hO2l := lenV_lm hO2
        have hone := lm_ne (PW_pos (n := (n / 2 ^ k)) hv)
        refine jc_skip <| jc_seq <| jc_block <| zsr <| zas rfl (hd 9 rfl) <| jo_nil <| jc_seq <| zsr <| zmv rfl (hd 37 rfl) <| jo_l (ly_lenn sl28 rfl) (hd 38 rfl) <| jo_l (ly_tt (ly_gt rfl rfl) (by have := List.length_pos_iff.2 hone; omega)) (hd 39 rfl) ?_; refine jo_nil <| jc_litt rfl <| zsr <| zmv rfl (hd 41 rfl) ?_
        refine jo_call Try.f111 (Square_l (lm (PW v (n / 2 ^ k))) (by omega) (lm_u _)) rfl Try.func111 rfl rfl (ovL_cons rfl ovL_nil) (.cons .n .nil) (hd 42 rfl) ?_ (fun ch hp => by simp at hp)
        rintro y ⟨r2, e2, hy, he2⟩; injection hy with hy; subst hy
        rw [PW_sq] at he2
        obtain ⟨rfl, rfl⟩ := errL_fit he2 hO2
        refine zmv rfl (hd 40 rfl) <| jo_l (ly_ext rfl rfl) (hd 43 rfl) <| jo_l (ly_ext rfl rfl) (hd 44 rfl) <| zas rfl (hd 7 rfl) <| zas rfl (hd 9 rfl) <| jo_nil <| zsr <| zmv rfl (hd 45 rfl) <| jo_l (ly_ff (ly_ne rfl rfl) (by decide)) (hd 46 rfl) <| jo_nil <| jc_litf rfl <| jc_skip ?_; refine zsr <| zmv rfl (hd 48 rfl) <| zmv rfl (hd 49 rfl) <| jo_l (ly_is (ly_shr rfl rfl (by omega) rfl) (show V.i .i64 _ = V.i .i64 ((n / 2 ^ (k - 1) : Nat) : Int) from congrArg (V.i .i64) (shr_nat (by rw [show ((k : Int) - 1).toNat = k - 1 by omega, Nat.min_eq_left (by have h : IntKind.i64.bits = 64 := rfl; omega)])))) (hd 50 rfl) <| jo_l (ly_is (ly_bit (by simp) rfl rfl rfl) (show V.i .i64 _ = V.i .i64 ((n / 2 ^ (k - 1) % 2 : Nat) : Int) from congrArg (V.i .i64) (and1i (by have := Nat.div_le_self n (2 ^ (k - 1)); omega)))) (hd 51 rfl) <| jo_l (ly_eq rfl rfl) (hd 52 rfl) <| jo_nil ?_
        refine jc_if rfl (fun h8 => ?_) (fun h8 => ?_)
        · have hb1 := pm_bit1 hk0 h8
          have hO3 := Nat.le_trans (PW_mono (m := n / 2 ^ (k - 1)) hv (Nat.div_le_self _ _)) hf
          refine zsr <| zmv rfl (hd 54 rfl) <| zmv rfl (hd 55 rfl) ?_
          refine jo_call Try.f67 (Mul_l (lm (PW v (2 * (n / 2 ^ k)))) (lm (v : Int)) (by omega) (by omega) (lm_u _) (lm_u _)) rfl Try.func67 rfl rfl (ovL_cons rfl (ovL_cons rfl ovL_nil)) (.cons .n (.cons .n .nil)) (hd 56 rfl) ?_ (fun ch hp => by simp at hp)
          rintro y ⟨r3, e3, hy, he3⟩; injection hy with hy; subst hy
          rw [PW_s, hb1] at he3
          obtain ⟨rfl, rfl⟩ := errL_fit he3 hO3
          refine zmv rfl (hd 53 rfl) <| jo_l (ly_ext rfl rfl) (hd 57 rfl) <| jo_l (ly_ext rfl rfl) (hd 58 rfl) <| zas rfl (hd 7 rfl) <| zas rfl (hd 9 rfl) <| jo_nil <| zsr <| zmv rfl (hd 59 rfl) <| jo_l (ly_ff (ly_ne rfl rfl) (by decide)) (hd 60 rfl) <| jo_nil <| jc_litf rfl <| jc_skip ?_; refine jc_region <| zmv rfl (hd 35 rfl) <| jo_l (ly_sub rfl rfl (wrap_i64 (by omega) (by omega))) (hd 36 rfl) <| zas rfl (hd 8 rfl) <| jo_nil ?_
          refine ⟨k - 1, ?_, ?_, rfl, cov_n 67 rfl rfl ?_⟩
          · omega
          · omega
          · exact (.cons (by show some (V.n _ _ _) = some (V.n _ _ _); first | rfl | rw [hb0]) (.cons (by show some (V.i .i64 _) = some (V.i .i64 _); congr 2; omega) (.u (.u (.u (.u (.u (.u (.u (.u (.u (.u (.u (.u (.u (.u (.u (.u (.u (.u (.u (.u (.u (.u (.u (.u (.u (.u (.u (.u (.u (.u (.u (.u .nil))))))))))))))))))))))))))))))))))
        · have hb0 := pm_bit0 hk0 h8
          refine jc_skip <| jc_region <| zmv rfl (hd 35 rfl) <| jo_l (ly_sub rfl rfl (wrap_i64 (by omega) (by omega))) (hd 36 rfl) <| zas rfl (hd 8 rfl) <| jo_nil ?_
          refine ⟨k - 1, ?_, ?_, rfl, cov_n 57 rfl rfl ?_⟩
          · omega
          · omega
          · exact (.cons (by show some (V.n _ _ _) = some (V.n _ _ _); first | rfl | rw [hb0]) (.cons (by show some (V.i .i64 _) = some (V.i .i64 _); congr 2; omega) (.u (.u (.u (.u (.u (.u (.u (.u (.u (.u (.u (.u (.u (.u (.u (.u (.u (.u (.u (.u (.u (.u (.u (.u (.u (.u (.u (.u (.u (.u (.u (.u .nil))))))))))))))))))))))))))))))))))
      · obtain rfl : k = 0 := by omega
        refine jc_exit <| zsr <| zmv rfl (hd 62 rfl) <| zas rfl (hd 4 rfl) <| zas rfl (hd 5 rfl) <| jo_nil <| jc_ret ?_
        refine ⟨_, _, (.cons rfl (.cons rfl .nil)), (.t1 .nn (.t1 .i .t0)), ?_⟩
        rw [Nat.pow_zero, Nat.div_one]



theorem Mul_f (x y : Int) (hx : 0 ≤ x) (hy : 0 ≤ y) (fx : lenV x ≤ 67108864) (fy : lenV y ≤ 67108864) (f : lenV (x * y) ≤ 67108864) : Spec Try.prog 67 [.n false .u64 (lm x), .n false .u64 (lm y)] (fun o => o = .ret (.t [.n false .u64 (lm (x * y)), .i .i64 0])) := by
  have h1 := lenV_lm fx
  have h2 := lenV_lm fy
  refine (Mul_l (lm x) (lm y) (by omega) (by omega) (lm_u _) (lm_u _)).weak fun o ho => ?_
  obtain ⟨r, e, rfl, he⟩ := ho
  rw [vl_lm hx, vl_lm hy] at he
  obtain ⟨rfl, rfl⟩ := errL_fit he f
  exact ⟨_, rfl, fun _ _ _ _ h => end_nnT h⟩
theorem Add_f (x y : Int) (hx : 0 ≤ x) (hy : 0 ≤ y) (fx : lenV x ≤ 67108864) (fy : lenV y ≤ 67108864) (f : lenV (x + y) ≤ 67108864) : Spec Try.prog 103 [.n false .u64 (lm x), .n false .u64 (lm y)] (fun o => o = .ret (.t [.n false .u64 (lm (x + y)), .i .i64 0])) := by
  have h1 := lenV_lm fx
  have h2 := lenV_lm fy
  have ev : vl (sumL (lm x) (lm y)) = x + y := by rw [vl_sumL, vl_lm hx, vl_lm hy]
  have hc := adN_c (a := (swL (trm (lm x)) (trm (lm y))).1) (b := (swL (trm (lm x)) (trm (lm y))).2) (by unfold swL; split; exact u64s_trm (lm_u y); exact u64s_trm (lm_u x)) (by unfold swL; split; exact u64s_trm (lm_u x); exact u64s_trm (lm_u y)) (swL (trm (lm x)) (trm (lm y))).1.length
  have hu : u64s (sumL (lm x) (lm y)) := u64s_app1 (adN_u _) hc.1 (by omega)
  have e := trm_lm hu ev
  have h := Add_ok (lm x) (lm y) (by omega) (by omega) (lm_u x) (lm_u y) (by rw [e, lenN_lm]; exact f)
  rwa [e] at h

theorem power_x (b n g : Nat) (hlb : 2 ≤ b) (hb2 : b ≤ 36) (hn : lenV (PW b n) ≤ 67108864) : SpecX Try.prog 139 [.i .i64 (n : Int), .q [.c (.map (some g))], .q [.i .i64 (b : Int)]] (cF b) g (fun o => o = .ret (.t [.n false .u64 (lm (PW b n)), .i .i64 0])) := by
  refine specX_of [(0, .i .i64 (n : Int)), (1, .q [.c (.map (some g))]), (2, .q [.i .i64 (b : Int)])] rfl Try.func139 rfl (zlb rfl) fun Γ hN hds hΓ => ?_
  have hdM : ∀ d, Nat.blt d 33 = true → d < Γ.N := fun d h => by rw [hN]; exact Nat.le_of_ble_eq_true h
  have hd := hdM
  have hF : Spec Try.prog 58 [.i .u64 (b : Int)] (fun o => o = .ret (.n false .u64 (lm (b : Int)))) := by have h := (From_s (b : Int)).nn; rwa [show (if (b : Int) = 0 then [] else [(b : Int)]) = lm (b : Int) from fl_lm (by omega) (by omega)] at h
  have hlb9 : lenV (b : Int) ≤ 67108864 := Nat.le_trans (lenV_mono (w := 36) (by omega)) (by decide)
  refine jcm_toP hΓ rfl ?_
  intro Γ1 hN1 hds1 hL hR back backE
  have hd : ∀ d, Nat.blt d 33 = true → d < Γ1.N := fun d h => by rw [hN1]; exact hdM d h
  refine jcp_seq <| jc_region <| zas rfl (hd 4 rfl) <| zas rfl (hd 5 rfl) <| jo_nil <| back _ _ _ _ rfl ?_
  have hd := hdM
  refine jcm_seq <| jcm_seq <| jcm_region <| jom_l (ly_ldq one1162 rfl rfl) (hd 11 rfl) <| jom_l (ly_mv rfl) (hd 12 rfl) ?_
  refine jom_lookup (n := n) (z := (.slice none 0 0)) undm1162 undki3 (zvOk zv28) rfl rfl rfl (hd 13 rfl) ?_ ?_
  · refine jom_l (ly_mv rfl) (hd 10 rfl) <| jom_l (ly_ext rfl rfl) (hd 14 rfl) <| jom_l (ly_ext rfl rfl) (hd 15 rfl) <| jom_l (ly_as rfl) (hd 6 rfl) <| jom_l (ly_as rfl) (hd 7 rfl) <| jom_nil <| jcm_toP hΓ rfl ?_
    intro Γ1 hN1 hds1 hL hR back backE
    have hd : ∀ d, Nat.blt d 33 = true → d < Γ1.N := fun d h => by rw [hN1]; exact hdM d h
    refine jcp_seq <| jc_region <| zmv rfl (hd 16 rfl) <| jo_nil <| back _ _ _ _ rfl ?_
    have hd := hdM
    refine jcm_litt rfl <| jcm_toP hΓ rfl ?_
    intro Γ1 hN1 hds1 hL hR back backE
    have hd : ∀ d, Nat.blt d 33 = true → d < Γ1.N := fun d h => by rw [hN1]; exact hdM d h
    refine jcp_seq <| jc_region <| zmv rfl (hd 17 rfl) <| zas rfl (hd 4 rfl) <| zas rfl (hd 5 rfl) <| jo_nil <| back _ _ _ _ rfl ?_
    have hd := hdM
    refine jcm_ret fun a w s hg => ?_
    refine ⟨_, _, s, hg, (.cons rfl (.cons rfl .nil)), ?_⟩
    exact rfl
  · refine jom_l (ly_mv rfl) (hd 10 rfl) <| jom_l (ly_ext rfl rfl) (hd 14 rfl) <| jom_l (ly_ext rfl rfl) (hd 15 rfl) <| jom_l (ly_as rfl) (hd 6 rfl) <| jom_l (ly_as rfl) (hd 7 rfl) <| jom_nil <| jcm_toP hΓ rfl ?_
    intro Γ1 hN1 hds1 hL hR back backE
    have hd : ∀ d, Nat.blt d 33 = true → d < Γ1.N := fun d h => by rw [hN1]; exact hdM d h
    refine jcp_seq <| jc_region <| zmv rfl (hd 16 rfl) <| jo_nil <| back _ _ _ _ rfl ?_
    have hd := hdM
    refine jcm_litf rfl <| jcm_skip <| jcm_toP hΓ rfl ?_
    intro Γ1 hN1 hds1 hL hR back backE
    have hd : ∀ d, Nat.blt d 33 = true → d < Γ1.N := fun d h => by rw [hN1]; exact hdM d h
    refine jcp_seq <| jc_region <| jo_l (ly_ldq one3 rfl rfl) (hd 19 rfl) <| jo_l (ly_conv und3 und82 rfl (r := (b : Int)) (wrap_u64 (by omega) (by omega))) (hd 20 rfl) ?_
    refine jo_call Try.f58 (hF) rfl Try.func58 rfl rfl (ovL_cons rfl ovL_nil) (.cons .i .nil) (hd 21 rfl) ?_ (fun ch hp => by simp at hp)
    rintro _ ⟨⟩; refine zmv rfl (hd 22 rfl) ?_
    refine jo_call Try.f75 (Pow_v b n hlb hlb9 (by omega)) rfl Try.func75 rfl rfl (ovL_cons rfl (ovL_cons rfl ovL_nil)) (.cons .n (.cons .i .nil)) (hd 23 rfl) ?_ (fun ch hp => by simp at hp)
    rintro _ ⟨⟩; refine zmv rfl (hd 18 rfl) <| jo_l (ly_ext rfl rfl) (hd 24 rfl) <| jo_l (ly_ext rfl rfl) (hd 25 rfl) <| zas rfl (hd 8 rfl) <| zas rfl (hd 9 rfl) <| jo_nil <| back _ _ _ _ rfl ?_
    have hd := hdM
    refine jcm_seq <| jcm_toP hΓ rfl ?_
    intro Γ1 hN1 hds1 hL hR back backE
    have hd : ∀ d, Nat.blt d 33 = true → d < Γ1.N := fun d h => by rw [hN1]; exact hdM d h
    refine jcp_seq <| jc_region <| zmv rfl (hd 26 rfl) <| jo_l (ly_tt (ly_eq rfl rfl) (by decide)) (hd 27 rfl) <| jo_nil <| back _ _ _ _ rfl ?_
    have hd := hdM
    refine jcm_litt rfl <| jcm_region <| jom_l (ly_ldq one1162 rfl rfl) (hd 28 rfl) <| jom_l (ly_mv rfl) (hd 29 rfl) <| jom_l (ly_mv rfl) (hd 30 rfl) <| jom_enter hΓ undm1162 undki3 rfl rfl rfl (fun w u h => rel_Ble (Nat.zero_le _) _ _ h) <| jom_nil <| jcm_toP hΓ rfl ?_
    intro Γ1 hN1 hds1 hL hR back backE
    have hd : ∀ d, Nat.blt d 33 = true → d < Γ1.N := fun d h => by rw [hN1]; exact hdM d h
    refine jcp_seq <| jc_region <| zmv rfl (hd 31 rfl) <| zmv rfl (hd 32 rfl) <| zas rfl (hd 4 rfl) <| zas rfl (hd 5 rfl) <| jo_nil <| back _ _ _ _ rfl ?_
    have hd := hdM
    refine jcm_ret fun a w s hg => ?_
    refine ⟨_, _, s, hg, (.cons rfl (.cons rfl .nil)), ?_⟩
    exact rfl

theorem part_big (b g : Nat) (hlb : 2 ≤ b) (hb2 : b ≤ 36) (l : List Int) (n : Nat) (hr : rng b l) (hl : l.length ≤ 1099511627776) (hv9 : lenV (hv b l) ≤ 67108864) (hk9 : lenV (PW b ((l.length + 1) / 2)) ≤ 67108864) (hn : l.length ≤ n) (h12 : 12 < l.length) (ih : ∀ (l2 : List Int) (n : Nat), rng b l2 → l2.length ≤ 1099511627776 → lenV (hv b l2) ≤ 67108864 → lenV (PW b ((l2.length + 1) / 2)) ≤ 67108864 → l2.length ≤ n → l2.length < l.length → SpecX Try.prog 140 [.n false .i64 l2, .q [.i .i64 (b : Int)], .q [cyc 140 [.q [.i .i64 (b : Int)]] [.q [.f 139 [.q [.c (.map (some g))], .q [.i .i64 (b : Int)]]]] n], .q [.f 139 [.q [.c (.map (some g))], .q [.i .i64 (b : Int)]]]] (cF b) g (fun o => o = .ret (.t [.n false .u64 (lm (hv b l2)), .i .i64 0]))) : SpecX Try.prog 140 [.n false .i64 l, .q [.i .i64 (b : Int)], .q [cyc 140 [.q [.i .i64 (b : Int)]] [.q [.f 139 [.q [.c (.map (some g))], .q [.i .i64 (b : Int)]]]] n], .q [.f 139 [.q [.c (.map (some g))], .q [.i .i64 (b : Int)]]]] (cF b) g (fun o => o = .ret (.t [.n false .u64 (lm (hv b l)), .i .i64 0])) := by
  refine specX_of [(0, .n false .i64 l), (1, .q [.i .i64 (b : Int)]), (2, .q [cyc 140 [.q [.i .i64 (b : Int)]] [.q [.f 139 [.q [.c (.map (some g))], .q [.i .i64 (b : Int)]]]] n]), (3, .q [.f 139 [.q [.c (.map (some g))], .q [.i .i64 (b : Int)]]])] rfl Try.func140 rfl (zlb rfl) fun Γ hN hds hΓ => ?_
  have hdM : ∀ d, Nat.blt d 89 = true → d < Γ.N := fun d h => by rw [hN]; exact Nat.le_of_ble_eq_true h
  have hd := hdM
  obtain ⟨n, rfl⟩ : ∃ m, n = m + 1 := ⟨n - 1, by omega⟩
  have hla : (l.take (l.length - (l.length / 2))).length = l.length - (l.length / 2) := by rw [List.length_take]; omega
  have hlb0 : (l.drop (l.length - (l.length / 2))).length = (l.length / 2) := by rw [List.length_drop]; omega
  have hra := rng_take hr (l.length - (l.length / 2))
  have hrb := rng_drop hr (l.length - (l.length / 2))
  have hsp := hv_split (b := b) (k := (l.length / 2)) l (by omega)
  have hna := hv_nonneg hra
  have hnb := hv_nonneg hrb
  have hnl := hv_nonneg hr
  obtain ⟨hfa, hfb, hfm⟩ := half_fit (k := (l.length / 2)) hlb hr (by omega) hv9
  have hfp : lenV (PW b (l.length / 2)) ≤ 67108864 := Nat.le_trans (PW_mono hlb (by omega)) hk9
  have hpn := PW_nn (v := b) (n := (l.length / 2))
  have hka : lenV (PW b (((l.take (l.length - (l.length / 2))).length + 1) / 2)) ≤ 67108864 := Nat.le_trans (PW_mono hlb (by omega)) hk9
  have hkb : lenV (PW b (((l.drop (l.length - (l.length / 2))).length + 1) / 2)) ≤ 67108864 := Nat.le_trans (PW_mono hlb (by omega)) hk9
  refine jcm_toP hΓ rfl ?_
  intro Γ1 hN1 hds1 hL hR back backE
  have hd : ∀ d, Nat.blt d 89 = true → d < Γ1.N := fun d h => by rw [hN1]; exact hdM d h
  refine jcp_seq <| jc_region <| zas rfl (hd 5 rfl) <| zas rfl (hd 6 rfl) <| jo_nil <| back _ _ _ _ rfl ?_
  have hd := hdM
  refine jcm_seq <| jcm_toP hΓ rfl ?_
  intro Γ1 hN1 hds1 hL hR back backE
  have hd : ∀ d, Nat.blt d 89 = true → d < Γ1.N := fun d h => by rw [hN1]; exact hdM d h
  refine jcp_seq <| jc_region <| zmv rfl (hd 16 rfl) <| jo_l (ly_lenn sl1140 rfl) (hd 17 rfl) <| jo_l (ly_ff (ly_le rfl rfl) (by omega)) (hd 18 rfl) <| jo_nil <| back _ _ _ _ rfl ?_
  have hd := hdM
  refine jcm_litf rfl <| jcm_skip <| jcm_toP hΓ rfl ?_
  intro Γ1 hN1 hds1 hL hR back backE
  have hd : ∀ d, Nat.blt d 89 = true → d < Γ1.N := fun d h => by rw [hN1]; exact hdM d h
  refine jcp_seq <| jc_region <| zmv rfl (hd 35 rfl) <| jo_l (ly_lenn sl1140 rfl) (hd 36 rfl) <| jo_l (ly_quo rfl rfl (by omega) (r := ((l.length / 2 : Nat) : Int)) (by rw [show ((l.length : Int).tdiv 2) = ((l.length / 2 : Nat) : Int) from rfl]; exact wrap_i64 (by omega) (by omega))) (hd 37 rfl) <| zas rfl (hd 10 rfl) <| jo_nil <| back _ _ _ _ rfl ?_
  have hd := hdM
  refine jcm_seq <| jcm_draw (n := 13) _ rfl mixed <| jam_l2 0 [7, 8, 9, 10, 11, 12] (lo_l (ly_ldqf one1165 rfl rfl) (hd 39 rfl)) rfl (by kernel_rfl) (by kernel_rfl) (by kernel_rfl) (by kernel_rfl) (fun _ _ _ h => h) <| jam_l2 1 [6, 7, 8, 9, 10, 11, 12] (lo_l (ly_mv rfl) (hd 40 rfl)) rfl (by kernel_rfl) (by kernel_rfl) (by kernel_rfl) (by kernel_rfl) (fun _ _ _ h => h) <| jam_l2 2 [3, 5, 6, 7, 8, 9, 10, 11, 12] (lo_l (ly_mv rfl) (hd 41 rfl)) rfl (by kernel_rfl) (by kernel_rfl) (by kernel_rfl) (by kernel_rfl) (fun _ _ _ h => h) <| jam_l2 3 [5, 6, 7, 8, 9, 10, 11, 12] (lo_l (ly_lenn sl1140 rfl) (hd 42 rfl)) rfl (by kernel_rfl) (by kernel_rfl) (by kernel_rfl) (by kernel_rfl) (fun _ _ _ h => h) <| jam_l2 4 [5, 6, 7, 8, 9, 10, 11, 12] (lo_l (ly_mv rfl) (hd 43 rfl)) rfl (by kernel_rfl) (by kernel_rfl) (by kernel_rfl) (by kernel_rfl) (fun _ _ _ h => h) <| jam_l2 5 [6, 7, 8, 9, 10, 11, 12] (lo_l (ly_sub rfl rfl (r := ((l.length - (l.length / 2) : Nat) : Int)) (by rw [wrap_i64 (by omega) (by omega)]; omega)) (hd 44 rfl)) rfl (by kernel_rfl) (by kernel_rfl) (by kernel_rfl) (by kernel_rfl) (fun _ _ _ h => h) <| jam_l2 6 [7, 8, 9, 10, 11, 12] (lo_l (ly_is (ly_sln sl1140 rfl bnd_none (bnd_some' rfl rfl) (.inl rfl) (by omega) (by omega)) (show V.n _ _ _ = V.n false .i64 (l.take (l.length - (l.length / 2))) by rw [List.drop_zero])) (hd 45 rfl)) rfl (by kernel_rfl) (by kernel_rfl) (by kernel_rfl) (by kernel_rfl) (fun _ _ _ h => h) ?_
  refine jam_1X Try.f140 7 hΓ (ih (l.take (l.length - (l.length / 2))) n hra (by omega) hfa hka (by omega) (by omega)) rfl (by kernel_rfl) rfl Try.func140 rfl rfl (ovL_cons rfl ovL_nil) (.cons .n (.cons .q (.cons .q (.cons .q .nil)))) (hd 46 rfl) ?_ (fun ch hp => by simp at hp)
  rintro _ ⟨⟩; refine jam_l2 8 [9, 10, 11, 12] (lo_l (ly_mv rfl) (hd 38 rfl)) rfl (by kernel_rfl) (by kernel_rfl) (by kernel_rfl) (by kernel_rfl) (fun _ _ _ h => h) <| jam_l2 9 [11, 12] (lo_l (ly_ext rfl rfl) (hd 47 rfl)) rfl (by kernel_rfl) (by kernel_rfl) (by kernel_rfl) (by kernel_rfl) (fun _ _ _ h => h) <| jam_l2 10 [12] (lo_l (ly_ext rfl rfl) (hd 48 rfl)) rfl (by kernel_rfl) (by kernel_rfl) (by kernel_rfl) (by kernel_rfl) (fun _ _ _ h => h) <| jam_l2 11 [12] (lo_l (ly_as rfl) (hd 11 rfl)) rfl (by kernel_rfl) (by kernel_rfl) (by kernel_rfl) (by kernel_rfl) (fun _ _ _ h => h) <| jam_l2 12 [] (lo_l (ly_as rfl) (hd 12 rfl)) rfl (by kernel_rfl) (by kernel_rfl) (by kernel_rfl) (by kernel_rfl) (fun _ _ _ h => h) <| jam_nil (by kernel_rfl) <| jcm_seq <| jcm_toP hΓ rfl ?_
  intro Γ1 hN1 hds1 hL hR back backE
  have hd : ∀ d, Nat.blt d 89 = true → d < Γ1.N := fun d h => by rw [hN1]; exact hdM d h
  refine jcp_seq <| jc_region <| zmv rfl (hd 49 rfl) <| jo_l (ly_ff (ly_ne rfl rfl) (by decide)) (hd 50 rfl) <| jo_nil <| back _ _ _ _ rfl ?_
  have hd := hdM
  refine jcm_litf rfl <| jcm_skip <| jcm_seq <| jcm_draw (n := 13) _ rfl mixed <| jam_l2 0 [7, 8, 9, 10, 11, 12] (lo_l (ly_ldqf one1165 rfl rfl) (hd 53 rfl)) rfl (by kernel_rfl) (by kernel_rfl) (by kernel_rfl) (by kernel_rfl) (fun _ _ _ h => h) <| jam_l2 1 [6, 7, 8, 9, 10, 11, 12] (lo_l (ly_mv rfl) (hd 54 rfl)) rfl (by kernel_rfl) (by kernel_rfl) (by kernel_rfl) (by kernel_rfl) (fun _ _ _ h => h) <| jam_l2 2 [3, 5, 6, 7, 8, 9, 10, 11, 12] (lo_l (ly_mv rfl) (hd 55 rfl)) rfl (by kernel_rfl) (by kernel_rfl) (by kernel_rfl) (by kernel_rfl) (fun _ _ _ h => h) <| jam_l2 3 [5, 6, 7, 8, 9, 10, 11, 12] (lo_l (ly_lenn sl1140 rfl) (hd 56 rfl)) rfl (by kernel_rfl) (by kernel_rfl) (by kernel_rfl) (by kernel_rfl) (fun _ _ _ h => h) <| jam_l2 4 [5, 6, 7, 8, 9, 10, 11, 12] (lo_l (ly_mv rfl) (hd 57 rfl)) rfl (by kernel_rfl) (by kernel_rfl) (by kernel_rfl) (by kernel_rfl) (fun _ _ _ h => h) <| jam_l2 5 [6, 7, 8, 9, 10, 11, 12] (lo_l (ly_sub rfl rfl (r := ((l.length - (l.length / 2) : Nat) : Int)) (by rw [wrap_i64 (by omega) (by omega)]; omega)) (hd 58 rfl)) rfl (by kernel_rfl) (by kernel_rfl) (by kernel_rfl) (by kernel_rfl) (fun _ _ _ h => h) <| jam_l2 6 [7, 8, 9, 10, 11, 12] (lo_l (ly_is (ly_sln sl1140 rfl (bnd_some' rfl rfl) bnd_none (.inl rfl) (by omega) (by omega)) (show V.n _ _ _ = V.n false .i64 (l.drop (l.length - (l.length / 2))) by rw [List.take_length])) (hd 59 rfl)) rfl (by kernel_rfl) (by kernel_rfl) (by kernel_rfl) (by kernel_rfl) (fun _ _ _ h => h) ?_
  refine jam_1X Try.f140 7 hΓ (ih (l.drop (l.length - (l.length / 2))) n hrb (by omega) hfb hkb (by omega) (by omega)) rfl (by kernel_rfl) rfl Try.func140 rfl rfl (ovL_cons rfl ovL_nil) (.cons .n (.cons .q (.cons .q (.cons .q .nil)))) (hd 60 rfl) ?_ (fun ch hp => by simp at hp)
  rintro _ ⟨⟩; refine jam_l2 8 [9, 10, 11, 12] (lo_l (ly_mv rfl) (hd 52 rfl)) rfl (by kernel_rfl) (by kernel_rfl) (by kernel_rfl) (by kernel_rfl) (fun _ _ _ h => h) <| jam_l2 9 [11, 12] (lo_l (ly_ext rfl rfl) (hd 61 rfl)) rfl (by kernel_rfl) (by kernel_rfl) (by kernel_rfl) (by kernel_rfl) (fun _ _ _ h => h) <| jam_l2 10 [12] (lo_l (ly_ext rfl rfl) (hd 62 rfl)) rfl (by kernel_rfl) (by kernel_rfl) (by kernel_rfl) (by kernel_rfl) (fun _ _ _ h => h) <| jam_l2 11 [12] (lo_l (ly_as rfl) (hd 13 rfl)) rfl (by kernel_rfl) (by kernel_rfl) (by kernel_rfl) (by kernel_rfl) (fun _ _ _ h => h) <| jam_l2 12 [] (lo_l (ly_as rfl) (hd 12 rfl)) rfl (by kernel_rfl) (by kernel_rfl) (by kernel_rfl) (by kernel_rfl) (fun _ _ _ h => h) <| jam_nil (by kernel_rfl) <| jcm_seq <| jcm_toP hΓ rfl ?_
  intro Γ1 hN1 hds1 hL hR back backE
  have hd : ∀ d, Nat.blt d 89 = true → d < Γ1.N := fun d h => by rw [hN1]; exact hdM d h
  refine jcp_seq <| jc_region <| zmv rfl (hd 63 rfl) <| jo_l (ly_ff (ly_ne rfl rfl) (by decide)) (hd 64 rfl) <| jo_nil <| back _ _ _ _ rfl ?_
  have hd := hdM
  refine jcm_litf rfl <| jcm_skip <| jcm_seq <| jcm_region <| jom_l (ly_ldqf one1163 rfl rfl) (hd 67 rfl) <| jom_l (ly_mv rfl) (hd 68 rfl) ?_
  refine jom_callX Try.f139 hΓ (power_x b (l.length / 2) g hlb hb2 (by omega)) rfl Try.func139 rfl rfl (ovL_cons rfl ovL_nil) (.cons .i (.cons .q (.cons .q .nil))) (hd 69 rfl) ?_ (fun ch hp => by simp at hp)
  rintro _ ⟨⟩; refine jom_l (ly_mv rfl) (hd 66 rfl) <| jom_l (ly_ext rfl rfl) (hd 70 rfl) <| jom_l (ly_ext rfl rfl) (hd 71 rfl) <| jom_l (ly_as rfl) (hd 14 rfl) <| jom_l (ly_as rfl) (hd 12 rfl) <| jom_nil <| jcm_seq <| jcm_toP hΓ rfl ?_
  intro Γ1 hN1 hds1 hL hR back backE
  have hd : ∀ d, Nat.blt d 89 = true → d < Γ1.N := fun d h => by rw [hN1]; exact hdM d h
  refine jcp_seq <| jc_region <| zmv rfl (hd 72 rfl) <| jo_l (ly_ff (ly_ne rfl rfl) (by decide)) (hd 73 rfl) <| jo_nil <| back _ _ _ _ rfl ?_
  have hd := hdM
  refine jcm_litf rfl <| jcm_skip <| jcm_toP hΓ rfl ?_
  intro Γ1 hN1 hds1 hL hR back backE
  have hd : ∀ d, Nat.blt d 89 = true → d < Γ1.N := fun d h => by rw [hN1]; exact hdM d h
  refine jcp_seq <| jc_region <| zmv rfl (hd 76 rfl) <| zmv rfl (hd 77 rfl) ?_
  refine jo_call Try.f67 (Mul_f (hv b (l.take (l.length - (l.length / 2)))) (PW b (l.length / 2)) hna hpn (by omega) (by omega) hfm) rfl Try.func67 rfl rfl (ovL_cons rfl (ovL_cons rfl ovL_nil)) (.cons .n (.cons .n .nil)) (hd 78 rfl) ?_ (fun ch hp => by simp at hp)
  rintro _ ⟨⟩; refine zmv rfl (hd 75 rfl) <| jo_l (ly_ext rfl rfl) (hd 79 rfl) <| jo_l (ly_ext rfl rfl) (hd 80 rfl) <| zas rfl (hd 15 rfl) <| zas rfl (hd 12 rfl) <| jo_nil <| back _ _ _ _ rfl ?_
  have hd := hdM
  refine jcm_seq <| jcm_toP hΓ rfl ?_
  intro Γ1 hN1 hds1 hL hR back backE
  have hd : ∀ d, Nat.blt d 89 = true → d < Γ1.N := fun d h => by rw [hN1]; exact hdM d h
  refine jcp_seq <| jc_region <| zmv rfl (hd 81 rfl) <| jo_l (ly_ff (ly_ne rfl rfl) (by decide)) (hd 82 rfl) <| jo_nil <| back _ _ _ _ rfl ?_
  have hd := hdM
  refine jcm_litf rfl <| jcm_skip <| jcm_toP hΓ rfl ?_
  intro Γ1 hN1 hds1 hL hR back backE
  have hd : ∀ d, Nat.blt d 89 = true → d < Γ1.N := fun d h => by rw [hN1]; exact hdM d h
  refine jcp_seq <| jc_region <| zmv rfl (hd 84 rfl) <| zmv rfl (hd 85 rfl) ?_
  refine jo_call Try.f103 (Add_f (hv b (l.take (l.length - (l.length / 2))) * PW b (l.length / 2)) (hv b (l.drop (l.length - (l.length / 2)))) (Int.mul_nonneg hna hpn) hnb hfm (by omega) (by rw [← hsp]; omega)) rfl Try.func103 rfl rfl (ovL_cons rfl (ovL_cons rfl ovL_nil)) (.cons .n (.cons .n .nil)) (hd 86 rfl) ?_ (fun ch hp => by simp at hp)
  rintro _ ⟨⟩; refine jo_l (ly_ext rfl rfl) (hd 87 rfl) <| jo_l (ly_ext rfl rfl) (hd 88 rfl) <| zas rfl (hd 5 rfl) <| zas rfl (hd 6 rfl) <| jo_nil <| back _ _ _ _ rfl ?_
  have hd := hdM
  refine jcm_ret fun a w s hg => ?_
  refine ⟨_, _, s, hg, (.cons rfl (.cons rfl .nil)), ?_⟩
  show Out.ret _ = Out.ret _; rw [hsp]; rfl

theorem part_x (b g : Nat) (hlb : 2 ≤ b) (hb2 : b ≤ 36) : ∀ (m : Nat) (l : List Int) (n : Nat) (hr : rng b l) (hl : l.length ≤ 1099511627776) (hv9 : lenV (hv b l) ≤ 67108864) (hk9 : lenV (PW b ((l.length + 1) / 2)) ≤ 67108864) (hn : l.length ≤ n) (hm : l.length < m), SpecX Try.prog 140 [.n false .i64 l, .q [.i .i64 (b : Int)], .q [cyc 140 [.q [.i .i64 (b : Int)]] [.q [.f 139 [.q [.c (.map (some g))], .q [.i .i64 (b : Int)]]]] n], .q [.f 139 [.q [.c (.map (some g))], .q [.i .i64 (b : Int)]]]] (cF b) g (fun o => o = .ret (.t [.n false .u64 (lm (hv b l)), .i .i64 0]))
  | 0, l, n, hr, hl, hv9, hk9, hn, hm => by omega
  | m + 1, l, n, hr, hl, hv9, hk9, hn, hm => by
    by_cases h : l.length ≤ 12
    · exact specX_of_spec (part_12 l b _ _ hlb hb2 hr h)
    · exact part_big b g hlb hb2 l n hr hl hv9 hk9 hn (by omega) fun l2 n2 h1 h2 h5 h6 h3 h4 => part_x b g hlb hb2 m l2 n2 h1 h2 h5 h6 h3 (by omega)





theorem trm_k {l : List Int} {k : Nat} (h2 : tN l k = tN l l.length) (h3 : tN l k = k) : (trm l).length = k := by rw [trm_length]; omega
theorem ints_take {k : IntKind} {l : List Int} {n : Nat} : (ints k l).take n = ints k (l.take n) := by simp [ints]

theorem trim_m (L : List Int) (n : Nat) (hn : n ≤ L.length) (hL9 : L.length < 1099511627776) : SpecM Try.prog 105 [.o 0 0 0 n] ([⟨67, 1, 0, true, ints .u64 L⟩]) (fun o G => o = .ret (.o 0 0 0 (trm (L.take n)).length) ∧ G = [⟨67, 1, 0, true, ints .u64 L⟩]) := by
  refine specM_of [(0, .o 0 0 0 n)] rfl (1) rfl Try.func105 rfl (zlb rfl) fun Γ hN hds => ?_
  have hd := hdOf 21 hN
  have hln : (L.take n).length = n := by rw [List.length_take]; omega
  refine zsr <| zas rfl (hd 2 rfl) <| jo_nil <| jc_seq <| jc_block ?_
  refine jc_loopF (G := Nat) (fun k => k ≤ n ∧ tN (L.take n) k = tN (L.take n) (L.take n).length) (fun k => [(0, .o 0 0 0 k), (3, .u), (4, .u), (5, .u), (6, .u), (7, .u), (8, .u), (9, .u), (10, .u), (11, .u), (12, .u), (13, .u), (14, .u), (15, .u), (16, .u), (17, .u), (18, .u), (19, .u)]) (fun k => [⟨67, 1, 0, true, ints .u64 L⟩]) (fun k => k) n ?_ ?_ rfl ?_
  · exact ⟨Nat.le_refl _, by rw [hln]⟩
  · exact (.cons rfl (.u (.u (.u (.u (.u (.u (.u (.u (.u (.u (.u (.u (.u (.u (.u (.u (.u .nil))))))))))))))))))
  · rintro k ⟨hc1, hc2⟩; refine jc_seq <| zsr <| zmv rfl (hd 3 rfl) <| jo_l (ly_leno sl28 rfl rfl) (hd 4 rfl) <| jo_l (ly_gt rfl rfl) (hd 5 rfl) <| zmv rfl (hd 6 rfl) ?_
    refine jo_ifp 6 rfl (fun h1 => ?_) (fun h1 => ?_)
    · refine jo_g 6 rfl rfl (ly_mv rfl) (hd 7 rfl) <| jo_g 6 rfl rfl (ly_mv rfl) (hd 8 rfl) <| jo_g 6 rfl rfl (ly_leno sl28 rfl rfl) (hd 9 rfl) <| jo_g 6 rfl rfl (ly_sub rfl rfl (wrap_i64 (by omega) (by omega))) (hd 10 rfl) <| jo_g 6 rfl rfl (ly_ia (i := k - 1) sl28 rfl rfl rfl (by omega) (by omega) rfl) (hd 11 rfl) <| jo_g 6 rfl rfl (ly_is (ly_ldi one82 rfl rfl (by omega)) (show V.i .u64 _ = V.i .u64 (L.getD (k - 1) 0) by rw [Nat.zero_add, Nat.mul_one])) (hd 12 rfl) <| jo_g 6 rfl rfl (ly_eq rfl rfl) (hd 13 rfl) <| jo_l (ly_pick_t rfl rfl) (hd 14 rfl) <| jo_nil ?_
      refine jc_if rfl (fun h2 => ?_) (fun h2 => ?_)
      · refine jc_skip <| jc_block <| jc_region <| zmv rfl (hd 15 rfl) <| zmv rfl (hd 16 rfl) <| jo_l (ly_leno sl28 rfl rfl) (hd 17 rfl) <| jo_l (ly_sub rfl rfl (wrap_i64 (by omega) (by omega))) (hd 18 rfl) <| jo_l (ly_slo (l := 0) (h := k - 1) (r := 0) (n := k - 1) sl28 rfl rfl bnd_none (bnd_some' rfl (by omega)) (by omega) (by omega) rfl (by omega)) (hd 19 rfl) <| zas rfl (hd 0 rfl) <| jo_nil ?_
        refine ⟨k - 1, ?_, ?_, rfl, cov_n 37 rfl rfl ?_⟩
        · exact ⟨by omega, by rw [← hc2, tN_down (by omega) (by rw [getD_take (show k - 1 < n by omega)]; assumption)]⟩
        · omega
        · exact (.cons rfl (.u (.u (.u (.u (.u (.u (.u (.u (.u (.u (.u (.u (.u (.u (.u (.u (.u .nil))))))))))))))))))
      · refine jc_exit <| zsr <| zmv rfl (hd 20 rfl) <| zas rfl (hd 2 rfl) <| jo_nil <| jc_ret ?_
        refine ⟨_, (.cons rfl .nil), rfl, (.cons ints_id .nil), ?_⟩
        exact ⟨by rw [trm_k hc2 (tN_stop (by omega) (by rw [getD_take (show k - 1 < n by omega)]; assumption))]; rfl, rfl⟩
    · refine jo_s 6 rfl rfl rfl (hd 7 rfl) <| jo_s 6 rfl rfl rfl (hd 8 rfl) <| jo_s 6 rfl rfl rfl (hd 9 rfl) <| jo_s 6 rfl rfl rfl (hd 10 rfl) <| jo_s 6 rfl rfl rfl (hd 11 rfl) <| jo_s 6 rfl rfl rfl (hd 12 rfl) <| jo_s 6 rfl rfl rfl (hd 13 rfl) <| jo_l (ly_pick_f rfl rfl) (hd 14 rfl) <| jo_nil <| jc_litf rfl <| jc_exit <| jc_seq <| jc_region ?_; refine zmv rfl (hd 20 rfl) <| zas rfl (hd 2 rfl) <| jo_nil <| jc_ret ?_
      refine ⟨_, (.cons rfl .nil), rfl, (.cons ints_id .nil), ?_⟩
      exact ⟨by rw [trm_k hc2 (tN_0 (by omega))]; rfl, rfl⟩

theorem trm_at {L : List Int} {n i : Nat} (hi : i < (trm (L.take n)).length) : (trm (L.take n)).getD i 0 = L.getD i 0 := by
  have h1 := trm_length (L.take n)
  have h2 := tN_le (L.take n) (L.take n).length
  have h3 : (L.take n).length ≤ n := by rw [List.length_take]; omega
  have e : trm (L.take n) = (L.take n).take (tN (L.take n) (L.take n).length) := rfl
  rw [e, getD_take (by omega), getD_take (by omega)]

theorem Length_m (L : List Int) (n : Nat) (hn : n ≤ L.length) (hL9 : L.length < 1099511627776) (hu : u64s L) : SpecM Try.prog 66 [.o 0 0 0 n] ([⟨67, 1, 0, true, ints .u64 L⟩]) (fun o G => o = .ret (.i .i64 (lenN (L.take n) : Int)) ∧ G = [⟨67, 1, 0, true, ints .u64 L⟩]) := by
  refine specM_of [(0, .o 0 0 0 n)] rfl (1) rfl Try.func66 rfl (zlb rfl) fun Γ hN hds => ?_
  have hd := hdOf 20 hN
  have hln : (L.take n).length = n := by rw [List.length_take]; omega
  have hm := trm_len (L.take n)
  have huT : u64s (L.take n) := fun x hx => hu x (List.mem_of_mem_take hx)
  refine zsr <| zas rfl (hd 2 rfl) <| jo_nil <| zsr <| zmv rfl (hd 3 rfl) ?_
  refine jo_callM Try.f105 (trim_m L n hn hL9) rfl Try.func105 rfl rfl (ovL_cons rfl ovL_nil) (.cons (.same rfl) .nil) (freshless_cons ints_noFr freshless_nil) (hd 4 rfl) ?_ (fun ch H2 hp => by simp at hp)
  rintro y H2 ⟨hy, rfl⟩; injection hy with hy; subst hy; refine zas rfl (hd 0 rfl) <| jo_nil <| jc_seq <| zsr <| zmv rfl (hd 5 rfl) <| jo_l (ly_leno sl28 rfl rfl) (hd 6 rfl) <| jo_l (ly_eq rfl rfl) (hd 7 rfl) <| jo_nil ?_
  refine jc_if rfl (fun h1 => ?_) (fun h1 => ?_)
  · refine zsr <| zas rfl (hd 2 rfl) <| jo_nil <| jc_ret ?_
    refine ⟨_, (.cons rfl .nil), rfl, (.cons ints_id .nil), ?_⟩
    refine ⟨?_, rfl⟩
    unfold lenN
    rw [if_pos (by omega)]
    rfl
  · have htop := u64s_at (u64s_trm huT) (i := (trm (L.take n)).length - 1) (by omega)
    have hbl := bl_le 64 ((trm (L.take n)).getD ((trm (L.take n)).length - 1) 0).toNat
    refine jc_skip <| zsr <| zmv rfl (hd 8 rfl) <| jo_l (ly_leno sl28 rfl rfl) (hd 9 rfl) <| jo_l (ly_sub rfl rfl (wrap_i64 (by omega) (by omega))) (hd 10 rfl) <| jo_l (ly_mul rfl rfl (wrap_i64 (by omega) (by omega))) (hd 11 rfl) <| zmv rfl (hd 12 rfl) <| zmv rfl (hd 13 rfl) <| jo_l (ly_leno sl28 rfl rfl) (hd 14 rfl) <| jo_l (ly_sub rfl rfl (wrap_i64 (by omega) (by omega))) (hd 15 rfl) <| jo_l (ly_ia (i := (trm (L.take n)).length - 1) sl28 rfl rfl rfl (by omega) (by omega) rfl) (hd 16 rfl) <| jo_l (ly_is (ly_ldi one82 rfl rfl (by omega)) (show V.i .u64 _ = V.i .u64 (((trm (L.take n)).getD ((trm (L.take n)).length - 1) 0).toNat : Int) by rw [Int.toNat_of_nonneg htop.1, Nat.zero_add, Nat.mul_one]; exact congrArg (V.i .u64) (trm_at (by omega)).symm)) (hd 17 rfl) ?_
    refine jo_call Try.f106 (Len64_s ((trm (L.take n)).getD ((trm (L.take n)).length - 1) 0).toNat (by omega)) rfl Try.func106 rfl rfl (ovL_cons rfl ovL_nil) (.cons .i .nil) (hd 18 rfl) ?_ (fun ch hp => by simp at hp)
    rintro _ ⟨⟩; refine jo_l (ly_add rfl rfl (wrap_i64 (by omega) (by omega))) (hd 19 rfl) <| zas rfl (hd 2 rfl) <| jo_nil <| jc_ret ?_
    refine ⟨_, (.cons rfl .nil), rfl, (.cons ints_id .nil), ?_⟩
    refine ⟨?_, rfl⟩
    unfold lenN
    rw [if_neg (by omega)]
    show Out.ret (V.i .i64 _) = Out.ret (V.i .i64 _)
    congr 2
    omega

theorem trm_pre {L : List Int} {n : Nat} (hn : n ≤ L.length) : trm (L.take n) = L.take (trm (L.take n)).length := by
  have h1 := trm_length (L.take n)
  have h2 := tN_le (L.take n) (L.take n).length
  have h3 : (L.take n).length = n := by rw [List.length_take]; omega
  have e : trm (L.take n) = (L.take n).take (tN (L.take n) (L.take n).length) := rfl
  conv => lhs; rw [e, List.take_take, Nat.min_eq_left (by omega)]
  rw [h1]

theorem told_m (L : List Int) (n : Nat) (hn : n ≤ L.length) (hL9 : L.length < 1099511627776) (hu : u64s L) (h : lenN (trm (L.take n)) ≤ 67108864) : SpecM Try.prog 129 [.o 0 0 0 n] ([⟨67, 1, 0, true, ints .u64 L⟩]) (fun o G => o = .ret (.t [.o 0 0 0 (trm (L.take n)).length, .i .i64 0]) ∧ G = [⟨67, 1, 0, true, ints .u64 L⟩]) := by
  refine specM_of [(0, .o 0 0 0 n)] rfl (1) rfl Try.func129 rfl (zlb rfl) fun Γ hN hds => ?_
  have hd := hdOf 10 hN
  have hln : (L.take n).length = n := by rw [List.length_take]; omega
  have hm := trm_len (L.take n)
  have hk9 : (trm (L.take n)).length ≤ L.length := by omega
  have hLen : SpecM Try.prog 66 [.o 0 0 0 (trm (L.take n)).length] [⟨67, 1, 0, true, ints .u64 L⟩] (fun o G => o = .ret (.i .i64 (lenN (trm (L.take n)) : Int)) ∧ G = [⟨67, 1, 0, true, ints .u64 L⟩]) := by have h := Length_m L (trm (L.take n)).length hk9 hL9 hu; rwa [show L.take (trm (L.take n)).length = (trm (L.take n)) from (trm_pre hn).symm] at h
  refine zsr <| zas rfl (hd 2 rfl) <| zas rfl (hd 3 rfl) <| jo_nil <| zsr <| zmv rfl (hd 4 rfl) ?_
  refine jo_callM Try.f105 (trim_m L n hn hL9) rfl Try.func105 rfl rfl (ovL_cons rfl ovL_nil) (.cons (.same rfl) .nil) (freshless_cons ints_noFr freshless_nil) (hd 5 rfl) ?_ (fun ch H2 hp => by simp at hp)
  rintro y H2 ⟨hy, rfl⟩; injection hy with hy; subst hy; refine zas rfl (hd 0 rfl) <| jo_nil <| jc_seq <| zsr <| zmv rfl (hd 6 rfl) ?_
  refine jo_callM Try.f66 (hLen) rfl Try.func66 rfl rfl (ovL_cons rfl ovL_nil) (.cons (.same rfl) .nil) (freshless_cons ints_noFr freshless_nil) (hd 7 rfl) ?_ (fun ch H2 hp => by simp at hp)
  rintro y H2 ⟨hy, rfl⟩; injection hy with hy; subst hy; refine jo_l (ly_ff (ly_gt rfl rfl) (by omega)) (hd 8 rfl) <| jo_nil <| jc_litf rfl <| jc_skip <| zsr <| zmv rfl (hd 9 rfl) <| zas rfl (hd 2 rfl) <| zas rfl (hd 3 rfl) <| jo_nil <| jc_ret ?_
  refine ⟨_, (.cons rfl (.cons rfl .nil)), rfl, (.cons ints_id .nil), ?_⟩
  exact ⟨rfl, rfl⟩

theorem Add_n (a b : List Int) (ha : a.length < 4294967296) (hb : b.length < 4294967296) (ua : u64s a) (ub : u64s b) (h : lenN (trm (sumL a b)) ≤ 67108864) : SpecM Try.prog 103 [.n false .u64 a, .n false .u64 b] [] (fun o G => o = .ret (.t [.o 0 0 0 (trm (sumL a b)).length, .i .i64 0]) ∧ G = [⟨67, 1, 0, true, ints .u64 (sumL a b)⟩]) := by
  refine specS_of [(0, .n false .u64 a), (1, .n false .u64 b)] rfl Try.func103 rfl (zlb rfl) fun Γ hN hds hL hR => ?_
  have hd := hdOf 61 hN
  have hma := trm_len a
  have hmb := trm_len b
  refine zsr <| zas rfl (hd 4 rfl) <| zas rfl (hd 5 rfl) <| jo_nil <| zsr <| zmv rfl (hd 10 rfl) ?_
  refine jo_call Try.f105 (trim_s a (by omega)) rfl Try.func105 rfl rfl (ovL_cons rfl ovL_nil) (.cons .n .nil) (hd 11 rfl) ?_ (fun ch hp => by simp at hp)
  rintro _ ⟨⟩; refine zmv rfl (hd 12 rfl) ?_
  refine jo_call Try.f105 (trim_s b (by omega)) rfl Try.func105 rfl rfl (ovL_cons rfl ovL_nil) (.cons .n .nil) (hd 13 rfl) ?_ (fun ch hp => by simp at hp)
  rintro _ ⟨⟩; refine zas rfl (hd 0 rfl) <| zas rfl (hd 1 rfl) <| jo_nil ?_
  refine jc_meetH (G := List Int × List Int) (fun g => swL (trm a) (trm b) = g ∧ g.1.length < 4294967296 ∧ u64s g.1 ∧ u64s g.2) (fun g => [(0, .n false .u64 g.1), (1, .n false .u64 g.2), (14, .u), (15, .u), (16, .u), (17, .u), (18, .u), (19, .u), (20, .u)]) ?_ ?_
  · refine zsr <| zmv rfl (hd 14 rfl) <| jo_l (ly_lenn sl28 rfl) (hd 15 rfl) <| zmv rfl (hd 16 rfl) <| jo_l (ly_lenn sl28 rfl) (hd 17 rfl) <| jo_l (ly_lt rfl rfl) (hd 18 rfl) <| jo_nil ?_
    refine jc_if rfl (fun h1 => ?_) (fun h1 => ?_)
    · refine jc_region <| zmv rfl (hd 19 rfl) <| zmv rfl (hd 20 rfl) <| zas rfl (hd 0 rfl) <| zas rfl (hd 1 rfl) <| jo_nil ?_
      refine ⟨(trm b, trm a), ?_, rfl, cov_n 9 rfl rfl ?_⟩
      · exact ⟨by unfold swL; rw [if_pos (by omega)], by show (trm b).length < _; omega, u64s_trm ub, u64s_trm ua⟩
      · exact (.cons rfl (.cons rfl (.u (.u (.u (.u (.u (.u (.u .nil)))))))))
    · refine jc_skip ?_
      refine ⟨(trm a, trm b), ?_, rfl, cov_n 5 rfl rfl ?_⟩
      · exact ⟨by unfold swL; rw [if_neg (by omega)], by show (trm a).length < _; omega, u64s_trm ua, u64s_trm ub⟩
      · exact (.cons rfl (.cons rfl (.u (.u (.u (.u (.u (.u (.u .nil)))))))))
  · rintro ⟨X, Y⟩ ⟨hg, hX, uX, uY⟩
    dsimp only at hg hX uX uY ⊢
    have hS : sumL a b = (adN X Y X.length).1 ++ [(adN X Y X.length).2] := by unfold sumL; rw [hg]
    refine zsr <| zmv rfl (hd 21 rfl) <| jo_l (ly_lenn sl28 rfl) (hd 22 rfl) <| jo_l (ly_add rfl rfl (r := ((X.length + 1 : Nat) : Int)) (by rw [wrap_i64 (by omega) (by omega)]; omega)) (hd 23 rfl) <| jo_h (hy_mk (m := X.length + 1) el28 rfl rfl rfl (by show 8 * (X.length + 1) ≤ _; omega) (by unfold maxLen; omega) rfl) (hd 24 rfl) <| zas rfl (hd 6 rfl) <| jo_nil <| zsr <| zas rfl (hd 7 rfl) <| jo_nil <| jc_seq ?_; refine zsr <| zmv rfl (hd 25 rfl) <| jo_l (ly_lenn sl28 rfl) (hd 26 rfl) <| zmv rfl (hd 27 rfl) <| jo_nil <| jc_block ?_
    refine jc_loopF (G := Nat) (fun i => i ≤ X.length) (fun i => [(7, .i .u64 (adN X Y i).2), (27, .i .i64 (i : Int)), (8, .u), (9, .u), (28, .u), (29, .u), (30, .u), (31, .u), (32, .u), (33, .u), (34, .u), (35, .u), (36, .u), (37, .u), (38, .u), (39, .u), (40, .u), (41, .u), (42, .u), (43, .u), (44, .u), (45, .u), (46, .u), (47, .u), (48, .u), (49, .u), (50, .u), (51, .u)]) (fun i => [⟨67, 1, 0, true, ints .u64 (fillI (adN X Y i).1 (X.length + 1))⟩]) (fun i => X.length - i) 0 ?_ ?_ rfl ?_
    · exact Nat.zero_le _
    · exact (.cons rfl (.cons rfl (.u (.u (.u (.u (.u (.u (.u (.u (.u (.u (.u (.u (.u (.u (.u (.u (.u (.u (.u (.u (.u (.u (.u (.u (.u (.u .nil))))))))))))))))))))))))))))
    · rintro i hc1
      have hf := fillI_len (l := (adN X Y i).1) (n := X.length + 1) (by rw [adN_len]; omega)
      have hc := adN_c uX uY i
      have hx := u64s_getD uX i
      have hy := u64s_getD uY i
      refine zsr <| jo_l (ly_lt rfl rfl) (hd 28 rfl) <| jo_nil <| jc_seq ?_
      refine jc_if rfl (fun h2 => ?_) (fun h2 => ?_)
      · refine jc_skip <| jc_seq <| jc_block <| zsr <| zmv rfl (hd 29 rfl) <| zas rfl (hd 8 rfl) <| jo_nil <| zsr <| zas rfl (hd 9 rfl) <| jo_nil ?_
        refine jc_meetH (G := Unit) (fun _ => True) (fun _ => [(9, .i .u64 (Y.getD i 0)), (30, .u), (31, .u), (32, .u), (33, .u), (34, .u), (35, .u), (36, .u), (37, .u)]) ?_ ?_
        · refine zsr <| zmv rfl (hd 30 rfl) <| zmv rfl (hd 31 rfl) <| jo_l (ly_lenn sl28 rfl) (hd 32 rfl) <| jo_l (ly_lt rfl rfl) (hd 33 rfl) <| jo_nil ?_
          refine jc_if rfl (fun h3 => ?_) (fun h3 => ?_)
          · refine jc_region <| zmv rfl (hd 34 rfl) <| zmv rfl (hd 35 rfl) <| jo_l (ly_ian (i := i) sl28 rfl rfl (by first | rfl | omega) (by omega)) (hd 36 rfl) <| jo_l (ly_ldq one82 rfl rfl) (hd 37 rfl) <| zas rfl (hd 9 rfl) <| jo_nil ?_
            refine ⟨(), ?_, rfl, cov_n 9 rfl rfl ?_⟩
            · trivial
            · exact (.cons (by first | rfl | (show some (V.i .u64 _) = some (V.i .u64 _); rw [getD_ge (by omega)])) (.u (.u (.u (.u (.u (.u (.u (.u .nil)))))))))
          · refine jc_skip ?_
            refine ⟨(), ?_, rfl, cov_n 4 rfl rfl ?_⟩
            · trivial
            · exact (.cons (by first | rfl | (show some (V.i .u64 _) = some (V.i .u64 _); rw [getD_ge (by omega)])) (.u (.u (.u (.u (.u (.u (.u (.u .nil)))))))))
        · rintro _ _; refine jc_region <| zmv rfl (hd 39 rfl) <| zmv rfl (hd 40 rfl) <| zmv rfl (hd 41 rfl) <| zmv rfl (hd 42 rfl) <| jo_l (ly_ian (i := i) sl28 rfl rfl (by first | rfl | omega) (by omega)) (hd 43 rfl) <| jo_l (ly_ldq one82 rfl rfl) (hd 44 rfl) <| zmv rfl (hd 45 rfl) <| zmv rfl (hd 46 rfl) <| jo_h (hy_ext3 (e := add64Entry) Try.func128 rfl rfl (by kernel_rfl) (by kernel_rfl) rfl rfl rfl (fun w => run_add64 _ _ _ hx.1 hy.1 hc.1 hc.2 w) rel_pair) (hd 47 rfl) <| zmv rfl (hd 38 rfl) <| jo_l (ly_ext rfl rfl) (hd 48 rfl) <| jo_l (ly_ext rfl rfl) (hd 49 rfl) ?_; refine jo_l (ly_ia (i := i) sl28 rfl rfl rfl (by first | rfl | omega) (by omega) rfl) (hd 50 rfl) <| jo_st (sy_storei rfl rfl rfl one82 (by omega)) <| zas rfl (hd 7 rfl) <| jo_nil <| jc_region <| jo_l (ly_add rfl rfl (wrap_i64 (by omega) (by omega))) (hd 51 rfl) <| zmv rfl (hd 27 rfl) <| jo_nil ?_
          refine ⟨i + 1, ?_, ?_, (by show [(⟨67, 1, 0, true, ints .u64 _⟩ : Ob)] = [⟨67, 1, 0, true, ints .u64 _⟩]; rw [fill_ad (by omega)]), cov_n 57 rfl rfl ?_⟩
          · omega
          · omega
          · exact (.cons rfl (.cons rfl (.u (.u (.u (.u (.u (.u (.u (.u (.u (.u (.u (.u (.u (.u (.u (.u (.u (.u (.u (.u (.u (.u (.u (.u (.u (.u .nil))))))))))))))))))))))))))))
      · refine jc_exit <| jc_seq ?_
        obtain rfl : i = X.length := by omega
        refine jc_region <| zmv rfl (hd 52 rfl) <| zmv rfl (hd 53 rfl) <| jo_l (ly_lenn sl28 rfl) (hd 54 rfl) <| zmv rfl (hd 55 rfl) <| jo_l (ly_ia (i := X.length) sl28 rfl rfl rfl (by first | rfl | omega) (by omega) rfl) (hd 56 rfl) <| jo_st (sy_storei rfl rfl rfl one82 (by omega)) <| jo_nil <| jc_seq <| jc_H (H' := [⟨67, 1, 0, true, ints .u64 (sumL a b)⟩]) (by show [(⟨67, 1, 0, true, ints .u64 _⟩ : Ob)] = [⟨67, 1, 0, true, ints .u64 (sumL a b)⟩]; rw [fill_last (adN_len _ _ _), hS]) ?_
        have hSl : (sumL a b).length = X.length + 1 := by rw [hS]; simp [adN_len]
        have hSu : u64s (sumL a b) := by rw [hS]; exact u64s_app1 (adN_u _) hc.1 (by omega)
        have hTold : SpecM Try.prog 129 [.o 0 0 0 (X.length + 1)] [⟨67, 1, 0, true, ints .u64 (sumL a b)⟩] (fun o G => o = .ret (.t [.o 0 0 0 (trm (sumL a b)).length, .i .i64 0]) ∧ G = [⟨67, 1, 0, true, ints .u64 (sumL a b)⟩]) := by have h9 := told_m (sumL a b) (X.length + 1) (by omega) (by omega) hSu (by rw [List.take_of_length_le (by omega)]; exact h); rwa [List.take_of_length_le (by omega)] at h9
        refine jc_region <| zmv rfl (hd 57 rfl) ?_
        refine jo_callM Try.f129 (hTold) rfl Try.func129 rfl rfl (ovL_cons rfl ovL_nil) (.cons (.same rfl) .nil) (freshless_cons ints_noFr freshless_nil) (hd 58 rfl) ?_ (fun ch H2 hp => by simp at hp)
        rintro y H2 ⟨hy, rfl⟩; injection hy with hy; subst hy; refine jo_l (ly_ext rfl rfl) (hd 59 rfl) <| jo_l (ly_ext rfl rfl) (hd 60 rfl) <| zas rfl (hd 4 rfl) <| zas rfl (hd 5 rfl) <| jo_nil <| jc_ret ?_
        refine ⟨[0], _, (.t [.o 0 0 0 (trm (sumL a b)).length, .i .i64 0]), (.cons rfl (.cons rfl .nil)), rfl, rfl, (by decide), (by first | exact idless_cons ints_id idless_nil | exact idless_cons rfl idless_nil), ?_⟩
        exact ⟨rfl, rfl⟩

theorem Addf_n (x y : Int) (hx : 0 ≤ x) (hy : 0 ≤ y) (fx : lenV x ≤ 67108864) (fy : lenV y ≤ 67108864) (f : lenV (x + y) ≤ 67108864) : SpecM Try.prog 103 [.n false .u64 (lm x), .n false .u64 (lm y)] [] (fun o G => o = .ret (.t [.o 0 0 0 (lm (x + y)).length, .i .i64 0]) ∧ G = [⟨67, 1, 0, true, ints .u64 (lm (x + y))⟩]) := by
  have h1 := lenV_lm fx
  have h2 := lenV_lm fy
  have ev : vl (sumL (lm x) (lm y)) = x + y := by rw [vl_sumL, vl_lm hx, vl_lm hy]
  have hc := adN_c (a := (swL (trm (lm x)) (trm (lm y))).1) (b := (swL (trm (lm x)) (trm (lm y))).2) (by unfold swL; split; exact u64s_trm (lm_u y); exact u64s_trm (lm_u x)) (by unfold swL; split; exact u64s_trm (lm_u x); exact u64s_trm (lm_u y)) (swL (trm (lm x)) (trm (lm y))).1.length
  have hu : u64s (sumL (lm x) (lm y)) := u64s_app1 (adN_u _) hc.1 (by omega)
  have e := trm_lm hu ev
  have h := (Add_n (lm x) (lm y) (by omega) (by omega) (lm_u x) (lm_u y) (by rw [e, lenN_lm]; exact f)).shrink (trm (sumL (lm x) (lm y))).length
  rw [ints_take, show (sumL (lm x) (lm y)).take (trm (sumL (lm x) (lm y))).length = trm (sumL (lm x) (lm y)) by rw [trm_length]; rfl, e] at h
  exact h

theorem part_12n (l : List Int) (b : Nat) (ys zs : List V) (hlb : 2 ≤ b) (hb2 : b ≤ 36) (hr : rng b l) (hl : l.length ≤ 12) : SpecM Try.prog 140 [.n false .i64 l, .q [.i .i64 (b : Int)], .q ys, .q zs] [] (fun o G => o = .ret (.t [.o 0 0 0 (lm (hv b l)).length, .i .i64 0]) ∧ G = [⟨67, 1, 0, true, ints .u64 (lm (hv b l))⟩]) := by
  refine specS_of [(0, .n false .i64 l), (1, .q [.i .i64 (b : Int)]), (2, .q ys), (3, .q zs)] rfl Try.func140 rfl (zlb rfl) fun Γ hN hds hL hR => ?_
  have hd := hdOf 89 hN
  refine zsr <| zas rfl (hd 5 rfl) <| zas rfl (hd 6 rfl) <| jo_nil <| jc_seq <| zsr <| zmv rfl (hd 16 rfl) <| jo_l (ly_lenn sl1140 rfl) (hd 17 rfl) <| jo_l (ly_tt (ly_le rfl rfl) (by omega)) (hd 18 rfl) <| jo_nil <| jc_litt rfl ?_; refine zsr <| zas rfl (hd 7 rfl) <| jo_nil <| jc_seq <| zsr <| zmv rfl (hd 19 rfl) <| jo_l (ly_lenn sl1140 rfl) (hd 20 rfl) <| zmv rfl (hd 21 rfl) <| jo_nil <| jc_block ?_
  refine jc_loopF (G := Nat) (fun i => i ≤ l.length) (fun i => [(7, .i .u64 (hv b (l.take i))), (21, .i .i64 (i : Int)), (9, .u), (22, .u), (23, .u), (24, .u), (25, .u), (26, .u), (27, .u), (28, .u), (29, .u), (30, .u), (31, .u), (32, .u)]) (fun _ => _) (fun i => l.length - i) 0 ?_ ?_ rfl ?_
  · exact Nat.zero_le _
  · exact (.cons rfl (.cons rfl (.u (.u (.u (.u (.u (.u (.u (.u (.u (.u (.u (.u .nil))))))))))))))
  · rintro i hi
    have hrt := rng_take hr i
    have hn0 := hv_nonneg hrt
    have hn1 := hv_12 hb2 hlb hrt (by rw [List.length_take]; omega)
    have hx := rng_getD (by omega) hr i
    refine zsr <| jo_l (ly_lt rfl rfl) (hd 22 rfl) <| jo_nil <| jc_seq ?_
    refine jc_if rfl (fun h2 => ?_) (fun h2 => ?_)
    · have hrm := rng_take hr (i + 1)
      have hm0 := hv_nonneg hrm
      have hm1 := hv_12 hb2 hlb hrm (by rw [List.length_take]; omega)
      have hst := hv_step (b := b) (l := l) (i := i) (by omega)
      refine jc_skip <| jc_seq <| jc_block <| zsr <| jo_l (ly_ian (i := i) sl1140 rfl rfl (by first | rfl | omega) (by omega)) (hd 23 rfl) <| jo_l (ly_ldq one3 rfl rfl) (hd 24 rfl) <| zas rfl (hd 9 rfl) <| jo_nil <| jc_region <| zmv rfl (hd 25 rfl) <| jo_l (ly_ldq one3 rfl rfl) (hd 26 rfl) <| jo_l (ly_conv und3 und82 rfl (r := (b : Int)) (wrap_u64 (by omega) (by omega))) (hd 27 rfl) ?_; refine jo_l (ly_mul rfl rfl (r := (hv b (l.take i)) * b) (wrap_u64 (Int.mul_nonneg hn0 (by omega)) (by omega))) (hd 28 rfl) <| zmv rfl (hd 29 rfl) <| jo_l (ly_conv und3 und82 rfl (r := l.getD i 0) (wrap_u64 hx.1 (by omega))) (hd 30 rfl) <| jo_l (ly_add rfl rfl (r := hv b (l.take (i + 1))) (by rw [← hv_step (by omega)]; exact wrap_u64 hm0 (by omega))) (hd 31 rfl) <| zas rfl (hd 7 rfl) <| jo_nil <| jc_region <| jo_l (ly_add rfl rfl (r := ((i + 1 : Nat) : Int)) (by rw [wrap_i64 (by omega) (by omega)]; omega)) (hd 32 rfl) <| zmv rfl (hd 21 rfl) <| jo_nil ?_
      refine ⟨i + 1, ?_, ?_, rfl, cov_n 28 rfl rfl ?_⟩
      · omega
      · omega
      · exact (.cons rfl (.cons rfl (.u (.u (.u (.u (.u (.u (.u (.u (.u (.u (.u (.u .nil))))))))))))))
    · obtain rfl : i = l.length := by omega
      refine jc_exit <| zsr <| zmv rfl (hd 33 rfl) ?_
      refine jo_callN Try.f58 (From_n (hv b (l.take l.length))) (fun o G ⟨_, h⟩ => h ▸ idless_cons ints_id idless_nil) rfl Try.func58 rfl rfl (ovL_cons rfl ovL_nil) (.cons .i .nil) (hd 34 rfl) ?_ (fun ch G hp => by simp at hp)
      rintro y G ⟨hy, rfl⟩; injection hy with hy; subst hy
      show JO _ _ _ _ ((34, .o 0 0 0 (fl (hv b (l.take l.length))).length) :: _) _ _
      refine zas rfl (hd 5 rfl) <| zas rfl (hd 6 rfl) <| jo_nil <| jc_ret ?_
      refine ⟨[0], _, (.t [.o 0 0 0 (fl (hv b (l.take l.length))).length, .i .i64 0]), (.cons rfl (.cons rfl .nil)), rfl, rfl, (by decide), (by first | exact idless_cons ints_id idless_nil | exact idless_cons rfl idless_nil), ?_⟩
      rw [show fl (hv b (l.take l.length)) = lm (hv b l) by rw [List.take_length] at hn0 hn1 ⊢; exact fl_lm hn0 (by omega)]
      exact ⟨rfl, rfl⟩

theorem part_bigN (b g : Nat) (hlb : 2 ≤ b) (hb2 : b ≤ 36) (l : List Int) (n : Nat) (hr : rng b l) (hl : l.length ≤ 1099511627776) (hv9 : lenV (hv b l) ≤ 67108864) (hk9 : lenV (PW b ((l.length + 1) / 2)) ≤ 67108864) (hn : l.length ≤ n) (h12 : 12 < l.length) (ih : ∀ (l2 : List Int) (n : Nat), rng b l2 → l2.length ≤ 1099511627776 → lenV (hv b l2) ≤ 67108864 → lenV (PW b ((l2.length + 1) / 2)) ≤ 67108864 → l2.length ≤ n → l2.length < l.length → SpecX Try.prog 140 [.n false .i64 l2, .q [.i .i64 (b : Int)], .q [cyc 140 [.q [.i .i64 (b : Int)]] [.q [.f 139 [.q [.c (.map (some g))], .q [.i .i64 (b : Int)]]]] n], .q [.f 139 [.q [.c (.map (some g))], .q [.i .i64 (b : Int)]]]] (cF b) g (fun o => o = .ret (.t [.n false .u64 (lm (hv b l2)), .i .i64 0]))) : SpecXN Try.prog 140 [.n false .i64 l, .q [.i .i64 (b : Int)], .q [cyc 140 [.q [.i .i64 (b : Int)]] [.q [.f 139 [.q [.c (.map (some g))], .q [.i .i64 (b : Int)]]]] n], .q [.f 139 [.q [.c (.map (some g))], .q [.i .i64 (b : Int)]]]] (cF b) g (fun o G => o = .ret (.t [.o 0 0 0 (lm (hv b l)).length, .i .i64 0]) ∧ G = [⟨67, 1, 0, true, ints .u64 (lm (hv b l))⟩]) := by
  refine specXN_of [(0, .n false .i64 l), (1, .q [.i .i64 (b : Int)]), (2, .q [cyc 140 [.q [.i .i64 (b : Int)]] [.q [.f 139 [.q [.c (.map (some g))], .q [.i .i64 (b : Int)]]]] n]), (3, .q [.f 139 [.q [.c (.map (some g))], .q [.i .i64 (b : Int)]]])] rfl Try.func140 rfl (zlb rfl) fun Γ hN hds hΓ => ?_
  have hdM : ∀ d, Nat.blt d 89 = true → d < Γ.N := fun d h => by rw [hN]; exact Nat.le_of_ble_eq_true h
  have hd := hdM
  obtain ⟨n, rfl⟩ : ∃ m, n = m + 1 := ⟨n - 1, by omega⟩
  have hla : (l.take (l.length - (l.length / 2))).length = l.length - (l.length / 2) := by rw [List.length_take]; omega
  have hlb0 : (l.drop (l.length - (l.length / 2))).length = (l.length / 2) := by rw [List.length_drop]; omega
  have hra := rng_take hr (l.length - (l.length / 2))
  have hrb := rng_drop hr (l.length - (l.length / 2))
  have hsp := hv_split (b := b) (k := (l.length / 2)) l (by omega)
  have hna := hv_nonneg hra
  have hnb := hv_nonneg hrb
  have hnl := hv_nonneg hr
  obtain ⟨hfa, hfb, hfm⟩ := half_fit (k := (l.length / 2)) hlb hr (by omega) hv9
  have hfp : lenV (PW b (l.length / 2)) ≤ 67108864 := Nat.le_trans (PW_mono hlb (by omega)) hk9
  have hpn := PW_nn (v := b) (n := (l.length / 2))
  have hka : lenV (PW b (((l.take (l.length - (l.length / 2))).length + 1) / 2)) ≤ 67108864 := Nat.le_trans (PW_mono hlb (by omega)) hk9
  have hkb : lenV (PW b (((l.drop (l.length - (l.length / 2))).length + 1) / 2)) ≤ 67108864 := Nat.le_trans (PW_mono hlb (by omega)) hk9
  refine jcm_toP hΓ rfl ?_
  intro Γ1 hN1 hds1 hL hR back backE
  have hd : ∀ d, Nat.blt d 89 = true → d < Γ1.N := fun d h => by rw [hN1]; exact hdM d h
  refine jcp_seq <| jc_region <| zas rfl (hd 5 rfl) <| zas rfl (hd 6 rfl) <| jo_nil <| back _ _ _ _ rfl ?_
  have hd := hdM
  refine jcm_seq <| jcm_toP hΓ rfl ?_
  intro Γ1 hN1 hds1 hL hR back backE
  have hd : ∀ d, Nat.blt d 89 = true → d < Γ1.N := fun d h => by rw [hN1]; exact hdM d h
  refine jcp_seq <| jc_region <| zmv rfl (hd 16 rfl) <| jo_l (ly_lenn sl1140 rfl) (hd 17 rfl) <| jo_l (ly_ff (ly_le rfl rfl) (by omega)) (hd 18 rfl) <| jo_nil <| back _ _ _ _ rfl ?_
  have hd := hdM
  refine jcm_litf rfl <| jcm_skip <| jcm_toP hΓ rfl ?_
  intro Γ1 hN1 hds1 hL hR back backE
  have hd : ∀ d, Nat.blt d 89 = true → d < Γ1.N := fun d h => by rw [hN1]; exact hdM d h
  refine jcp_seq <| jc_region <| zmv rfl (hd 35 rfl) <| jo_l (ly_lenn sl1140 rfl) (hd 36 rfl) <| jo_l (ly_quo rfl rfl (by omega) (r := ((l.length / 2 : Nat) : Int)) (by rw [show ((l.length : Int).tdiv 2) = ((l.length / 2 : Nat) : Int) from rfl]; exact wrap_i64 (by omega) (by omega))) (hd 37 rfl) <| zas rfl (hd 10 rfl) <| jo_nil <| back _ _ _ _ rfl ?_
  have hd := hdM
  refine jcm_seq <| jcm_draw (n := 13) _ rfl mixed <| jam_l2 0 [7, 8, 9, 10, 11, 12] (lo_l (ly_ldqf one1165 rfl rfl) (hd 39 rfl)) rfl (by kernel_rfl) (by kernel_rfl) (by kernel_rfl) (by kernel_rfl) (fun _ _ _ h => h) <| jam_l2 1 [6, 7, 8, 9, 10, 11, 12] (lo_l (ly_mv rfl) (hd 40 rfl)) rfl (by kernel_rfl) (by kernel_rfl) (by kernel_rfl) (by kernel_rfl) (fun _ _ _ h => h) <| jam_l2 2 [3, 5, 6, 7, 8, 9, 10, 11, 12] (lo_l (ly_mv rfl) (hd 41 rfl)) rfl (by kernel_rfl) (by kernel_rfl) (by kernel_rfl) (by kernel_rfl) (fun _ _ _ h => h) <| jam_l2 3 [5, 6, 7, 8, 9, 10, 11, 12] (lo_l (ly_lenn sl1140 rfl) (hd 42 rfl)) rfl (by kernel_rfl) (by kernel_rfl) (by kernel_rfl) (by kernel_rfl) (fun _ _ _ h => h) <| jam_l2 4 [5, 6, 7, 8, 9, 10, 11, 12] (lo_l (ly_mv rfl) (hd 43 rfl)) rfl (by kernel_rfl) (by kernel_rfl) (by kernel_rfl) (by kernel_rfl) (fun _ _ _ h => h) <| jam_l2 5 [6, 7, 8, 9, 10, 11, 12] (lo_l (ly_sub rfl rfl (r := ((l.length - (l.length / 2) : Nat) : Int)) (by rw [wrap_i64 (by omega) (by omega)]; omega)) (hd 44 rfl)) rfl (by kernel_rfl) (by kernel_rfl) (by kernel_rfl) (by kernel_rfl) (fun _ _ _ h => h) <| jam_l2 6 [7, 8, 9, 10, 11, 12] (lo_l (ly_is (ly_sln sl1140 rfl bnd_none (bnd_some' rfl rfl) (.inl rfl) (by omega) (by omega)) (show V.n _ _ _ = V.n false .i64 (l.take (l.length - (l.length / 2))) by rw [List.drop_zero])) (hd 45 rfl)) rfl (by kernel_rfl) (by kernel_rfl) (by kernel_rfl) (by kernel_rfl) (fun _ _ _ h => h) ?_
  refine jam_1X Try.f140 7 hΓ (ih (l.take (l.length - (l.length / 2))) n hra (by omega) hfa hka (by omega) (by omega)) rfl (by kernel_rfl) rfl Try.func140 rfl rfl (ovL_cons rfl ovL_nil) (.cons .n (.cons .q (.cons .q (.cons .q .nil)))) (hd 46 rfl) ?_ (fun ch hp => by simp at hp)
  rintro _ ⟨⟩; refine jam_l2 8 [9, 10, 11, 12] (lo_l (ly_mv rfl) (hd 38 rfl)) rfl (by kernel_rfl) (by kernel_rfl) (by kernel_rfl) (by kernel_rfl) (fun _ _ _ h => h) <| jam_l2 9 [11, 12] (lo_l (ly_ext rfl rfl) (hd 47 rfl)) rfl (by kernel_rfl) (by kernel_rfl) (by kernel_rfl) (by kernel_rfl) (fun _ _ _ h => h) <| jam_l2 10 [12] (lo_l (ly_ext rfl rfl) (hd 48 rfl)) rfl (by kernel_rfl) (by kernel_rfl) (by kernel_rfl) (by kernel_rfl) (fun _ _ _ h => h) <| jam_l2 11 [12] (lo_l (ly_as rfl) (hd 11 rfl)) rfl (by kernel_rfl) (by kernel_rfl) (by kernel_rfl) (by kernel_rfl) (fun _ _ _ h => h) <| jam_l2 12 [] (lo_l (ly_as rfl) (hd 12 rfl)) rfl (by kernel_rfl) (by kernel_rfl) (by kernel_rfl) (by kernel_rfl) (fun _ _ _ h => h) <| jam_nil (by kernel_rfl) <| jcm_seq <| jcm_toP hΓ rfl ?_
  intro Γ1 hN1 hds1 hL hR back backE
  have hd : ∀ d, Nat.blt d 89 = true → d < Γ1.N := fun d h => by rw [hN1]; exact hdM d h
  refine jcp_seq <| jc_region <| zmv rfl (hd 49 rfl) <| jo_l (ly_ff (ly_ne rfl rfl) (by decide)) (hd 50 rfl) <| jo_nil <| back _ _ _ _ rfl ?_
  have hd := hdM
  refine jcm_litf rfl <| jcm_skip <| jcm_seq <| jcm_draw (n := 13) _ rfl mixed <| jam_l2 0 [7, 8, 9, 10, 11, 12] (lo_l (ly_ldqf one1165 rfl rfl) (hd 53 rfl)) rfl (by kernel_rfl) (by kernel_rfl) (by kernel_rfl) (by kernel_rfl) (fun _ _ _ h => h) <| jam_l2 1 [6, 7, 8, 9, 10, 11, 12] (lo_l (ly_mv rfl) (hd 54 rfl)) rfl (by kernel_rfl) (by kernel_rfl) (by kernel_rfl) (by kernel_rfl) (fun _ _ _ h => h) <| jam_l2 2 [3, 5, 6, 7, 8, 9, 10, 11, 12] (lo_l (ly_mv rfl) (hd 55 rfl)) rfl (by kernel_rfl) (by kernel_rfl) (by kernel_rfl) (by kernel_rfl) (fun _ _ _ h => h) <| jam_l2 3 [5, 6, 7, 8, 9, 10, 11, 12] (lo_l (ly_lenn sl1140 rfl) (hd 56 rfl)) rfl (by kernel_rfl) (by kernel_rfl) (by kernel_rfl) (by kernel_rfl) (fun _ _ _ h => h) <| jam_l2 4 [5, 6, 7, 8, 9, 10, 11, 12] (lo_l (ly_mv rfl) (hd 57 rfl)) rfl (by kernel_rfl) (by kernel_rfl) (by kernel_rfl) (by kernel_rfl) (fun _ _ _ h => h) <| jam_l2 5 [6, 7, 8, 9, 10, 11, 12] (lo_l (ly_sub rfl rfl (r := ((l.length - (l.length / 2) : Nat) : Int)) (by rw [wrap_i64 (by omega) (by omega)]; omega)) (hd 58 rfl)) rfl (by kernel_rfl) (by kernel_rfl) (by kernel_rfl) (by kernel_rfl) (fun _ _ _ h => h) <| jam_l2 6 [7, 8, 9, 10, 11, 12] (lo_l (ly_is (ly_sln sl1140 rfl (bnd_some' rfl rfl) bnd_none (.inl rfl) (by omega) (by omega)) (show V.n _ _ _ = V.n false .i64 (l.drop (l.length - (l.length / 2))) by rw [List.take_length])) (hd 59 rfl)) rfl (by kernel_rfl) (by kernel_rfl) (by kernel_rfl) (by kernel_rfl) (fun _ _ _ h => h) ?_
  refine jam_1X Try.f140 7 hΓ (ih (l.drop (l.length - (l.length / 2))) n hrb (by omega) hfb hkb (by omega) (by omega)) rfl (by kernel_rfl) rfl Try.func140 rfl rfl (ovL_cons rfl ovL_nil) (.cons .n (.cons .q (.cons .q (.cons .q .nil)))) (hd 60 rfl) ?_ (fun ch hp => by simp at hp)
  rintro _ ⟨⟩; refine jam_l2 8 [9, 10, 11, 12] (lo_l (ly_mv rfl) (hd 52 rfl)) rfl (by kernel_rfl) (by kernel_rfl) (by kernel_rfl) (by kernel_rfl) (fun _ _ _ h => h) <| jam_l2 9 [11, 12] (lo_l (ly_ext rfl rfl) (hd 61 rfl)) rfl (by kernel_rfl) (by kernel_rfl) (by kernel_rfl) (by kernel_rfl) (fun _ _ _ h => h) <| jam_l2 10 [12] (lo_l (ly_ext rfl rfl) (hd 62 rfl)) rfl (by kernel_rfl) (by kernel_rfl) (by kernel_rfl) (by kernel_rfl) (fun _ _ _ h => h) <| jam_l2 11 [12] (lo_l (ly_as rfl) (hd 13 rfl)) rfl (by kernel_rfl) (by kernel_rfl) (by kernel_rfl) (by kernel_rfl) (fun _ _ _ h => h) <| jam_l2 12 [] (lo_l (ly_as rfl) (hd 12 rfl)) rfl (by kernel_rfl) (by kernel_rfl) (by kernel_rfl) (by kernel_rfl) (fun _ _ _ h => h) <| jam_nil (by kernel_rfl) <| jcm_seq <| jcm_toP hΓ rfl ?_
  intro Γ1 hN1 hds1 hL hR back backE
  have hd : ∀ d, Nat.blt d 89 = true → d < Γ1.N := fun d h => by rw [hN1]; exact hdM d h
  refine jcp_seq <| jc_region <| zmv rfl (hd 63 rfl) <| jo_l (ly_ff (ly_ne rfl rfl) (by decide)) (hd 64 rfl) <| jo_nil <| back _ _ _ _ rfl ?_
  have hd := hdM
  refine jcm_litf rfl <| jcm_skip <| jcm_seq <| jcm_region <| jom_l (ly_ldqf one1163 rfl rfl) (hd 67 rfl) <| jom_l (ly_mv rfl) (hd 68 rfl) ?_
  refine jom_callX Try.f139 hΓ (power_x b (l.length / 2) g hlb hb2 (by omega)) rfl Try.func139 rfl rfl (ovL_cons rfl ovL_nil) (.cons .i (.cons .q (.cons .q .nil))) (hd 69 rfl) ?_ (fun ch hp => by simp at hp)
  rintro _ ⟨⟩; refine jom_l (ly_mv rfl) (hd 66 rfl) <| jom_l (ly_ext rfl rfl) (hd 70 rfl) <| jom_l (ly_ext rfl rfl) (hd 71 rfl) <| jom_l (ly_as rfl) (hd 14 rfl) <| jom_l (ly_as rfl) (hd 12 rfl) <| jom_nil <| jcm_seq <| jcm_toP hΓ rfl ?_
  intro Γ1 hN1 hds1 hL hR back backE
  have hd : ∀ d, Nat.blt d 89 = true → d < Γ1.N := fun d h => by rw [hN1]; exact hdM d h
  refine jcp_seq <| jc_region <| zmv rfl (hd 72 rfl) <| jo_l (ly_ff (ly_ne rfl rfl) (by decide)) (hd 73 rfl) <| jo_nil <| back _ _ _ _ rfl ?_
  have hd := hdM
  refine jcm_litf rfl <| jcm_skip <| jcm_toP hΓ rfl ?_
  intro Γ1 hN1 hds1 hL hR back backE
  have hd : ∀ d, Nat.blt d 89 = true → d < Γ1.N := fun d h => by rw [hN1]; exact hdM d h
  refine jcp_seq <| jc_region <| zmv rfl (hd 76 rfl) <| zmv rfl (hd 77 rfl) ?_
  refine jo_call Try.f67 (Mul_f (hv b (l.take (l.length - (l.length / 2)))) (PW b (l.length / 2)) hna hpn (by omega) (by omega) hfm) rfl Try.func67 rfl rfl (ovL_cons rfl (ovL_cons rfl ovL_nil)) (.cons .n (.cons .n .nil)) (hd 78 rfl) ?_ (fun ch hp => by simp at hp)
  rintro _ ⟨⟩; refine zmv rfl (hd 75 rfl) <| jo_l (ly_ext rfl rfl) (hd 79 rfl) <| jo_l (ly_ext rfl rfl) (hd 80 rfl) <| zas rfl (hd 15 rfl) <| zas rfl (hd 12 rfl) <| jo_nil <| back _ _ _ _ rfl ?_
  have hd := hdM
  refine jcm_seq <| jcm_toP hΓ rfl ?_
  intro Γ1 hN1 hds1 hL hR back backE
  have hd : ∀ d, Nat.blt d 89 = true → d < Γ1.N := fun d h => by rw [hN1]; exact hdM d h
  refine jcp_seq <| jc_region <| zmv rfl (hd 81 rfl) <| jo_l (ly_ff (ly_ne rfl rfl) (by decide)) (hd 82 rfl) <| jo_nil <| back _ _ _ _ rfl ?_
  have hd := hdM
  refine jcm_litf rfl <| jcm_skip <| jcm_toPH hΓ rfl ?_
  intro Γ1 hN1 hds1 hL hR backH
  have hd : ∀ d, Nat.blt d 89 = true → d < Γ1.N := fun d h => by rw [hN1]; exact hdM d h
  refine jcp_seq <| jc_region <| zmv rfl (hd 84 rfl) <| zmv rfl (hd 85 rfl) ?_
  refine jo_callN Try.f103 (Addf_n (hv b (l.take (l.length - (l.length / 2))) * PW b (l.length / 2)) (hv b (l.drop (l.length - (l.length / 2)))) (Int.mul_nonneg hna hpn) hnb hfm (by omega) (by rw [← hsp]; omega)) (fun o G ⟨_, h⟩ => h ▸ idless_cons ints_id idless_nil) rfl Try.func103 rfl rfl (ovL_cons rfl (ovL_cons rfl ovL_nil)) (.cons .n (.cons .n .nil)) (hd 86 rfl) ?_ (fun ch G hp => by simp at hp)
  rintro y G ⟨hy, rfl⟩; injection hy with hy; subst hy
  show JO _ _ _ _ ((86, .t [.o 0 0 0 (lm (hv b (l.take (l.length - (l.length / 2))) * PW b (l.length / 2) + hv b (l.drop (l.length - (l.length / 2))))).length, .i .i64 0]) :: _) _ _
  refine jo_l (ly_ext rfl rfl) (hd 87 rfl) <| jo_l (ly_ext rfl rfl) (hd 88 rfl) <| zas rfl (hd 5 rfl) <| zas rfl (hd 6 rfl) <| jo_nil ?_; refine jcp_retB backH fun a w ρ s => ?_
  refine ⟨_, _, ρ, [0], _, (.t [.o 0 0 0 (lm (hv b (l.take (l.length - (l.length / 2))) * PW b (l.length / 2) + hv b (l.drop (l.length - (l.length / 2))))).length, .i .i64 0]), s, (.cons rfl (.cons rfl .nil)), rfl, rfl, (by decide), (idless_cons ints_id idless_nil), ?_⟩
  rw [hsp]
  exact ⟨rfl, rfl⟩

theorem part_xN (b g : Nat) (hlb : 2 ≤ b) (hb2 : b ≤ 36) (l : List Int) (n : Nat) (hr : rng b l) (hl : l.length ≤ 1099511627776) (hv9 : lenV (hv b l) ≤ 67108864) (hk9 : lenV (PW b ((l.length + 1) / 2)) ≤ 67108864) (hn : l.length ≤ n) : SpecXN Try.prog 140 [.n false .i64 l, .q [.i .i64 (b : Int)], .q [cyc 140 [.q [.i .i64 (b : Int)]] [.q [.f 139 [.q [.c (.map (some g))], .q [.i .i64 (b : Int)]]]] n], .q [.f 139 [.q [.c (.map (some g))], .q [.i .i64 (b : Int)]]]] (cF b) g (fun o G => o = .ret (.t [.o 0 0 0 (lm (hv b l)).length, .i .i64 0]) ∧ G = [⟨67, 1, 0, true, ints .u64 (lm (hv b l))⟩]) := by
  by_cases h : l.length ≤ 12
  · exact specXN_of_spec (part_12n l b _ _ hlb hb2 hr h)
  · exact part_bigN b g hlb hb2 l n hr hl hv9 hk9 hn (by omega) fun l2 n2 h1 h2 h5 h6 h3 h4 => part_x b g hlb hb2 (l2.length + 1) l2 n2 h1 h2 h5 h6 h3 (by omega)

theorem build_n (l : List Int) (b : Nat) (hlb : 2 ≤ b) (hb2 : b ≤ 36) (hr : rng b l) (hl : l.length ≤ 1099511627776) (hv9 : lenV (hv b l) ≤ 67108864) : SpecM Try.prog 113 [.n false .i64 l, .i .i64 (b : Int)] [] (fun o G => o = .ret (.t [.o 0 0 0 (lm (hv b l)).length, .i .i64 0]) ∧ G = [⟨67, 1, 0, true, ints .u64 (lm (hv b l))⟩]) := by
  refine specS_of [(0, .n false .i64 l), (1, .i .i64 (b : Int))] rfl Try.func113 rfl (zlb rfl) fun Γ hN hds hL hR => ?_
  have hd := hdOf 31 hN
  refine zsr <| jo_h (hy_box (id := 0) (n := 1) rfl rfl rfl (by decide) rfl) (hd 3 rfl) <| zas rfl (hd 4 rfl) <| zas rfl (hd 5 rfl) <| jo_nil ?_
  refine jc_meetH (G := Nat) (fun i => i ≤ l.length ∧ hv b (l.drop i) = hv b l ∧ ((l.drop i).length = 0 ∨ (l.drop i).getD 0 0 ≠ 0)) (fun i => [(0, .n false .i64 (l.drop i)), (9, .u), (10, .u), (11, .u), (12, .u), (13, .u), (14, .u), (15, .u), (16, .u), (17, .u), (18, .u), (19, .u)]) ?_ ?_
  · refine jc_block ?_
    refine jc_loopF (G := Nat) (fun i => i ≤ l.length ∧ hv b (l.drop i) = hv b l) (fun i => [(0, .n false .i64 (l.drop i)), (9, .u), (10, .u), (11, .u), (12, .u), (13, .u), (14, .u), (15, .u), (16, .u), (17, .u), (18, .u), (19, .u)]) (fun _ => _) (fun i => l.length - i) 0 ?_ ?_ rfl ?_
    · exact ⟨Nat.zero_le _, rfl⟩
    · exact (.cons rfl (.u (.u (.u (.u (.u (.u (.u (.u (.u (.u (.u .nil))))))))))))
    · rintro i ⟨hi, hvi⟩
      have hld : (l.drop i).length = l.length - i := List.length_drop ..
      refine jc_seq <| zsr <| zmv rfl (hd 9 rfl) <| jo_l (ly_lenn sl1140 rfl) (hd 10 rfl) <| jo_l (ly_gt rfl rfl) (hd 11 rfl) <| zmv rfl (hd 12 rfl) ?_
      refine jo_ifp 12 rfl (fun h1 => ?_) (fun h1 => ?_)
      · refine jo_g 12 rfl rfl (ly_mv rfl) (hd 13 rfl) <| jo_g 12 rfl rfl (ly_ian (i := 0) sl1140 rfl rfl rfl (by omega)) (hd 14 rfl) <| jo_g 12 rfl rfl (ly_ldq one3 rfl rfl) (hd 15 rfl) <| jo_g 12 rfl rfl (ly_eq rfl rfl) (hd 16 rfl) <| jo_l (ly_pick_t rfl rfl) (hd 17 rfl) <| jo_nil ?_
        refine jc_if rfl (fun h2 => ?_) (fun h2 => ?_)
        · refine jc_skip <| jc_block <| jc_region <| zmv rfl (hd 18 rfl) <| jo_l (ly_sln sl1140 rfl (bnd_some' rfl rfl) bnd_none (.inl rfl) (by show 1 ≤ _; omega) (by omega)) (hd 19 rfl) <| zas rfl (hd 0 rfl) <| jo_nil ?_
          refine ⟨i + 1, ?_, ?_, rfl, cov_n 25 rfl rfl ?_⟩
          · exact ⟨by omega, hv_dropI (by assumption) hvi⟩
          · omega
          · exact (.cons (by show some (V.n _ _ _) = some (V.n _ _ _); rw [List.take_length, List.drop_drop]) (.u (.u (.u (.u (.u (.u (.u (.u (.u (.u (.u .nil))))))))))))
        · refine jc_exit ?_
          refine ⟨i, ?_, rfl, cov_n 22 rfl rfl ?_⟩
          · exact ⟨hi, hvi, by first | (left; omega) | (right; assumption)⟩
          · exact (.cons rfl (.u (.u (.u (.u (.u (.u (.u (.u (.u (.u (.u .nil))))))))))))
      · refine jo_s 12 rfl rfl rfl (hd 13 rfl) <| jo_s 12 rfl rfl rfl (hd 14 rfl) <| jo_s 12 rfl rfl rfl (hd 15 rfl) <| jo_s 12 rfl rfl rfl (hd 16 rfl) <| jo_l (ly_pick_f rfl rfl) (hd 17 rfl) <| jo_nil <| jc_litf rfl <| jc_exit ?_
        refine ⟨i, ?_, rfl, cov_n 22 rfl rfl ?_⟩
        · exact ⟨hi, hvi, by first | (left; omega) | (right; assumption)⟩
        · exact (.cons rfl (.u (.u (.u (.u (.u (.u (.u (.u (.u (.u (.u .nil))))))))))))
  · rintro i ⟨hi, hvi, hdi⟩
    have hld : (l.drop i).length = l.length - i := List.length_drop ..
    have hv9i : lenV (hv b (l.drop i)) ≤ 67108864 := by rw [hvi]; exact hv9
    have hlli := lead_len hlb (rng_drop hr i) hv9i hdi
    have hk9 := lead_fit hlb hb2 (rng_drop hr i) hv9i hdi
    refine jc_seq <| zsr <| zmv rfl (hd 20 rfl) <| jo_l (ly_lenn sl1140 rfl) (hd 21 rfl) <| jo_l (ly_ff (ly_gt rfl rfl) (by omega)) (hd 22 rfl) <| jo_nil <| jc_litf rfl <| jc_skip <| jc_frzp 3 rfl rfl rfl rfl hL <| jc_keep (F' := [(0, _), (3, _)]) (.cons rfl (.cons rfl .nil)) ?_
    have hd0 := hd
    have hLo := hL
    have hRo := hR
    refine jc_enterM3 (cF b) (hd 23 rfl) rfl rfl hR ?_
    intro Γ' Γ1 g hN1 hds1 hL hR hN' hΓ hreb back
    have hdM : ∀ d, Nat.blt d 31 = true → d < Γ'.N := fun d h => by rw [hN']; exact hd0 d h
    have hd : ∀ d, Nat.blt d 31 = true → d < Γ1.N := fun d h => by rw [hN1]; exact hd0 d h
    refine jo_h (hy_alloc (id := 0) zero1162 (by decide) rfl (by decide) rfl) (hd 6 rfl) <| jo_st (sy_store rfl rfl rfl siz1162 rfl rfl (zlb rfl)) <| jo_nil <| jcp_seq <| jc_region <| jo_h (hy_alloc (id := 1) zero1163 (by decide) rfl (by decide) rfl) (hd 7 rfl) <| jo_nil <| jcp_frzp 6 rfl rfl rfl rfl hL <| jcp_seq <| jc_region <| jo_l (ly_mf (ovL_cons rfl (ovL_cons rfl ovL_nil))) (hd 24 rfl) <| jo_st (sy_store rfl rfl rfl siz1163 rfl rfl (zlb rfl)) <| jo_nil ?_; refine jcp_seq <| jc_region <| jo_h (hy_alloc (id := 2) zero1165 (by decide) rfl (by decide) rfl) (hd 8 rfl) <| jo_nil <| jcp_frzF 7 rfl rfl rfl hL <| jcp_seq <| jc_region <| jo_l (ly_mf (ovL_cons rfl (ovL_cons rfl (ovL_cons rfl ovL_nil)))) (hd 25 rfl) <| jo_st (sy_store rfl rfl rfl siz1165 rfl rfl (zlb rfl)) <| jo_nil <| jcp_cyc 8 [.q [.i .i64 (b : Int)]] [.q [.f 139 [.q [.c (.map (some g))], .q [.i .i64 (b : Int)]]]] (l.length + 1) rfl rfl rfl rfl hL <| jcp_keep (F' := [(0, _), (8, _)]) (.cons rfl (.cons rfl .nil)) <| back _ _ _ _ rfl ?_
    have hd := hdM
    refine jcm_seq <| jcm_region <| jom_l (ly_ldqf one1165 rfl rfl) (hd 26 rfl) <| jom_l (ly_mv rfl) (hd 27 rfl) ?_
    refine jom_callXN Try.f140 hΓ hreb (part_xN b g hlb hb2 (l.drop i) l.length (rng_drop hr i) (by omega) hv9i hk9 (by omega)) rfl Try.func140 rfl rfl (ovL_cons rfl ovL_nil) (.cons .n (.cons .q (.cons .q (.cons .q .nil)))) (hd 28 rfl) ?_ (fun ch H hp => by simp at hp)
    rintro y G ⟨hy, rfl⟩; injection hy with hy; subst hy
    have hd := hd0
    have hL := hLo
    have hR := hRo
    show JO _ _ _ _ ((28, .t [.o 0 0 0 (lm (hv b (l.drop i))).length, .i .i64 0]) :: _) _ _
    refine jo_l (ly_ext rfl rfl) (hd 29 rfl) <| jo_l (ly_ext rfl rfl) (hd 30 rfl) <| zas rfl (hd 4 rfl) <| zas rfl (hd 5 rfl) <| jo_nil <| jc_ret ?_
    refine ⟨[0], _, (.t [.o 0 0 0 (lm (hv b (l.drop i))).length, .i .i64 0]), (.cons rfl (.cons rfl .nil)), rfl, rfl, (by decide), (idless_cons ints_id idless_nil), ?_⟩
    rw [hvi]
    exact ⟨rfl, rfl⟩


theorem Parse_n (s : ByteArray) (b : Nat) (hlb : 2 ≤ b) (hb2 : b ≤ 36) (hs0 : s.size ≠ 0) (hs : s.size < 1099511627776) (hval : ∀ i, i < s.size → dgv (byteAt s i) < b) (hr : rng b (dgs s)) (hv9 : lenV (hv b (dgs s)) ≤ 67108864) : SpecM Try.prog 76 [.s s, .i .i64 (b : Int)] [] (fun o G => o = .ret (.t [.o 0 0 0 (lm (hv b (dgs s))).length, .i .i64 0]) ∧ G = [⟨67, 1, 0, true, ints .u64 (lm (hv b (dgs s)))⟩]) := by
  refine specS_of [(0, .s s), (1, .i .i64 (b : Int))] rfl Try.func76 rfl (zlb rfl) fun Γ hN hds hL hR => ?_
  have hd := hdOf 60 hN
  refine zsr <| zas rfl (hd 4 rfl) <| zas rfl (hd 5 rfl) <| jo_nil <| jc_seq <| zsr <| zmv rfl (hd 10 rfl) ?_
  refine jo_call Try.f112 (good_y b hlb hb2) rfl Try.func112 rfl rfl (ovL_cons rfl ovL_nil) (.cons .i .nil) (hd 11 rfl) ?_ (fun ch hp => by simp at hp)
  rintro _ ⟨⟩; refine jo_l (ly_not rfl) (hd 12 rfl) <| jo_nil <| jc_litf rfl <| jc_skip <| jc_seq <| zsr <| zmv rfl (hd 13 rfl) <| jo_l (ly_ff (ly_eqS rfl rfl) (fun h => hs0 (by rw [h]; rfl))) (hd 14 rfl) <| jo_nil <| jc_litf rfl <| jc_skip <| jc_seq ?_; refine jc_region <| zmv rfl (hd 15 rfl) <| jo_l (ly_lens und9 rfl) (hd 16 rfl) <| jo_h (hy_mk (m := s.size) el1140 rfl rfl rfl (by show 8 * s.size ≤ _; omega) (by unfold maxLen; omega) rfl) (hd 17 rfl) <| zas rfl (hd 6 rfl) <| jo_nil <| jc_seq <| jc_seq <| jc_H (H' := [⟨3, 1, 0, true, ints .i64 (cpI (dgs s) 0)⟩]) (by rw [← cpI_0, dgs_len]; rfl) <| jc_region <| zmv rfl (hd 18 rfl) <| jo_l (ly_lens und9 rfl) (hd 19 rfl) <| zmv rfl (hd 20 rfl) ?_; refine jo_nil <| jc_block ?_
  refine jc_loopF (G := Nat) (fun i => i ≤ s.size) (fun i => [(20, .i .i64 (i : Int)), (4, .u), (5, .u), (7, .u), (8, .u), (9, .u), (21, .u), (22, .u), (23, .u), (24, .u), (25, .u), (26, .u), (27, .u), (28, .u), (29, .u), (30, .u), (31, .u), (32, .u), (33, .u), (34, .u), (35, .u), (36, .u), (37, .u), (38, .u), (39, .u), (40, .u), (41, .u), (42, .u), (43, .u), (44, .u), (45, .u), (46, .u), (47, .u), (48, .u), (49, .u), (50, .u), (51, .u), (52, .u), (53, .u), (54, .u)]) (fun i => [⟨3, 1, 0, true, ints .i64 (cpI (dgs s) i)⟩]) (fun i => s.size - i) 0 ?_ ?_ rfl ?_
  · exact Nat.zero_le _
  · exact (.cons rfl (.u (.u (.u (.u (.u (.u (.u (.u (.u (.u (.u (.u (.u (.u (.u (.u (.u (.u (.u (.u (.u (.u (.u (.u (.u (.u (.u (.u (.u (.u (.u (.u (.u (.u (.u (.u (.u (.u (.u .nil))))))))))))))))))))))))))))))))))))))))
  · rintro i hi
    have hcl := cpI_len (l := dgs s) (i := i) (by rw [dgs_len]; omega)
    rw [dgs_len] at hcl
    have hbr := byteAt_range s i
    have hdr := dgv_rng hbr.1 hbr.2
    refine zsr <| jo_l (ly_lt rfl rfl) (hd 21 rfl) <| jo_nil <| jc_seq ?_
    refine jc_if rfl (fun h3 => ?_) (fun h3 => ?_)
    · refine jc_skip <| jc_seq <| jc_block <| zsr <| zmv rfl (hd 22 rfl) <| zas rfl (hd 7 rfl) <| jo_nil <| zsr <| zas rfl (hd 8 rfl) <| jo_nil ?_
      refine jc_meetH (G := Unit) (fun _ => True) (fun _ => [(7, .i .i64 (i : Int)), (8, .i .i64 (dgv (byteAt s i))), (9, .u), (23, .u), (24, .u), (25, .u), (26, .u), (27, .u), (28, .u), (29, .u), (30, .u), (31, .u), (32, .u), (33, .u), (34, .u), (35, .u), (36, .u), (37, .u), (38, .u), (39, .u), (40, .u), (41, .u), (42, .u), (43, .u), (44, .u), (45, .u), (46, .u)]) ?_ ?_
      · refine zsr <| zmv rfl (hd 23 rfl) <| zmv rfl (hd 24 rfl) <| jo_l (ly_ixs (i := i) und9 rfl rfl (by first | rfl | omega) (by omega)) (hd 25 rfl) <| zas rfl (hd 9 rfl) <| jo_nil <| jc_block <| zsr <| zmv rfl (hd 27 rfl) <| jo_l (ly_ge rfl rfl) (hd 28 rfl) <| zmv rfl (hd 29 rfl) ?_
        refine jo_ifp 29 rfl (fun h4 => ?_) (fun h4 => ?_)
        · refine jo_g 29 rfl rfl (ly_mv rfl) (hd 30 rfl) <| jo_g 29 rfl rfl (ly_le rfl rfl) (hd 31 rfl) <| jo_l (ly_pick_t rfl rfl) (hd 32 rfl) <| zas rfl (hd 26 rfl) <| jo_nil ?_
          refine jc_if rfl (fun h5 => ?_) (fun h5 => ?_)
          · refine jc_region <| zmv rfl (hd 33 rfl) <| jo_l (ly_sub rfl rfl (wrap_u8 (by omega) (by omega))) (hd 34 rfl) <| jo_l (ly_conv und5 und3 rfl (wrap_i64 (by omega) (by omega))) (hd 35 rfl) <| zas rfl (hd 8 rfl) <| jo_nil ?_
            refine ⟨(), ?_, rfl, cov_n 16 rfl rfl ?_⟩
            · trivial
            · exact (.cons rfl (.cons (by show some (V.i .i64 _) = some (V.i .i64 _); congr 1; congr 1; first | (exfalso; omega) | skip; unfold dgv; first | rw [if_pos (by omega)] | rw [if_neg (by omega), if_pos (by omega)] | rw [if_neg (by omega), if_neg (by omega)]) (.u (.u (.u (.u (.u (.u (.u (.u (.u (.u (.u (.u (.u (.u (.u (.u (.u (.u (.u (.u (.u (.u (.u (.u (.u .nil)))))))))))))))))))))))))))
          · refine zsr <| zmv rfl (hd 37 rfl) <| jo_l (ly_ge rfl rfl) (hd 38 rfl) <| zmv rfl (hd 39 rfl) ?_
            refine jo_ifp 39 rfl (fun h6 => ?_) (fun h6 => ?_)
            · refine jo_g 39 rfl rfl (ly_mv rfl) (hd 40 rfl) <| jo_g 39 rfl rfl (ly_le rfl rfl) (hd 41 rfl) <| jo_l (ly_pick_t rfl rfl) (hd 42 rfl) <| zas rfl (hd 36 rfl) <| jo_nil ?_
              refine jc_if rfl (fun h7 => ?_) (fun h7 => ?_)
              · refine jc_region <| zmv rfl (hd 43 rfl) <| jo_l (ly_sub rfl rfl (wrap_u8 (by omega) (by omega))) (hd 44 rfl) <| jo_l (ly_conv und5 und3 rfl (wrap_i64 (by omega) (by omega))) (hd 45 rfl) <| jo_l (ly_add rfl rfl (wrap_i64 (by omega) (by omega))) (hd 46 rfl) <| zas rfl (hd 8 rfl) <| jo_nil ?_
                refine ⟨(), ?_, rfl, cov_n 25 rfl rfl ?_⟩
                · trivial
                · exact (.cons rfl (.cons (by show some (V.i .i64 _) = some (V.i .i64 _); congr 1; congr 1; first | (exfalso; omega) | skip; unfold dgv; first | rw [if_pos (by omega)] | rw [if_neg (by omega), if_pos (by omega)] | rw [if_neg (by omega), if_neg (by omega)]) (.u (.u (.u (.u (.u (.u (.u (.u (.u (.u (.u (.u (.u (.u (.u (.u (.u (.u (.u (.u (.u (.u (.u (.u (.u .nil)))))))))))))))))))))))))))
              · refine jc_skip ?_
                refine ⟨(), ?_, rfl, cov_n 20 rfl rfl ?_⟩
                · trivial
                · exact (.cons rfl (.cons (by show some (V.i .i64 _) = some (V.i .i64 _); congr 1; congr 1; first | (exfalso; omega) | skip; unfold dgv; first | rw [if_pos (by omega)] | rw [if_neg (by omega), if_pos (by omega)] | rw [if_neg (by omega), if_neg (by omega)]) (.u (.u (.u (.u (.u (.u (.u (.u (.u (.u (.u (.u (.u (.u (.u (.u (.u (.u (.u (.u (.u (.u (.u (.u (.u .nil)))))))))))))))))))))))))))
            · refine jo_s 39 rfl rfl rfl (hd 40 rfl) <| jo_s 39 rfl rfl rfl (hd 41 rfl) <| jo_l (ly_pick_f rfl rfl) (hd 42 rfl) <| zas rfl (hd 36 rfl) <| jo_nil <| jc_litf rfl <| jc_skip ?_
              refine ⟨(), ?_, rfl, cov_n 20 rfl rfl ?_⟩
              · trivial
              · exact (.cons rfl (.cons (by show some (V.i .i64 _) = some (V.i .i64 _); congr 1; congr 1; first | (exfalso; omega) | skip; unfold dgv; first | rw [if_pos (by omega)] | rw [if_neg (by omega), if_pos (by omega)] | rw [if_neg (by omega), if_neg (by omega)]) (.u (.u (.u (.u (.u (.u (.u (.u (.u (.u (.u (.u (.u (.u (.u (.u (.u (.u (.u (.u (.u (.u (.u (.u (.u .nil)))))))))))))))))))))))))))
        · refine jo_s 29 rfl rfl rfl (hd 30 rfl) <| jo_s 29 rfl rfl rfl (hd 31 rfl) <| jo_l (ly_pick_f rfl rfl) (hd 32 rfl) <| zas rfl (hd 26 rfl) <| jo_nil <| jc_litf rfl <| zsr <| zmv rfl (hd 37 rfl) <| jo_l (ly_ge rfl rfl) (hd 38 rfl) <| zmv rfl (hd 39 rfl) ?_
          refine jo_ifp 39 rfl (fun h10 => ?_) (fun h10 => ?_)
          · refine jo_g 39 rfl rfl (ly_mv rfl) (hd 40 rfl) <| jo_g 39 rfl rfl (ly_le rfl rfl) (hd 41 rfl) <| jo_l (ly_pick_t rfl rfl) (hd 42 rfl) <| zas rfl (hd 36 rfl) <| jo_nil ?_
            refine jc_if rfl (fun h11 => ?_) (fun h11 => ?_)
            · refine jc_region <| zmv rfl (hd 43 rfl) <| jo_l (ly_sub rfl rfl (wrap_u8 (by omega) (by omega))) (hd 44 rfl) <| jo_l (ly_conv und5 und3 rfl (wrap_i64 (by omega) (by omega))) (hd 45 rfl) <| jo_l (ly_add rfl rfl (wrap_i64 (by omega) (by omega))) (hd 46 rfl) <| zas rfl (hd 8 rfl) <| jo_nil ?_
              refine ⟨(), ?_, rfl, cov_n 25 rfl rfl ?_⟩
              · trivial
              · exact (.cons rfl (.cons (by show some (V.i .i64 _) = some (V.i .i64 _); congr 1; congr 1; first | (exfalso; omega) | skip; unfold dgv; first | rw [if_pos (by omega)] | rw [if_neg (by omega), if_pos (by omega)] | rw [if_neg (by omega), if_neg (by omega)]) (.u (.u (.u (.u (.u (.u (.u (.u (.u (.u (.u (.u (.u (.u (.u (.u (.u (.u (.u (.u (.u (.u (.u (.u (.u .nil)))))))))))))))))))))))))))
            · refine jc_skip ?_
              refine ⟨(), ?_, rfl, cov_n 20 rfl rfl ?_⟩
              · trivial
              · exact (.cons rfl (.cons (by show some (V.i .i64 _) = some (V.i .i64 _); congr 1; congr 1; first | (exfalso; omega) | skip; unfold dgv; first | rw [if_pos (by omega)] | rw [if_neg (by omega), if_pos (by omega)] | rw [if_neg (by omega), if_neg (by omega)]) (.u (.u (.u (.u (.u (.u (.u (.u (.u (.u (.u (.u (.u (.u (.u (.u (.u (.u (.u (.u (.u (.u (.u (.u (.u .nil)))))))))))))))))))))))))))
          · refine jo_s 39 rfl rfl rfl (hd 40 rfl) <| jo_s 39 rfl rfl rfl (hd 41 rfl) <| jo_l (ly_pick_f rfl rfl) (hd 42 rfl) <| zas rfl (hd 36 rfl) <| jo_nil <| jc_litf rfl <| jc_skip ?_
            refine ⟨(), ?_, rfl, cov_n 20 rfl rfl ?_⟩
            · trivial
            · exact (.cons rfl (.cons (by show some (V.i .i64 _) = some (V.i .i64 _); congr 1; congr 1; first | (exfalso; omega) | skip; unfold dgv; first | rw [if_pos (by omega)] | rw [if_neg (by omega), if_pos (by omega)] | rw [if_neg (by omega), if_neg (by omega)]) (.u (.u (.u (.u (.u (.u (.u (.u (.u (.u (.u (.u (.u (.u (.u (.u (.u (.u (.u (.u (.u (.u (.u (.u (.u .nil)))))))))))))))))))))))))))
      · rintro _ _; refine jc_seq <| zsr <| zmv rfl (hd 47 rfl) <| zmv rfl (hd 48 rfl) <| jo_l (ly_ff (ly_ge rfl rfl) (by have := hval i (by omega); omega)) (hd 49 rfl) <| jo_nil <| jc_litf rfl <| jc_skip <| jc_region <| zmv rfl (hd 50 rfl) <| zmv rfl (hd 51 rfl) <| zmv rfl (hd 52 rfl) ?_; refine jo_l (ly_ia (i := i) sl1140 rfl rfl rfl (by first | rfl | omega) (by omega) rfl) (hd 53 rfl) <| jo_st (sy_storei rfl rfl rfl one3 (by first | omega | (dsimp only; omega))) <| jo_nil <| jc_region <| jo_l (ly_add rfl rfl (r := ((i + 1 : Nat) : Int)) (by rw [wrap_i64 (by omega) (by omega)]; omega)) (hd 54 rfl) <| zmv rfl (hd 20 rfl) <| jo_nil ?_
        refine ⟨i + 1, ?_, ?_, (by show [(⟨3, 1, 0, true, ints .i64 _⟩ : Ob)] = [⟨3, 1, 0, true, ints .i64 _⟩]; rw [← cpI_set (by rw [dgs_len]; omega), dgs_getD (by omega)]), cov_n 80 rfl rfl ?_⟩
        · omega
        · omega
        · exact (.cons rfl (.u (.u (.u (.u (.u (.u (.u (.u (.u (.u (.u (.u (.u (.u (.u (.u (.u (.u (.u (.u (.u (.u (.u (.u (.u (.u (.u (.u (.u (.u (.u (.u (.u (.u (.u (.u (.u (.u (.u .nil))))))))))))))))))))))))))))))))))))))))
    · refine jc_exit <| jc_seq ?_
      obtain rfl : i = s.size := by omega
      refine jc_frz (k := .i64) (l := cpI (dgs s) s.size) (l' := dgs s) 6 rfl rfl (by rw [hcl]; exact Nat.le_of_eq (Nat.zero_add _)) (by rw [List.drop_zero, List.take_of_length_le (by omega)]; have h := cpI_all (dgs s); rwa [dgs_len] at h) hL <| jc_region <| zmv rfl (hd 55 rfl) <| zmv rfl (hd 56 rfl) ?_
      refine jo_callN Try.f113 (build_n (dgs s) b hlb hb2 hr (by rw [dgs_len]; omega) hv9) (fun o G ⟨_, h⟩ => h ▸ idless_cons ints_id idless_nil) rfl Try.func113 rfl rfl (ovL_cons rfl (ovL_cons rfl ovL_nil)) (.cons .n (.cons .i .nil)) (hd 57 rfl) ?_ (fun ch G hp => by simp at hp)
      rintro y G ⟨hy, rfl⟩; injection hy with hy; subst hy
      show JO _ _ _ _ ((57, .t [.o 1 0 0 (lm (hv b (dgs s))).length, .i .i64 0]) :: _) _ _
      refine jo_l (ly_ext rfl rfl) (hd 58 rfl) <| jo_l (ly_ext rfl rfl) (hd 59 rfl) <| zas rfl (hd 4 rfl) <| zas rfl (hd 5 rfl) <| jo_nil <| jc_ret ?_
      refine ⟨[1], _, (.t [.o 0 0 0 (lm (hv b (dgs s))).length, .i .i64 0]), (.cons rfl (.cons rfl .nil)), rfl, rfl, (by decide), (by first | exact idless_cons ints_id idless_nil | exact idless_cons rfl idless_nil), ?_⟩
      exact ⟨rfl, rfl⟩


theorem rNumber_s (s : ByteArray) (hr : rng 10 (dgs s)) (hs : s.size ≤ 2097152) : Spec Try.prog 92 [.s s] (fun o => o = .ret (.n false .u64 (dg (hv 10 (dgs s))))) := by
  refine spec_of' [(0, .s s)] rfl Try.func92 rfl (zlb rfl) fun Γ hN hds hL hR => ?_
  have hd := hdOf 22 hN
  have hI : ∀ d : Int, 0 ≤ d → d ≤ 36 → Spec Try.prog 54 [.i .i64 d] (fun o => o = .ret (.n false .u64 (digs B32 d.toNat))) := fun d h1 h2 => by have h := rInt_s d (by omega) (by omega); rwa [show d = ((d.toNat : Nat) : Int) from (Int.toNat_of_nonneg h1).symm, rInt_v (by omega), ← show d = ((d.toNat : Nat) : Int) from (Int.toNat_of_nonneg h1).symm] at h
  have hln := dgs_len s
  have hdl : ∀ i, (digs B32 (hv 10 ((dgs s).take i)).toNat).length ≤ 16777216 := fun i => Nat.le_trans (digs_lenV (hv_nonneg (rng_take hr i))) (hv_fit (by decide) (by decide) (rng_take hr i) (by rw [List.length_take]; omega))
  have hbl1 : (digs B32 10).length ≤ 1 := digs_len (by decide) 1 10 (by decide)
  refine zsr <| zas rfl (hd 2 rfl) <| jo_nil <| zsr <| zas rfl (hd 3 rfl) <| jo_nil <| jc_seq <| zsr <| zas rfl (hd 4 rfl) <| jo_nil ?_; refine jc_block <| jc_nilN 3 (k := .u64) rfl ?_
  refine jc_loopF (G := Nat) (fun i => i ≤ s.size) (fun i => [(3, .n false .u64 (digs B32 (hv 10 ((dgs s).take i)).toNat)), (4, .i .i64 (i : Int)), (5, .u), (6, .u), (7, .u), (8, .u), (9, .u), (10, .u), (11, .u), (12, .u), (13, .u), (14, .u), (15, .u), (16, .u), (17, .u), (18, .u), (19, .u), (20, .u)]) (fun _ => _) (fun i => s.size - i) 0 ?_ ?_ rfl ?_
  · exact Nat.zero_le _
  · exact (.cons (by show some (V.n _ _ _) = some (V.n _ _ _); rw [List.take_zero, hv_nil, show (0 : Int).toNat = 0 from rfl, digs_0]) (.cons rfl (.u (.u (.u (.u (.u (.u (.u (.u (.u (.u (.u (.u (.u (.u (.u (.u .nil))))))))))))))))))
  · rintro i hi
    have hx := rng_getD (by decide) hr i
    have hdi := hdl i
    have hdj := hdl (i + 1)
    refine jc_seq <| zsr <| zmv rfl (hd 5 rfl) <| zmv rfl (hd 6 rfl) <| jo_l (ly_lens und9 rfl) (hd 7 rfl) <| jo_l (ly_lt rfl rfl) (hd 8 rfl) <| jo_nil ?_
    refine jc_if rfl (fun h1 => ?_) (fun h1 => ?_)
    · have hst := hv_nat (b := 10) hr (i := i) (by omega)
      have hmu : (digs B32 ((hv 10 ((dgs s).take i)).toNat * 10)).length ≤ 16777216 := Nat.le_trans (digs_mono (by decide) _ _ (by rw [hst]; omega)) hdj
      have hdd : (digs B32 ((dgs s).getD i 0).toNat).length ≤ 1 := digs_len (by decide) 1 _ (by show _ < 4294967296 ^ 1; omega)
      have hgd := dgs_getD (s := s) (i := i) (by omega)
      have hbr := byteAt_range s i
      have hb10 := dgv_10 hbr.1 hbr.2 (by omega)
      have hbv := dgv_of10 hb10.1 hb10.2
      refine jc_skip <| jc_seq <| jc_block <| jc_draw (n := 11) _ rfl mixed <| zal2 0 [2, 8, 9, 10] (lo_l (ly_mv rfl) (hd 11 rfl)) rfl <| zal2 3 [5, 6, 7, 8, 9, 10] (lo_l (ly_mv rfl) (hd 14 rfl)) rfl <| zal2 4 [5, 6, 7, 8, 9, 10] (lo_l (ly_mv rfl) (hd 15 rfl)) rfl <| zal2 5 [6, 7, 8, 9, 10] (lo_l (ly_ixs (i := i) und9 rfl rfl (by first | rfl | omega) (by omega)) (hd 16 rfl)) rfl <| zal2 6 [7, 8, 9, 10] (lo_l (ly_sub rfl rfl (r := (dgs s).getD i 0) (by rw [hgd, hbv]; exact wrap_u8 (by omega) (by omega))) (hd 17 rfl)) rfl <| zal2 7 [8, 9, 10] (lo_l (ly_conv und5 und3 rfl (r := (dgs s).getD i 0) (wrap_i64 (by omega) (by omega))) (hd 18 rfl)) rfl ?_
      refine ja_1 1 ?_ rfl (by kernel_rfl)
      refine js_call Try.f54 (hI 10 (by decide) (by decide)) rfl Try.func54 rfl rfl (ovL_cons rfl ovL_nil) (.cons .i .nil) (hd 12 rfl) ?_ (fun ch hp => by simp at hp)
      rintro y hy; injection hy with hy; subst hy
      refine ja_1 2 ?_ rfl (by kernel_rfl)
      refine js_call Try.f81 (rMul_s (hv 10 ((dgs s).take i)).toNat 10 (by omega) (by omega)) rfl Try.func81 rfl rfl (ovL_cons rfl (ovL_cons rfl ovL_nil)) (.cons .n (.cons .n .nil)) (hd 13 rfl) ?_ (fun ch hp => by simp at hp)
      rintro y hy; injection hy with hy; subst hy
      refine ja_1 8 ?_ rfl (by kernel_rfl)
      refine js_call Try.f54 (hI ((dgs s).getD i 0) hx.1 (by omega)) rfl Try.func54 rfl rfl (ovL_cons rfl ovL_nil) (.cons .i .nil) (hd 19 rfl) ?_ (fun ch hp => by simp at hp)
      rintro y hy; injection hy with hy; subst hy
      refine ja_1 9 ?_ rfl (by kernel_rfl)
      refine js_call Try.f80 (rAdd_s ((hv 10 ((dgs s).take i)).toNat * 10) ((dgs s).getD i 0).toNat (by omega) (by omega)) rfl Try.func80 rfl rfl (ovL_cons rfl (ovL_cons rfl ovL_nil)) (.cons .n (.cons .n .nil)) (hd 20 rfl) ?_ (fun ch hp => by simp at hp)
      rintro _ ⟨⟩; refine zal 10 (lo_l (ly_as rfl) (hd 3 rfl)) rfl <| ja_nil (by kernel_rfl) <| jc_region <| zmv rfl (hd 9 rfl) <| jo_l (ly_add rfl rfl (r := ((i + 1 : Nat) : Int)) (by rw [wrap_i64 (by omega) (by omega)]; omega)) (hd 10 rfl) <| zas rfl (hd 4 rfl) <| jo_nil ?_
      refine ⟨i + 1, ?_, ?_, rfl, cov_n 36 rfl rfl ?_⟩
      · omega
      · omega
      · exact (.cons (by show some (V.n _ _ _) = some (V.n _ _ _); rw [hst]) (.cons rfl (.u (.u (.u (.u (.u (.u (.u (.u (.u (.u (.u (.u (.u (.u (.u (.u .nil))))))))))))))))))
    · refine jc_exit <| zsr <| zmv rfl (hd 21 rfl) <| zas rfl (hd 2 rfl) <| jo_nil <| jc_ret ?_
      refine ⟨_, _, (.cons rfl .nil), .nn, ?_⟩
      rw [List.take_of_length_le (by omega), digs_dg (hv_nonneg hr)]








theorem Gcd_v (l l2 : List Int) (x y : Nat) (hl : l.length ≤ 1048576) (hl2 : l2.length ≤ 1048576) (hu : u64s l) (hu2 : u64s l2) (hx : vl l = (x : Int)) (hy : vl l2 = (y : Int)) : Spec Try.prog 60 [.n false .u64 l, .n false .u64 l2] (fun o => o = .ret (.n false .u64 (lm ((Nat.gcd x y : Nat) : Int)))) := by
  refine spec_of' [(0, .n false .u64 l), (1, .n false .u64 l2)] rfl Try.func60 rfl (zlb rfl) fun Γ hN hds hL hR => ?_
  have hd := hdOf 23 hN
  have hlx : lenV (x : Int) ≤ 67108864 := by have h9 := lenV_64 (s := false) hu; rw [show sv false l = (x : Int) from hx] at h9; omega
  have hly : lenV (y : Int) ≤ 67108864 := by have h9 := lenV_64 (s := false) hu2; rw [show sv false l2 = (y : Int) from hy] at h9; omega
  have hNa : Spec Try.prog 71 [.n false .u64 l] (fun o => o = .ret (.n false .u64 (lm (x : Int)))) := by have h := Norm_s l (by omega); rw [trm_lm hu hx] at h; exact h.nn
  have hNb : Spec Try.prog 71 [.n false .u64 l2] (fun o => o = .ret (.n false .u64 (lm (y : Int)))) := by have h := Norm_s l2 (by omega); rw [trm_lm hu2 hy] at h; exact h.nn
  refine zsr <| zas rfl (hd 4 rfl) <| jo_nil <| zsr <| zmv rfl (hd 7 rfl) ?_
  refine jo_call Try.f71 (hNa) rfl Try.func71 rfl rfl (ovL_cons rfl ovL_nil) (.cons .n .nil) (hd 8 rfl) ?_ (fun ch hp => by simp at hp)
  rintro _ ⟨⟩; refine zmv rfl (hd 9 rfl) ?_
  refine jo_call Try.f71 (hNb) rfl Try.func71 rfl rfl (ovL_cons rfl ovL_nil) (.cons .n .nil) (hd 10 rfl) ?_ (fun ch hp => by simp at hp)
  rintro _ ⟨⟩; refine zas rfl (hd 0 rfl) <| zas rfl (hd 1 rfl) <| jo_nil <| jc_seq <| jc_block ?_
  refine jc_loopF (G := Nat × Nat) (fun g => Nat.gcd g.1 g.2 = Nat.gcd x y ∧ lenV (g.1 : Int) ≤ 67108864 ∧ lenV (g.2 : Int) ≤ 67108864) (fun g => [(0, .n false .u64 (lm (g.1 : Int))), (1, .n false .u64 (lm (g.2 : Int))), (5, .u), (6, .u), (11, .u), (12, .u), (13, .u), (14, .u), (15, .u), (16, .u), (17, .u), (18, .u), (19, .u), (20, .u), (21, .u)]) (fun _ => _) (fun g => g.2) (x, y) ?_ ?_ rfl ?_
  · exact ⟨rfl, hlx, hly⟩
  · exact (.cons rfl (.cons rfl (.u (.u (.u (.u (.u (.u (.u (.u (.u (.u (.u (.u (.u .nil)))))))))))))))
  · rintro ⟨u, v⟩ ⟨hc1, hc2, hc3⟩
    dsimp only at hc1 hc2 hc3
    have hmu := lenV_lm hc2
    have hmv := lenV_lm hc3
    refine jc_seq <| zsr <| zmv rfl (hd 11 rfl) <| jo_l (ly_lenn sl28 rfl) (hd 12 rfl) <| jo_l (ly_gt rfl rfl) (hd 13 rfl) <| jo_nil ?_
    refine jc_if rfl (fun h1 => ?_) (fun h1 => ?_)
    · have hv0 : v ≠ 0 := fun e => by subst e; have h9 : (0 : Int) < ((lm ((0 : Nat) : Int)).length : Int) := h1; rw [show ((0 : Nat) : Int) = 0 from rfl, lm_0] at h9; simp at h9
      have hDv : Spec Try.prog 100 [.n false .u64 (lm (u : Int)), .n false .u64 (lm (v : Int))] (fun o => o = .ret (.t [.n false .u64 (lm (qn (u : Int) (v : Int))), .n false .u64 (lm ((u % v : Nat) : Int))])) := by have h := divide_v (u : Int) (v : Int) (by omega) (by omega) (by omega); rwa [rn_nt] at h
      refine jc_skip <| jc_block <| zsr <| zmv rfl (hd 15 rfl) <| zmv rfl (hd 16 rfl) ?_
      refine jo_call Try.f100 (hDv) rfl Try.func100 rfl rfl (ovL_cons rfl (ovL_cons rfl ovL_nil)) (.cons .n (.cons .n .nil)) (hd 17 rfl) ?_ (fun ch hp => by simp at hp)
      rintro _ ⟨⟩; refine zmv rfl (hd 14 rfl) <| jo_l (ly_ext rfl rfl) (hd 18 rfl) <| jo_l (ly_ext rfl rfl) (hd 19 rfl) <| zas rfl (hd 5 rfl) <| zas rfl (hd 6 rfl) <| jo_nil <| jc_region <| zmv rfl (hd 20 rfl) <| zmv rfl (hd 21 rfl) <| zas rfl (hd 0 rfl) <| zas rfl (hd 1 rfl) <| jo_nil ?_
      refine ⟨(v, u % v), ?_, ?_, rfl, cov_n 30 rfl rfl ?_⟩
      · exact ⟨by rw [← hc1]; exact gcd_step, hc3, Nat.le_trans (lenV_mono (by have := Nat.mod_le u v; dsimp only; omega)) hc2⟩
      · exact Nat.mod_lt _ (by omega)
      · exact (.cons rfl (.cons rfl (.u (.u (.u (.u (.u (.u (.u (.u (.u (.u (.u (.u (.u .nil)))))))))))))))
    · have hv0 : v = 0 := Decidable.byContradiction fun hc => h1 (by have h9 := List.length_pos_iff.2 (lm_ne (show (v : Int) ≠ 0 by omega)); show (0 : Int) < ((lm (v : Int)).length : Int); omega)
      subst hv0
      rw [Nat.gcd_zero_right] at hc1
      refine jc_exit <| zsr <| zmv rfl (hd 22 rfl) <| zas rfl (hd 4 rfl) <| jo_nil <| jc_ret ?_
      refine ⟨_, _, (.cons rfl .nil), .n, ?_⟩
      rw [← hc1]


theorem dl0 {x : Nat} : (digs B32 x).length = 0 ↔ x = 0 := by
  rw [List.length_eq_zero_iff]
  constructor
  · intro h
    refine Decidable.byContradiction fun hx => ?_
    have := vb_digs (b := B32) (by decide) x
    rw [h] at this
    simp [vb] at this
    omega
  · rintro rfl; exact digs_0
theorem dl_mono {x y : Nat} (h : x ≤ y) : (digs B32 x).length ≤ (digs B32 y).length := digs_mono (b := B32) (by decide) x y h
theorem dl_of {x : Nat} (h : lenV (x : Int) ≤ 67108864) : (digs B32 x).length ≤ 2097152 := by
  have h1 := lenV_dg h
  rwa [show dg (x : Int) = digs B32 x from by unfold dg; rw [Int.natAbs_natCast]] at h1
theorem lims_nt {x : Nat} : lims (digs B32 x) = lm (x : Int) := by unfold lm; rw [Int.natAbs_natCast]; exact lims_digs x

theorem rGcd_v (x y : Nat) (hdx : (digs B32 x).length < 4294967296) (hdy : (digs B32 y).length < 4294967296) : Spec Try.prog 55 [.n false .u64 (digs B32 x), .n false .u64 (digs B32 y)] (fun o => o = .ret (.n false .u64 (digs B32 (Nat.gcd x y)))) := by
  refine spec_of' [(0, .n false .u64 (digs B32 x)), (1, .n false .u64 (digs B32 y))] rfl Try.func55 rfl (zlb rfl) fun Γ hN hds hL hR => ?_
  have hd := hdOf 19 hN
  refine zsr <| zas rfl (hd 4 rfl) <| jo_nil <| jc_seq <| jc_block ?_
  refine jc_loopF (G := Nat × Nat) (fun g => Nat.gcd g.1 g.2 = Nat.gcd x y ∧ (digs B32 g.1).length < 4294967296 ∧ (digs B32 g.2).length < 4294967296) (fun g => [(0, .n false .u64 (digs B32 g.1)), (1, .n false .u64 (digs B32 g.2)), (5, .u), (6, .u), (7, .u), (8, .u), (9, .u), (10, .u), (11, .u), (12, .u), (13, .u), (14, .u), (15, .u), (16, .u), (17, .u)]) (fun _ => _) (fun g => g.2) (x, y) ?_ ?_ rfl ?_
  · exact ⟨rfl, hdx, hdy⟩
  · exact (.cons rfl (.cons rfl (.u (.u (.u (.u (.u (.u (.u (.u (.u (.u (.u (.u (.u .nil)))))))))))))))
  · rintro ⟨u, v⟩ ⟨hc1, hc2, hc3⟩
    dsimp only at hc1 hc2 hc3 ⊢
    have hl0 := @dl0 v
    refine jc_seq <| zsr <| zmv rfl (hd 7 rfl) ?_
    refine jo_call Try.f21 (Zero_s (digs B32 v)) rfl Try.func21 rfl rfl (ovL_cons rfl ovL_nil) (.cons .n .nil) (hd 8 rfl) ?_ (fun ch hp => by simp at hp)
    rintro _ ⟨⟩; refine jo_l (ly_not rfl) (hd 9 rfl) <| jo_nil ?_
    refine jc_ifn rfl (fun h1 => ?_) (fun h1 => ?_)
    · have hv0 : v ≠ 0 := fun e => h1 (by have := hl0.2 e; omega)
      refine jc_skip <| jc_block <| zsr <| zmv rfl (hd 11 rfl) <| zmv rfl (hd 12 rfl) ?_
      refine jo_call Try.f56 (rDiv_s u v hc2 hc3 (by omega)) rfl Try.func56 rfl rfl (ovL_cons rfl (ovL_cons rfl ovL_nil)) (.cons .n (.cons .n .nil)) (hd 13 rfl) ?_ (fun ch hp => by simp at hp)
      rintro _ ⟨⟩; refine zmv rfl (hd 10 rfl) <| jo_l (ly_ext rfl rfl) (hd 14 rfl) <| jo_l (ly_ext rfl rfl) (hd 15 rfl) <| zas rfl (hd 5 rfl) <| zas rfl (hd 6 rfl) <| jo_nil <| jc_region <| zmv rfl (hd 16 rfl) <| zmv rfl (hd 17 rfl) <| zas rfl (hd 0 rfl) <| zas rfl (hd 1 rfl) <| jo_nil ?_
      refine ⟨(v, u % v), ?_, ?_, rfl, cov_n 30 rfl rfl ?_⟩
      · exact ⟨by rw [← hc1]; exact gcd_step, hc3, Nat.lt_of_le_of_lt (dl_mono (Nat.mod_le u v)) hc2⟩
      · exact Nat.mod_lt _ (by omega)
      · exact (.cons rfl (.cons rfl (.u (.u (.u (.u (.u (.u (.u (.u (.u (.u (.u (.u (.u .nil)))))))))))))))
    · have hv0 : v = 0 := hl0.1 (by omega)
      subst hv0
      rw [Nat.gcd_zero_right] at hc1
      refine jc_exit <| zsr <| zmv rfl (hd 18 rfl) <| zas rfl (hd 4 rfl) <| jo_nil <| jc_ret ?_
      refine ⟨_, _, (.cons rfl .nil), .n, ?_⟩
      rw [← hc1]

end Go.Proofs.Ytpldmajdiljoaaa.Vc
