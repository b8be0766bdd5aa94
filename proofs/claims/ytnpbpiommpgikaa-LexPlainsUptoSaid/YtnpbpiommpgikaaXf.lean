/- The contracts of both Counts. -/
import Derived.Test.YtnpbpiommpgikaaXe
import Derived.Test.YtnpbpiommpgikaaMe
import Derived.Test.YtnpbpiommpgikaaVcT
set_option linter.unusedVariables false
set_option linter.unusedSimpArgs false
namespace Go.Proofs.Ytnpbpiommpgikaa.Vc
open Go Go.RowKit
theorem Count_ok {s : ByteArray} {l : List Tok} (hs : s.size < 4294967296) (h : lexGo s 0 = (l, none)) : Spec Try.prog 27 [.s s] (fun o => o = .ret (.t [.a [.i .i64 (cf l l.length).1, .i .i64 (cf l l.length).2.1, .i .i64 (cf l l.length).2.2.1, .i .i64 (cf l l.length).2.2.2.2], .i .i64 0, .i .i64 0])) := by
  refine spec_of' [(0, .s s)] rfl Try.func27 rfl (Nat.le_of_ble_eq_true rfl) fun Γ hN hds hL hR => ?_
  have hd : ∀ d, Nat.blt d 64 = true → d < Γ.N := fun d h => by rw [hN]; exact Nat.le_of_ble_eq_true h
  have hm : (l.map tokRow).length = l.length := by simp
  have hk := kinds_lex (Nat.zero_le _) h
  have hll := lexGo_len l 0 none (Nat.zero_le _) h
  refine jc_seq ?_
  refine jc_region ?_
  refine jo_h (hy_alloc (id := 0) zero57 (by decide) rfl (by decide) rfl) (hd 2 rfl) ?_
  refine jo_l (ly_as rfl) (hd 3 rfl) ?_
  refine jo_l (ly_as rfl) (hd 4 rfl) ?_
  refine jo_nil ?_
  refine jc_seq ?_
  refine jc_region ?_
  refine jo_l (ly_mv rfl) (hd 13 rfl) ?_
  refine jo_call Try.f14 (Lex_ok hs h) rfl Try.func14 rfl rfl (ovL_cons rfl ovL_nil) (.cons .s .nil) (hd 14 rfl) ?_ (fun ch hp => by simp at hp)
  rintro y hy; injection hy with hy; subst hy
  refine jo_l (ly_mv rfl) (hd 12 rfl) ?_
  refine jo_l (ly_ext rfl rfl) (hd 15 rfl) ?_
  refine jo_l (ly_ext rfl rfl) (hd 16 rfl) ?_
  refine jo_l (ly_ext rfl rfl) (hd 17 rfl) ?_
  refine jo_l (ly_as rfl) (hd 5 rfl) ?_
  refine jo_l (ly_as rfl) (hd 6 rfl) ?_
  refine jo_l (ly_as rfl) (hd 7 rfl) ?_
  refine jo_nil ?_
  refine jc_seq ?_
  refine jc_seq ?_
  refine jc_region ?_
  refine jo_l (ly_mv rfl) (hd 18 rfl) ?_
  refine jo_l (ly_ff (ly_ne rfl rfl) (by decide)) (hd 19 rfl) ?_
  refine jo_nil ?_
  refine jc_litf rfl ?_
  refine jc_skip ?_
  refine jc_seq ?_
  refine jc_region ?_
  refine jo_h (hy_alloc (id := 1) zero57 (by decide) rfl (by decide) rfl) (hd 8 rfl) ?_
  refine jo_nil ?_
  refine jc_seq ?_
  refine jc_region ?_
  refine jo_l (ly_as rfl) (hd 9 rfl) ?_
  refine jo_nil ?_
  refine jc_seq ?_
  refine jc_seq ?_
  refine jc_region ?_
  refine jo_l (ly_mv rfl) (hd 23 rfl) ?_
  refine jo_l (ly_lenl sl25 rfl) (hd 24 rfl) ?_
  refine jo_l (ly_mv rfl) (hd 25 rfl) ?_
  refine jo_nil ?_
  refine jc_block ?_
  refine jc_loopD (G := Nat × C5) 2 (fun g => g.1 ≤ l.length ∧ cf l g.1 = g.2 ∧ okc g.1 g.2) (fun g => [(9, .i .i64 g.2.2.2.2.1), (25, .i .i64 (g.1 : Int)), (11, .u), (26, .u), (27, .u), (28, .u), (29, .u), (30, .u), (31, .u), (32, .u), (33, .u), (34, .u), (35, .u), (36, .u), (37, .u), (38, .u), (39, .u), (40, .u), (41, .u), (42, .u), (43, .u), (44, .u), (45, .u), (46, .u), (47, .u), (48, .u), (49, .u), (50, .u), (51, .u), (52, .u), (53, .u), (54, .u), (55, .u), (56, .u), (57, .u), (58, .u), (59, .u), (60, .u), (61, .u), (62, .u)]) (fun g => [⟨57, 4, 0, true, [.i .i64 0, .i .i64 0, .i .i64 0, .i .i64 0]⟩, ⟨57, 4, 0, true, [.i .i64 g.2.1, .i .i64 g.2.2.1, .i .i64 g.2.2.2.1, .i .i64 g.2.2.2.2.2]⟩]) (fun g => l.length - g.1) (0, 0, 0, 0, 0, 0) ?_ ?_ rfl hR rfl (fun _ _ => rfl) (fun g _ => .cons rfl (.cons rfl .nil)) ?_
  · exact ⟨Nat.zero_le _, rfl, okc_m (by omega)⟩
  · exact (.cons rfl (.cons rfl (.u (.u (.u (.u (.u (.u (.u (.u (.u (.u (.u (.u (.u (.u (.u (.u (.u (.u (.u (.u (.u (.u (.u (.u (.u (.u (.u (.u (.u (.u (.u (.u (.u (.u (.u (.u (.u (.u .nil))))))))))))))))))))))))))))))))))))))))
  · rintro ⟨i, a, b, d, o, m⟩ ⟨hc1, hc2, hc3⟩
    dsimp only at hc1 hc2 hc3
    have hc4 := okc_i hc3
    rcases cnt_cases hk hc1 with hE | ⟨x, p, hil, ht⟩ | ⟨x, p, hil, ht⟩ | ⟨p, hil, ht⟩ | ⟨p, hil, ht⟩ | ⟨x, p, hil, ht, hx1, hx2⟩
    · refine jc_seq ?_
      refine jc_region ?_
      refine jo_l (ly_ff (ly_lt rfl rfl) (by omega)) (hd 26 rfl) ?_
      refine jo_nil ?_
      refine jc_seq ?_
      refine jc_litf rfl ?_
      refine jc_exit ?_
      refine jc_seq ?_
      refine jc_region ?_
      refine jo_l (ly_lda agg57 rfl rfl rfl rfl) (hd 63 rfl) ?_
      refine jo_st (sy_store rfl rfl rfl siz57 rfl rfl (Nat.le_of_ble_eq_true rfl)) ?_
      refine jo_l (ly_as rfl) (hd 3 rfl) ?_
      refine jo_l (ly_as rfl) (hd 4 rfl) ?_
      refine jo_nil ?_
      refine jc_ret ?_
      refine ⟨_, _, (.cons (ResV.cell agg57 rfl rfl rfl rfl) (.cons rfl (.cons rfl .nil))), (.t1 (.a1 .i (.a1 .i (.a1 .i (.a1 .i .a0)))) (.t1 .i (.t1 .i .t0))), ?_⟩
      rw [← hE, hc2]
    · refine jc_seq ?_
      refine jc_region ?_
      refine jo_l (ly_tt (ly_lt rfl rfl) (by omega)) (hd 26 rfl) ?_
      refine jo_nil ?_
      refine jc_seq ?_
      refine jc_litt rfl ?_
      refine jc_skip ?_
      refine jc_seq ?_
      refine jc_block ?_
      refine jc_seq ?_
      refine jc_region ?_
      refine jo_l (ly_ial (i := i) (row := [.i .i64 0, .s x, .i .i64 (p : Int)]) sl25 rfl rfl rfl (by rw [List.getElem?_map, ht]; rfl)) (hd 27 rfl) ?_
      refine jo_l (ly_ldqa agg30 rfl rfl rfl) (hd 28 rfl) ?_
      refine jo_h (hy_alloc (id := 2) zero30 (by decide) rfl (by decide) rfl) (hd 11 rfl) ?_
      refine jo_st (sy_store rfl rfl rfl siz30 rfl rfl (Nat.le_of_ble_eq_true rfl)) ?_
      refine jo_nil ?_
      refine jc_seq ?_
      refine jc_region ?_
      refine jo_l (ly_fa fld30_0 rfl rfl rfl) (hd 29 rfl) ?_
      refine jo_l (ly_ld one28 rfl rfl rfl) (hd 30 rfl) ?_
      refine jo_nil ?_
      refine jc_block ?_
      refine jc_seq ?_
      refine jc_region ?_
      refine jo_l (ly_tt (ly_eq rfl rfl) rfl) (hd 51 rfl) ?_
      refine jo_l (ly_as rfl) (hd 50 rfl) ?_
      refine jo_nil ?_
      refine jc_litt rfl ?_
      refine jc_region ?_
      refine jo_l (ly_fa fld57_0 rfl rfl rfl) (hd 52 rfl) ?_
      refine jo_l (ly_ld one3 rfl rfl rfl) (hd 53 rfl) ?_
      refine jo_l (ly_add rfl rfl (wrap_i64 (by first | omega | (dsimp only; omega)) (by first | omega | (dsimp only; omega)))) (hd 54 rfl) ?_
      refine jo_l (ly_fa fld57_0 rfl rfl rfl) (hd 55 rfl) ?_
      refine jo_st (sy_store rfl rfl rfl siz3 rfl rfl (Nat.le_of_ble_eq_true rfl)) ?_
      refine jo_nil ?_
      refine jc_region ?_
      refine jo_l (ly_add rfl rfl (wrap_i64 (by first | omega | (dsimp only; omega)) (by first | omega | (dsimp only; omega)))) (hd 62 rfl) ?_
      refine jo_l (ly_mv rfl) (hd 25 rfl) ?_
      refine jo_nil ?_
      refine ⟨(i + 1, a + 1, b, d, o, m), ?_, ?_, rfl, cov_n 54 rfl rfl ?_⟩
      · exact ⟨by omega, cs_0 hc2 ht, okc_m (by omega)⟩
      · show l.length - (i + 1) < l.length - i
        omega
      · exact (.cons rfl (.cons rfl (.u (.u (.u (.u (.u (.u (.u (.u (.u (.u (.u (.u (.u (.u (.u (.u (.u (.u (.u (.u (.u (.u (.u (.u (.u (.u (.u (.u (.u (.u (.u (.u (.u (.u (.u (.u (.u (.u .nil))))))))))))))))))))))))))))))))))))))))
    · refine jc_seq ?_
      refine jc_region ?_
      refine jo_l (ly_tt (ly_lt rfl rfl) (by omega)) (hd 26 rfl) ?_
      refine jo_nil ?_
      refine jc_seq ?_
      refine jc_litt rfl ?_
      refine jc_skip ?_
      refine jc_seq ?_
      refine jc_block ?_
      refine jc_seq ?_
      refine jc_region ?_
      refine jo_l (ly_ial (i := i) (row := [.i .i64 1, .s x, .i .i64 (p : Int)]) sl25 rfl rfl rfl (by rw [List.getElem?_map, ht]; rfl)) (hd 27 rfl) ?_
      refine jo_l (ly_ldqa agg30 rfl rfl rfl) (hd 28 rfl) ?_
      refine jo_h (hy_alloc (id := 2) zero30 (by decide) rfl (by decide) rfl) (hd 11 rfl) ?_
      refine jo_st (sy_store rfl rfl rfl siz30 rfl rfl (Nat.le_of_ble_eq_true rfl)) ?_
      refine jo_nil ?_
      refine jc_seq ?_
      refine jc_region ?_
      refine jo_l (ly_fa fld30_0 rfl rfl rfl) (hd 29 rfl) ?_
      refine jo_l (ly_ld one28 rfl rfl rfl) (hd 30 rfl) ?_
      refine jo_nil ?_
      refine jc_block ?_
      refine jc_seq ?_
      refine jc_region ?_
      refine jo_l (ly_ff (ly_eq rfl rfl) (by decide)) (hd 51 rfl) ?_
      refine jo_l (ly_as rfl) (hd 50 rfl) ?_
      refine jo_nil ?_
      refine jc_litf rfl ?_
      refine jc_seq ?_
      refine jc_region ?_
      refine jo_l (ly_tt (ly_eq rfl rfl) rfl) (hd 57 rfl) ?_
      refine jo_l (ly_as rfl) (hd 56 rfl) ?_
      refine jo_nil ?_
      refine jc_litt rfl ?_
      refine jc_region ?_
      refine jo_l (ly_fa fld57_1 rfl rfl rfl) (hd 58 rfl) ?_
      refine jo_l (ly_ld one3 rfl rfl rfl) (hd 59 rfl) ?_
      refine jo_l (ly_add rfl rfl (wrap_i64 (by first | omega | (dsimp only; omega)) (by first | omega | (dsimp only; omega)))) (hd 60 rfl) ?_
      refine jo_l (ly_fa fld57_1 rfl rfl rfl) (hd 61 rfl) ?_
      refine jo_st (sy_store rfl rfl rfl siz3 rfl rfl (Nat.le_of_ble_eq_true rfl)) ?_
      refine jo_nil ?_
      refine jc_region ?_
      refine jo_l (ly_add rfl rfl (wrap_i64 (by first | omega | (dsimp only; omega)) (by first | omega | (dsimp only; omega)))) (hd 62 rfl) ?_
      refine jo_l (ly_mv rfl) (hd 25 rfl) ?_
      refine jo_nil ?_
      refine ⟨(i + 1, a, b + 1, d, o, m), ?_, ?_, rfl, cov_n 56 rfl rfl ?_⟩
      · exact ⟨by omega, cs_1 hc2 ht, okc_m (by omega)⟩
      · show l.length - (i + 1) < l.length - i
        omega
      · exact (.cons rfl (.cons rfl (.u (.u (.u (.u (.u (.u (.u (.u (.u (.u (.u (.u (.u (.u (.u (.u (.u (.u (.u (.u (.u (.u (.u (.u (.u (.u (.u (.u (.u (.u (.u (.u (.u (.u (.u (.u (.u (.u .nil))))))))))))))))))))))))))))))))))))))))
    · refine jc_seq ?_
      refine jc_region ?_
      refine jo_l (ly_tt (ly_lt rfl rfl) (by omega)) (hd 26 rfl) ?_
      refine jo_nil ?_
      refine jc_seq ?_
      refine jc_litt rfl ?_
      refine jc_skip ?_
      refine jc_seq ?_
      refine jc_block ?_
      refine jc_seq ?_
      refine jc_region ?_
      refine jo_l (ly_ial (i := i) (row := [.i .i64 2, .s ⟨#[40]⟩, .i .i64 (p : Int)]) sl25 rfl rfl rfl (by rw [List.getElem?_map, ht]; rfl)) (hd 27 rfl) ?_
      refine jo_l (ly_ldqa agg30 rfl rfl rfl) (hd 28 rfl) ?_
      refine jo_h (hy_alloc (id := 2) zero30 (by decide) rfl (by decide) rfl) (hd 11 rfl) ?_
      refine jo_st (sy_store rfl rfl rfl siz30 rfl rfl (Nat.le_of_ble_eq_true rfl)) ?_
      refine jo_nil ?_
      refine jc_seq ?_
      refine jc_region ?_
      refine jo_l (ly_fa fld30_0 rfl rfl rfl) (hd 29 rfl) ?_
      refine jo_l (ly_ld one28 rfl rfl rfl) (hd 30 rfl) ?_
      refine jo_nil ?_
      refine jc_block ?_
      refine jc_seq ?_
      refine jc_region ?_
      refine jo_l (ly_ff (ly_eq rfl rfl) (by decide)) (hd 51 rfl) ?_
      refine jo_l (ly_as rfl) (hd 50 rfl) ?_
      refine jo_nil ?_
      refine jc_litf rfl ?_
      refine jc_seq ?_
      refine jc_region ?_
      refine jo_l (ly_ff (ly_eq rfl rfl) (by decide)) (hd 57 rfl) ?_
      refine jo_l (ly_as rfl) (hd 56 rfl) ?_
      refine jo_nil ?_
      refine jc_litf rfl ?_
      refine jc_seq ?_
      refine jc_region ?_
      refine jo_l (ly_fa fld57_2 rfl rfl rfl) (hd 31 rfl) ?_
      refine jo_l (ly_ld one3 rfl rfl rfl) (hd 32 rfl) ?_
      refine jo_l (ly_add rfl rfl (wrap_i64 (by first | omega | (dsimp only; omega)) (by first | omega | (dsimp only; omega)))) (hd 33 rfl) ?_
      refine jo_l (ly_fa fld57_2 rfl rfl rfl) (hd 34 rfl) ?_
      refine jo_st (sy_store rfl rfl rfl siz3 rfl rfl (Nat.le_of_ble_eq_true rfl)) ?_
      refine jo_nil ?_
      refine jc_seq ?_
      refine jc_seq ?_
      refine jc_region ?_
      refine jo_l (ly_fa fld30_1 rfl rfl rfl) (hd 35 rfl) ?_
      refine jo_l (ly_ld one9 rfl rfl rfl) (hd 36 rfl) ?_
      refine jo_nil ?_
      refine jc_block ?_
      refine jc_seq ?_
      refine jc_region ?_
      refine jo_l (ly_tt (ly_eqS rfl rfl) rfl) (hd 38 rfl) ?_
      refine jo_l (ly_as rfl) (hd 37 rfl) ?_
      refine jo_nil ?_
      refine jc_litt rfl ?_
      refine jc_region ?_
      refine jo_l (ly_mv rfl) (hd 39 rfl) ?_
      refine jo_l (ly_add rfl rfl (wrap_i64 (by first | omega | (dsimp only; omega)) (by first | omega | (dsimp only; omega)))) (hd 40 rfl) ?_
      refine jo_l (ly_as rfl) (hd 9 rfl) ?_
      refine jo_nil ?_
      refine jc_region ?_
      refine jo_l (ly_fa fld57_3 rfl rfl rfl) (hd 45 rfl) ?_
      refine jo_l (ly_ld one3 rfl rfl rfl) (hd 46 rfl) ?_
      refine jo_l (ly_mv rfl) (hd 47 rfl) ?_
      refine jo_l (ly_max rfl rfl) (hd 48 rfl) ?_
      refine jo_l (ly_fa fld57_3 rfl rfl rfl) (hd 49 rfl) ?_
      refine jo_st (sy_store rfl rfl rfl siz3 rfl rfl (Nat.le_of_ble_eq_true rfl)) ?_
      refine jo_nil ?_
      refine jc_region ?_
      refine jo_l (ly_add rfl rfl (wrap_i64 (by first | omega | (dsimp only; omega)) (by first | omega | (dsimp only; omega)))) (hd 62 rfl) ?_
      refine jo_l (ly_mv rfl) (hd 25 rfl) ?_
      refine jo_nil ?_
      refine ⟨(i + 1, a, b, d + 1, o + 1, max m (o + 1)), ?_, ?_, rfl, cov_n 68 rfl rfl ?_⟩
      · exact ⟨by omega, cs_2 hc2 ht (by rw [opn_1]), okc_m (by omega)⟩
      · show l.length - (i + 1) < l.length - i
        omega
      · exact (.cons rfl (.cons rfl (.u (.u (.u (.u (.u (.u (.u (.u (.u (.u (.u (.u (.u (.u (.u (.u (.u (.u (.u (.u (.u (.u (.u (.u (.u (.u (.u (.u (.u (.u (.u (.u (.u (.u (.u (.u (.u (.u .nil))))))))))))))))))))))))))))))))))))))))
    · refine jc_seq ?_
      refine jc_region ?_
      refine jo_l (ly_tt (ly_lt rfl rfl) (by omega)) (hd 26 rfl) ?_
      refine jo_nil ?_
      refine jc_seq ?_
      refine jc_litt rfl ?_
      refine jc_skip ?_
      refine jc_seq ?_
      refine jc_block ?_
      refine jc_seq ?_
      refine jc_region ?_
      refine jo_l (ly_ial (i := i) (row := [.i .i64 2, .s ⟨#[41]⟩, .i .i64 (p : Int)]) sl25 rfl rfl rfl (by rw [List.getElem?_map, ht]; rfl)) (hd 27 rfl) ?_
      refine jo_l (ly_ldqa agg30 rfl rfl rfl) (hd 28 rfl) ?_
      refine jo_h (hy_alloc (id := 2) zero30 (by decide) rfl (by decide) rfl) (hd 11 rfl) ?_
      refine jo_st (sy_store rfl rfl rfl siz30 rfl rfl (Nat.le_of_ble_eq_true rfl)) ?_
      refine jo_nil ?_
      refine jc_seq ?_
      refine jc_region ?_
      refine jo_l (ly_fa fld30_0 rfl rfl rfl) (hd 29 rfl) ?_
      refine jo_l (ly_ld one28 rfl rfl rfl) (hd 30 rfl) ?_
      refine jo_nil ?_
      refine jc_block ?_
      refine jc_seq ?_
      refine jc_region ?_
      refine jo_l (ly_ff (ly_eq rfl rfl) (by decide)) (hd 51 rfl) ?_
      refine jo_l (ly_as rfl) (hd 50 rfl) ?_
      refine jo_nil ?_
      refine jc_litf rfl ?_
      refine jc_seq ?_
      refine jc_region ?_
      refine jo_l (ly_ff (ly_eq rfl rfl) (by decide)) (hd 57 rfl) ?_
      refine jo_l (ly_as rfl) (hd 56 rfl) ?_
      refine jo_nil ?_
      refine jc_litf rfl ?_
      refine jc_seq ?_
      refine jc_region ?_
      refine jo_l (ly_fa fld57_2 rfl rfl rfl) (hd 31 rfl) ?_
      refine jo_l (ly_ld one3 rfl rfl rfl) (hd 32 rfl) ?_
      refine jo_l (ly_add rfl rfl (wrap_i64 (by first | omega | (dsimp only; omega)) (by first | omega | (dsimp only; omega)))) (hd 33 rfl) ?_
      refine jo_l (ly_fa fld57_2 rfl rfl rfl) (hd 34 rfl) ?_
      refine jo_st (sy_store rfl rfl rfl siz3 rfl rfl (Nat.le_of_ble_eq_true rfl)) ?_
      refine jo_nil ?_
      refine jc_seq ?_
      refine jc_seq ?_
      refine jc_region ?_
      refine jo_l (ly_fa fld30_1 rfl rfl rfl) (hd 35 rfl) ?_
      refine jo_l (ly_ld one9 rfl rfl rfl) (hd 36 rfl) ?_
      refine jo_nil ?_
      refine jc_block ?_
      refine jc_seq ?_
      refine jc_region ?_
      refine jo_l (ly_ff (ly_eqS rfl rfl) (by decide)) (hd 38 rfl) ?_
      refine jo_l (ly_as rfl) (hd 37 rfl) ?_
      refine jo_nil ?_
      refine jc_litf rfl ?_
      refine jc_seq ?_
      refine jc_region ?_
      refine jo_l (ly_tt (ly_eqS rfl rfl) rfl) (hd 42 rfl) ?_
      refine jo_l (ly_as rfl) (hd 41 rfl) ?_
      refine jo_nil ?_
      refine jc_litt rfl ?_
      refine jc_region ?_
      refine jo_l (ly_mv rfl) (hd 43 rfl) ?_
      refine jo_l (ly_sub rfl rfl (wrap_i64 (by first | omega | (dsimp only; omega)) (by first | omega | (dsimp only; omega)))) (hd 44 rfl) ?_
      refine jo_l (ly_as rfl) (hd 9 rfl) ?_
      refine jo_nil ?_
      refine jc_region ?_
      refine jo_l (ly_fa fld57_3 rfl rfl rfl) (hd 45 rfl) ?_
      refine jo_l (ly_ld one3 rfl rfl rfl) (hd 46 rfl) ?_
      refine jo_l (ly_mv rfl) (hd 47 rfl) ?_
      refine jo_l (ly_max rfl rfl) (hd 48 rfl) ?_
      refine jo_l (ly_fa fld57_3 rfl rfl rfl) (hd 49 rfl) ?_
      refine jo_st (sy_store rfl rfl rfl siz3 rfl rfl (Nat.le_of_ble_eq_true rfl)) ?_
      refine jo_nil ?_
      refine jc_region ?_
      refine jo_l (ly_add rfl rfl (wrap_i64 (by first | omega | (dsimp only; omega)) (by first | omega | (dsimp only; omega)))) (hd 62 rfl) ?_
      refine jo_l (ly_mv rfl) (hd 25 rfl) ?_
      refine jo_nil ?_
      refine ⟨(i + 1, a, b, d + 1, o - 1, max m (o - 1)), ?_, ?_, rfl, cov_n 70 rfl rfl ?_⟩
      · exact ⟨by omega, cs_2 hc2 ht (by rw [opn_2]; rfl), okc_m (by omega)⟩
      · show l.length - (i + 1) < l.length - i
        omega
      · exact (.cons rfl (.cons rfl (.u (.u (.u (.u (.u (.u (.u (.u (.u (.u (.u (.u (.u (.u (.u (.u (.u (.u (.u (.u (.u (.u (.u (.u (.u (.u (.u (.u (.u (.u (.u (.u (.u (.u (.u (.u (.u (.u .nil))))))))))))))))))))))))))))))))))))))))
    · refine jc_seq ?_
      refine jc_region ?_
      refine jo_l (ly_tt (ly_lt rfl rfl) (by omega)) (hd 26 rfl) ?_
      refine jo_nil ?_
      refine jc_seq ?_
      refine jc_litt rfl ?_
      refine jc_skip ?_
      refine jc_seq ?_
      refine jc_block ?_
      refine jc_seq ?_
      refine jc_region ?_
      refine jo_l (ly_ial (i := i) (row := [.i .i64 2, .s x, .i .i64 (p : Int)]) sl25 rfl rfl rfl (by rw [List.getElem?_map, ht]; rfl)) (hd 27 rfl) ?_
      refine jo_l (ly_ldqa agg30 rfl rfl rfl) (hd 28 rfl) ?_
      refine jo_h (hy_alloc (id := 2) zero30 (by decide) rfl (by decide) rfl) (hd 11 rfl) ?_
      refine jo_st (sy_store rfl rfl rfl siz30 rfl rfl (Nat.le_of_ble_eq_true rfl)) ?_
      refine jo_nil ?_
      refine jc_seq ?_
      refine jc_region ?_
      refine jo_l (ly_fa fld30_0 rfl rfl rfl) (hd 29 rfl) ?_
      refine jo_l (ly_ld one28 rfl rfl rfl) (hd 30 rfl) ?_
      refine jo_nil ?_
      refine jc_block ?_
      refine jc_seq ?_
      refine jc_region ?_
      refine jo_l (ly_ff (ly_eq rfl rfl) (by decide)) (hd 51 rfl) ?_
      refine jo_l (ly_as rfl) (hd 50 rfl) ?_
      refine jo_nil ?_
      refine jc_litf rfl ?_
      refine jc_seq ?_
      refine jc_region ?_
      refine jo_l (ly_ff (ly_eq rfl rfl) (by decide)) (hd 57 rfl) ?_
      refine jo_l (ly_as rfl) (hd 56 rfl) ?_
      refine jo_nil ?_
      refine jc_litf rfl ?_
      refine jc_seq ?_
      refine jc_region ?_
      refine jo_l (ly_fa fld57_2 rfl rfl rfl) (hd 31 rfl) ?_
      refine jo_l (ly_ld one3 rfl rfl rfl) (hd 32 rfl) ?_
      refine jo_l (ly_add rfl rfl (wrap_i64 (by first | omega | (dsimp only; omega)) (by first | omega | (dsimp only; omega)))) (hd 33 rfl) ?_
      refine jo_l (ly_fa fld57_2 rfl rfl rfl) (hd 34 rfl) ?_
      refine jo_st (sy_store rfl rfl rfl siz3 rfl rfl (Nat.le_of_ble_eq_true rfl)) ?_
      refine jo_nil ?_
      refine jc_seq ?_
      refine jc_seq ?_
      refine jc_region ?_
      refine jo_l (ly_fa fld30_1 rfl rfl rfl) (hd 35 rfl) ?_
      refine jo_l (ly_ld one9 rfl rfl rfl) (hd 36 rfl) ?_
      refine jo_nil ?_
      refine jc_block ?_
      refine jc_seq ?_
      refine jc_region ?_
      refine jo_l (ly_ff (ly_eqS rfl rfl) hx1) (hd 38 rfl) ?_
      refine jo_l (ly_as rfl) (hd 37 rfl) ?_
      refine jo_nil ?_
      refine jc_litf rfl ?_
      refine jc_seq ?_
      refine jc_region ?_
      refine jo_l (ly_ff (ly_eqS rfl rfl) hx2) (hd 42 rfl) ?_
      refine jo_l (ly_as rfl) (hd 41 rfl) ?_
      refine jo_nil ?_
      refine jc_litf rfl ?_
      refine jc_skip ?_
      refine jc_region ?_
      refine jo_l (ly_fa fld57_3 rfl rfl rfl) (hd 45 rfl) ?_
      refine jo_l (ly_ld one3 rfl rfl rfl) (hd 46 rfl) ?_
      refine jo_l (ly_mv rfl) (hd 47 rfl) ?_
      refine jo_l (ly_max rfl rfl) (hd 48 rfl) ?_
      refine jo_l (ly_fa fld57_3 rfl rfl rfl) (hd 49 rfl) ?_
      refine jo_st (sy_store rfl rfl rfl siz3 rfl rfl (Nat.le_of_ble_eq_true rfl)) ?_
      refine jo_nil ?_
      refine jc_region ?_
      refine jo_l (ly_add rfl rfl (wrap_i64 (by first | omega | (dsimp only; omega)) (by first | omega | (dsimp only; omega)))) (hd 62 rfl) ?_
      refine jo_l (ly_mv rfl) (hd 25 rfl) ?_
      refine jo_nil ?_
      refine ⟨(i + 1, a, b, d + 1, o, max m o), ?_, ?_, rfl, cov_n 67 rfl rfl ?_⟩
      · exact ⟨by omega, cs_2 hc2 ht (by rw [opn_0 hx1 hx2]; omega), okc_m (by omega)⟩
      · show l.length - (i + 1) < l.length - i
        omega
      · exact (.cons rfl (.cons rfl (.u (.u (.u (.u (.u (.u (.u (.u (.u (.u (.u (.u (.u (.u (.u (.u (.u (.u (.u (.u (.u (.u (.u (.u (.u (.u (.u (.u (.u (.u (.u (.u (.u (.u (.u (.u (.u (.u .nil))))))))))))))))))))))))))))))))))))))))

theorem Count_bad {s : ByteArray} {l : List Tok} {p : Nat} (hs : s.size < 4294967296) (h : lexGo s 0 = (l, some p)) : Spec Try.prog 27 [.s s] (fun o => o = .ret (.t [.a [.i .i64 0, .i .i64 0, .i .i64 0, .i .i64 0], .i .i64 (p : Int), .i .i64 140])) := by
  refine spec_of' [(0, .s s)] rfl Try.func27 rfl (Nat.le_of_ble_eq_true rfl) fun Γ hN hds hL hR => ?_
  have hd : ∀ d, Nat.blt d 64 = true → d < Γ.N := fun d h => by rw [hN]; exact Nat.le_of_ble_eq_true h
  refine jc_seq ?_
  refine jc_region ?_
  refine jo_h (hy_alloc (id := 0) zero57 (by decide) rfl (by decide) rfl) (hd 2 rfl) ?_
  refine jo_l (ly_as rfl) (hd 3 rfl) ?_
  refine jo_l (ly_as rfl) (hd 4 rfl) ?_
  refine jo_nil ?_
  refine jc_seq ?_
  refine jc_region ?_
  refine jo_l (ly_mv rfl) (hd 13 rfl) ?_
  refine jo_call Try.f14 (Lex_bad hs h) rfl Try.func14 rfl rfl (ovL_cons rfl ovL_nil) (.cons .s .nil) (hd 14 rfl) ?_ (fun ch hp => by simp at hp)
  rintro y hy; injection hy with hy; subst hy
  refine jo_l (ly_mv rfl) (hd 12 rfl) ?_
  refine jo_l (ly_ext rfl rfl) (hd 15 rfl) ?_
  refine jo_l (ly_ext rfl rfl) (hd 16 rfl) ?_
  refine jo_l (ly_ext rfl rfl) (hd 17 rfl) ?_
  refine jo_l (ly_as rfl) (hd 5 rfl) ?_
  refine jo_l (ly_as rfl) (hd 6 rfl) ?_
  refine jo_l (ly_as rfl) (hd 7 rfl) ?_
  refine jo_nil ?_
  refine jc_seq ?_
  refine jc_seq ?_
  refine jc_region ?_
  refine jo_l (ly_mv rfl) (hd 18 rfl) ?_
  refine jo_l (ly_tt (ly_ne rfl rfl) (by decide)) (hd 19 rfl) ?_
  refine jo_nil ?_
  refine jc_litt rfl ?_
  refine jc_seq ?_
  refine jc_region ?_
  refine jo_l (ly_build (is := []) (xs := []) (pls := []) zero57 pls57_ rfl ovL_nil rfl trivial (all_of rfl) rfl) (hd 20 rfl) ?_
  refine jo_l (ly_mv rfl) (hd 21 rfl) ?_
  refine jo_l (ly_mv rfl) (hd 22 rfl) ?_
  refine jo_st (sy_store rfl rfl rfl siz57 rfl rfl (Nat.le_of_ble_eq_true rfl)) ?_
  refine jo_l (ly_as rfl) (hd 3 rfl) ?_
  refine jo_l (ly_as rfl) (hd 4 rfl) ?_
  refine jo_nil ?_
  refine jc_ret ?_
  refine ⟨_, _, (.cons (ResV.cell agg57 rfl rfl rfl rfl) (.cons rfl (.cons rfl .nil))), (.t1 (.a1 .i (.a1 .i (.a1 .i (.a1 .i .a0)))) (.t1 .i (.t1 .i .t0))), ?_⟩
  exact rfl

theorem rCount_s (f : Bool) (l : List Tok) (hk : kinds l) (hll : l.length < 4294967296) : Spec Try.prog 28 [.l f 3 (l.map tokRow)] (fun o => o = .ret (.t [.i .i64 (cf l l.length).1, .i .i64 (cf l l.length).2.1, .i .i64 (cf l l.length).2.2.1, .i .i64 (cf l l.length).2.2.2.2])) := by
  refine spec_of' [(0, .l f 3 (l.map tokRow))] rfl Try.func28 rfl (Nat.le_of_ble_eq_true rfl) fun Γ hN hds hL hR => ?_
  have hd : ∀ d, Nat.blt d 55 = true → d < Γ.N := fun d h => by rw [hN]; exact Nat.le_of_ble_eq_true h
  have hm : (l.map tokRow).length = l.length := by simp
  refine jc_seq ?_
  refine jc_region ?_
  refine jo_l (ly_as rfl) (hd 2 rfl) ?_
  refine jo_l (ly_as rfl) (hd 3 rfl) ?_
  refine jo_l (ly_as rfl) (hd 4 rfl) ?_
  refine jo_l (ly_as rfl) (hd 5 rfl) ?_
  refine jo_nil ?_
  refine jc_seq ?_
  refine jc_region ?_
  refine jo_h (hy_alloc (id := 0) zero82 (by decide) rfl (by decide) rfl) (hd 6 rfl) ?_
  refine jo_nil ?_
  refine jc_seq ?_
  refine jc_region ?_
  refine jo_l (ly_as rfl) (hd 7 rfl) ?_
  refine jo_l (ly_as rfl) (hd 8 rfl) ?_
  refine jo_nil ?_
  refine jc_seq ?_
  refine jc_seq ?_
  refine jc_region ?_
  refine jo_l (ly_mv rfl) (hd 11 rfl) ?_
  refine jo_l (ly_lenl sl44 rfl) (hd 12 rfl) ?_
  refine jo_l (ly_mv rfl) (hd 13 rfl) ?_
  refine jo_nil ?_
  refine jc_block ?_
  refine jc_loopD (G := Nat × C5) 1 (fun g => g.1 ≤ l.length ∧ cf l g.1 = g.2 ∧ okc g.1 g.2) (fun g => [(7, .i .i64 g.2.2.2.2.1), (8, .i .i64 g.2.2.2.2.2), (13, .i .i64 (g.1 : Int)), (10, .u), (14, .u), (15, .u), (16, .u), (17, .u), (18, .u), (19, .u), (20, .u), (21, .u), (22, .u), (23, .u), (24, .u), (25, .u), (26, .u), (27, .u), (28, .u), (29, .u), (30, .u), (31, .u), (32, .u), (33, .u), (34, .u), (35, .u), (36, .u), (37, .u), (38, .u), (39, .u), (40, .u), (41, .u), (42, .u), (43, .u), (44, .u), (45, .u), (46, .u), (47, .u)]) (fun g => [⟨82, 3, 0, true, ints .i64 [g.2.1, g.2.2.1, g.2.2.2.1]⟩]) (fun g => l.length - g.1) (0, 0, 0, 0, 0, 0) ?_ ?_ rfl hR rfl (fun _ _ => rfl) (fun g _ => .cons rfl .nil) ?_
  · exact ⟨Nat.zero_le _, rfl, okc_m (by omega)⟩
  · exact (.cons rfl (.cons rfl (.cons rfl (.u (.u (.u (.u (.u (.u (.u (.u (.u (.u (.u (.u (.u (.u (.u (.u (.u (.u (.u (.u (.u (.u (.u (.u (.u (.u (.u (.u (.u (.u (.u (.u (.u (.u (.u .nil))))))))))))))))))))))))))))))))))))))
  · rintro ⟨i, a, b, d, o, m⟩ ⟨hc1, hc2, hc3⟩
    dsimp only at hc1 hc2 hc3
    have hc4 := okc_i hc3
    rcases cnt_cases hk hc1 with hE | ⟨x, p, hil, ht⟩ | ⟨x, p, hil, ht⟩ | ⟨p, hil, ht⟩ | ⟨p, hil, ht⟩ | ⟨x, p, hil, ht, hx1, hx2⟩
    · refine jc_seq ?_
      refine jc_region ?_
      refine jo_l (ly_ff (ly_lt rfl rfl) (by omega)) (hd 14 rfl) ?_
      refine jo_nil ?_
      refine jc_seq ?_
      refine jc_litf rfl ?_
      refine jc_exit ?_
      refine jc_seq ?_
      refine jc_draw (n := 11) _ rfl mixed ?_
      refine ja_l 0 (lo_l (ly_iar (i := 0) ar82 rfl rfl rfl rfl (by first | omega | (dsimp only; omega)) rfl) (hd 48 rfl)) rfl (by kernel_rfl) (by kernel_rfl) (by kernel_rfl) (fun _ _ _ _ h => h) ?_
      refine ja_l 1 (lo_l (ly_is (ly_ldi one3 rfl rfl (Nat.le_of_ble_eq_true rfl)) (show V.i .i64 ([a, b, d].getD 0 0) = V.i .i64 a from rfl)) (hd 49 rfl)) rfl (by kernel_rfl) (by kernel_rfl) (by kernel_rfl) (fun _ _ _ _ h => h) ?_
      refine ja_l 2 (lo_l (ly_iar (i := 1) ar82 rfl rfl rfl rfl (by first | omega | (dsimp only; omega)) rfl) (hd 50 rfl)) rfl (by kernel_rfl) (by kernel_rfl) (by kernel_rfl) (fun _ _ _ _ h => h) ?_
      refine ja_l 3 (lo_l (ly_is (ly_ldi one3 rfl rfl (Nat.le_of_ble_eq_true rfl)) (show V.i .i64 ([a, b, d].getD 1 0) = V.i .i64 b from rfl)) (hd 51 rfl)) rfl (by kernel_rfl) (by kernel_rfl) (by kernel_rfl) (fun _ _ _ _ h => h) ?_
      refine ja_l 4 (lo_l (ly_iar (i := 2) ar82 rfl rfl rfl rfl (by first | omega | (dsimp only; omega)) rfl) (hd 52 rfl)) rfl (by kernel_rfl) (by kernel_rfl) (by kernel_rfl) (fun _ _ _ _ h => h) ?_
      refine ja_l 5 (lo_l (ly_is (ly_ldi one3 rfl rfl (Nat.le_of_ble_eq_true rfl)) (show V.i .i64 ([a, b, d].getD 2 0) = V.i .i64 d from rfl)) (hd 53 rfl)) rfl (by kernel_rfl) (by kernel_rfl) (by kernel_rfl) (fun _ _ _ _ h => h) ?_
      refine ja_l 6 (lo_l (ly_mv rfl) (hd 54 rfl)) rfl (by kernel_rfl) (by kernel_rfl) (by kernel_rfl) (fun _ _ _ _ h => h) ?_
      refine ja_l 7 (lo_l (ly_as rfl) (hd 2 rfl)) rfl (by kernel_rfl) (by kernel_rfl) (by kernel_rfl) (fun _ _ _ _ h => h) ?_
      refine ja_l 8 (lo_l (ly_as rfl) (hd 3 rfl)) rfl (by kernel_rfl) (by kernel_rfl) (by kernel_rfl) (fun _ _ _ _ h => h) ?_
      refine ja_l 9 (lo_l (ly_as rfl) (hd 4 rfl)) rfl (by kernel_rfl) (by kernel_rfl) (by kernel_rfl) (fun _ _ _ _ h => h) ?_
      refine ja_l 10 (lo_l (ly_as rfl) (hd 5 rfl)) rfl (by kernel_rfl) (by kernel_rfl) (by kernel_rfl) (fun _ _ _ _ h => h) ?_
      refine ja_nil (by kernel_rfl) ?_
      refine jc_ret ?_
      refine ⟨_, _, (.cons rfl (.cons rfl (.cons rfl (.cons rfl .nil)))), (.t1 .i (.t1 .i (.t1 .i (.t1 .i .t0)))), ?_⟩
      rw [← hE, hc2]
    · refine jc_seq ?_
      refine jc_region ?_
      refine jo_l (ly_tt (ly_lt rfl rfl) (by omega)) (hd 14 rfl) ?_
      refine jo_nil ?_
      refine jc_seq ?_
      refine jc_litt rfl ?_
      refine jc_skip ?_
      refine jc_seq ?_
      refine jc_block ?_
      refine jc_seq ?_
      refine jc_region ?_
      refine jo_l (ly_ial (i := i) (row := [.i .i64 0, .s x, .i .i64 (p : Int)]) sl44 rfl rfl rfl (by rw [List.getElem?_map, ht]; rfl)) (hd 15 rfl) ?_
      refine jo_l (ly_ldqa agg40 rfl rfl rfl) (hd 16 rfl) ?_
      refine jo_h (hy_alloc (id := 1) zero40 (by decide) rfl (by decide) rfl) (hd 10 rfl) ?_
      refine jo_st (sy_store rfl rfl rfl siz40 rfl rfl (Nat.le_of_ble_eq_true rfl)) ?_
      refine jo_nil ?_
      refine jc_seq ?_
      refine jc_region ?_
      refine jo_l (ly_fa fld40_0 rfl rfl rfl) (hd 17 rfl) ?_
      refine jo_l (ly_ld one3 rfl rfl rfl) (hd 18 rfl) ?_
      refine jo_l (ly_iar (i := 0) ar82 rfl rfl rfl rfl (by first | omega | (dsimp only; omega)) rfl) (hd 19 rfl) ?_
      refine jo_l (ly_is (ly_ldi one3 rfl rfl (Nat.le_of_ble_eq_true rfl)) (show V.i .i64 ([a, b, d].getD 0 0) = V.i .i64 a from rfl)) (hd 20 rfl) ?_
      refine jo_l (ly_add rfl rfl (wrap_i64 (by first | omega | (dsimp only; omega)) (by first | omega | (dsimp only; omega)))) (hd 21 rfl) ?_
      refine jo_l (ly_iar (i := 0) ar82 rfl rfl rfl rfl (by first | omega | (dsimp only; omega)) rfl) (hd 22 rfl) ?_
      refine jo_st (sy_storei rfl rfl rfl one3 (Nat.le_of_ble_eq_true rfl)) ?_
      refine jo_nil ?_
      refine jc_seq ?_
      refine jc_seq ?_
      refine jc_region ?_
      refine jo_l (ly_fa fld40_0 rfl rfl rfl) (hd 23 rfl) ?_
      refine jo_l (ly_ld one3 rfl rfl rfl) (hd 24 rfl) ?_
      refine jo_l (ly_ff (ly_eq rfl rfl) (by decide)) (hd 25 rfl) ?_
      refine jo_l (ly_mv rfl) (hd 26 rfl) ?_
      refine jo_s 26 rfl rfl rfl (hd 27 rfl) ?_
      refine jo_s 26 rfl rfl rfl (hd 28 rfl) ?_
      refine jo_s 26 rfl rfl rfl (hd 29 rfl) ?_
      refine jo_l (ly_pick_f rfl rfl) (hd 30 rfl) ?_
      refine jo_nil ?_
      refine jc_litf rfl ?_
      refine jc_skip ?_
      refine jc_seq ?_
      refine jc_seq ?_
      refine jc_region ?_
      refine jo_l (ly_fa fld40_0 rfl rfl rfl) (hd 33 rfl) ?_
      refine jo_l (ly_ld one3 rfl rfl rfl) (hd 34 rfl) ?_
      refine jo_l (ly_ff (ly_eq rfl rfl) (by decide)) (hd 35 rfl) ?_
      refine jo_l (ly_mv rfl) (hd 36 rfl) ?_
      refine jo_s 36 rfl rfl rfl (hd 37 rfl) ?_
      refine jo_s 36 rfl rfl rfl (hd 38 rfl) ?_
      refine jo_s 36 rfl rfl rfl (hd 39 rfl) ?_
      refine jo_l (ly_pick_f rfl rfl) (hd 40 rfl) ?_
      refine jo_nil ?_
      refine jc_litf rfl ?_
      refine jc_skip ?_
      refine jc_seq ?_
      refine jc_region ?_
      refine jo_l (ly_mv rfl) (hd 43 rfl) ?_
      refine jo_l (ly_mv rfl) (hd 44 rfl) ?_
      refine jo_l (ly_ff (ly_gt rfl rfl) (by dsimp only; omega)) (hd 45 rfl) ?_
      refine jo_nil ?_
      refine jc_litf rfl ?_
      refine jc_skip ?_
      refine jc_region ?_
      refine jo_l (ly_add rfl rfl (wrap_i64 (by first | omega | (dsimp only; omega)) (by first | omega | (dsimp only; omega)))) (hd 47 rfl) ?_
      refine jo_l (ly_mv rfl) (hd 13 rfl) ?_
      refine jo_nil ?_
      refine ⟨(i + 1, a + 1, b, d, o, m), ?_, ?_, rfl, cov_n 69 rfl rfl ?_⟩
      · exact ⟨by omega, cs_0 hc2 ht, okc_m (by omega)⟩
      · show l.length - (i + 1) < l.length - i
        omega
      · exact (.cons rfl (.cons rfl (.cons rfl (.u (.u (.u (.u (.u (.u (.u (.u (.u (.u (.u (.u (.u (.u (.u (.u (.u (.u (.u (.u (.u (.u (.u (.u (.u (.u (.u (.u (.u (.u (.u (.u (.u (.u (.u .nil))))))))))))))))))))))))))))))))))))))
    · refine jc_seq ?_
      refine jc_region ?_
      refine jo_l (ly_tt (ly_lt rfl rfl) (by omega)) (hd 14 rfl) ?_
      refine jo_nil ?_
      refine jc_seq ?_
      refine jc_litt rfl ?_
      refine jc_skip ?_
      refine jc_seq ?_
      refine jc_block ?_
      refine jc_seq ?_
      refine jc_region ?_
      refine jo_l (ly_ial (i := i) (row := [.i .i64 1, .s x, .i .i64 (p : Int)]) sl44 rfl rfl rfl (by rw [List.getElem?_map, ht]; rfl)) (hd 15 rfl) ?_
      refine jo_l (ly_ldqa agg40 rfl rfl rfl) (hd 16 rfl) ?_
      refine jo_h (hy_alloc (id := 1) zero40 (by decide) rfl (by decide) rfl) (hd 10 rfl) ?_
      refine jo_st (sy_store rfl rfl rfl siz40 rfl rfl (Nat.le_of_ble_eq_true rfl)) ?_
      refine jo_nil ?_
      refine jc_seq ?_
      refine jc_region ?_
      refine jo_l (ly_fa fld40_0 rfl rfl rfl) (hd 17 rfl) ?_
      refine jo_l (ly_ld one3 rfl rfl rfl) (hd 18 rfl) ?_
      refine jo_l (ly_iar (i := 1) ar82 rfl rfl rfl rfl (by first | omega | (dsimp only; omega)) rfl) (hd 19 rfl) ?_
      refine jo_l (ly_is (ly_ldi one3 rfl rfl (Nat.le_of_ble_eq_true rfl)) (show V.i .i64 ([a, b, d].getD 1 0) = V.i .i64 b from rfl)) (hd 20 rfl) ?_
      refine jo_l (ly_add rfl rfl (wrap_i64 (by first | omega | (dsimp only; omega)) (by first | omega | (dsimp only; omega)))) (hd 21 rfl) ?_
      refine jo_l (ly_iar (i := 1) ar82 rfl rfl rfl rfl (by first | omega | (dsimp only; omega)) rfl) (hd 22 rfl) ?_
      refine jo_st (sy_storei rfl rfl rfl one3 (Nat.le_of_ble_eq_true rfl)) ?_
      refine jo_nil ?_
      refine jc_seq ?_
      refine jc_seq ?_
      refine jc_region ?_
      refine jo_l (ly_fa fld40_0 rfl rfl rfl) (hd 23 rfl) ?_
      refine jo_l (ly_ld one3 rfl rfl rfl) (hd 24 rfl) ?_
      refine jo_l (ly_ff (ly_eq rfl rfl) (by decide)) (hd 25 rfl) ?_
      refine jo_l (ly_mv rfl) (hd 26 rfl) ?_
      refine jo_s 26 rfl rfl rfl (hd 27 rfl) ?_
      refine jo_s 26 rfl rfl rfl (hd 28 rfl) ?_
      refine jo_s 26 rfl rfl rfl (hd 29 rfl) ?_
      refine jo_l (ly_pick_f rfl rfl) (hd 30 rfl) ?_
      refine jo_nil ?_
      refine jc_litf rfl ?_
      refine jc_skip ?_
      refine jc_seq ?_
      refine jc_seq ?_
      refine jc_region ?_
      refine jo_l (ly_fa fld40_0 rfl rfl rfl) (hd 33 rfl) ?_
      refine jo_l (ly_ld one3 rfl rfl rfl) (hd 34 rfl) ?_
      refine jo_l (ly_ff (ly_eq rfl rfl) (by decide)) (hd 35 rfl) ?_
      refine jo_l (ly_mv rfl) (hd 36 rfl) ?_
      refine jo_s 36 rfl rfl rfl (hd 37 rfl) ?_
      refine jo_s 36 rfl rfl rfl (hd 38 rfl) ?_
      refine jo_s 36 rfl rfl rfl (hd 39 rfl) ?_
      refine jo_l (ly_pick_f rfl rfl) (hd 40 rfl) ?_
      refine jo_nil ?_
      refine jc_litf rfl ?_
      refine jc_skip ?_
      refine jc_seq ?_
      refine jc_region ?_
      refine jo_l (ly_mv rfl) (hd 43 rfl) ?_
      refine jo_l (ly_mv rfl) (hd 44 rfl) ?_
      refine jo_l (ly_ff (ly_gt rfl rfl) (by dsimp only; omega)) (hd 45 rfl) ?_
      refine jo_nil ?_
      refine jc_litf rfl ?_
      refine jc_skip ?_
      refine jc_region ?_
      refine jo_l (ly_add rfl rfl (wrap_i64 (by first | omega | (dsimp only; omega)) (by first | omega | (dsimp only; omega)))) (hd 47 rfl) ?_
      refine jo_l (ly_mv rfl) (hd 13 rfl) ?_
      refine jo_nil ?_
      refine ⟨(i + 1, a, b + 1, d, o, m), ?_, ?_, rfl, cov_n 69 rfl rfl ?_⟩
      · exact ⟨by omega, cs_1 hc2 ht, okc_m (by omega)⟩
      · show l.length - (i + 1) < l.length - i
        omega
      · exact (.cons rfl (.cons rfl (.cons rfl (.u (.u (.u (.u (.u (.u (.u (.u (.u (.u (.u (.u (.u (.u (.u (.u (.u (.u (.u (.u (.u (.u (.u (.u (.u (.u (.u (.u (.u (.u (.u (.u (.u (.u (.u .nil))))))))))))))))))))))))))))))))))))))
    · refine jc_seq ?_
      refine jc_region ?_
      refine jo_l (ly_tt (ly_lt rfl rfl) (by omega)) (hd 14 rfl) ?_
      refine jo_nil ?_
      refine jc_seq ?_
      refine jc_litt rfl ?_
      refine jc_skip ?_
      refine jc_seq ?_
      refine jc_block ?_
      refine jc_seq ?_
      refine jc_region ?_
      refine jo_l (ly_ial (i := i) (row := [.i .i64 2, .s ⟨#[40]⟩, .i .i64 (p : Int)]) sl44 rfl rfl rfl (by rw [List.getElem?_map, ht]; rfl)) (hd 15 rfl) ?_
      refine jo_l (ly_ldqa agg40 rfl rfl rfl) (hd 16 rfl) ?_
      refine jo_h (hy_alloc (id := 1) zero40 (by decide) rfl (by decide) rfl) (hd 10 rfl) ?_
      refine jo_st (sy_store rfl rfl rfl siz40 rfl rfl (Nat.le_of_ble_eq_true rfl)) ?_
      refine jo_nil ?_
      refine jc_seq ?_
      refine jc_region ?_
      refine jo_l (ly_fa fld40_0 rfl rfl rfl) (hd 17 rfl) ?_
      refine jo_l (ly_ld one3 rfl rfl rfl) (hd 18 rfl) ?_
      refine jo_l (ly_iar (i := 2) ar82 rfl rfl rfl rfl (by first | omega | (dsimp only; omega)) rfl) (hd 19 rfl) ?_
      refine jo_l (ly_is (ly_ldi one3 rfl rfl (Nat.le_of_ble_eq_true rfl)) (show V.i .i64 ([a, b, d].getD 2 0) = V.i .i64 d from rfl)) (hd 20 rfl) ?_
      refine jo_l (ly_add rfl rfl (wrap_i64 (by first | omega | (dsimp only; omega)) (by first | omega | (dsimp only; omega)))) (hd 21 rfl) ?_
      refine jo_l (ly_iar (i := 2) ar82 rfl rfl rfl rfl (by first | omega | (dsimp only; omega)) rfl) (hd 22 rfl) ?_
      refine jo_st (sy_storei rfl rfl rfl one3 (Nat.le_of_ble_eq_true rfl)) ?_
      refine jo_nil ?_
      refine jc_seq ?_
      refine jc_seq ?_
      refine jc_region ?_
      refine jo_l (ly_fa fld40_0 rfl rfl rfl) (hd 23 rfl) ?_
      refine jo_l (ly_ld one3 rfl rfl rfl) (hd 24 rfl) ?_
      refine jo_l (ly_tt (ly_eq rfl rfl) rfl) (hd 25 rfl) ?_
      refine jo_l (ly_mv rfl) (hd 26 rfl) ?_
      refine jo_g 26 rfl rfl (ly_fa fld40_1 rfl rfl rfl) (hd 27 rfl) ?_
      refine jo_g 26 rfl rfl (ly_ld one9 rfl rfl rfl) (hd 28 rfl) ?_
      refine jo_g 26 rfl rfl (ly_tt (ly_eqS rfl rfl) rfl) (hd 29 rfl) ?_
      refine jo_l (ly_pick_t rfl rfl) (hd 30 rfl) ?_
      refine jo_nil ?_
      refine jc_litt rfl ?_
      refine jc_region ?_
      refine jo_l (ly_mv rfl) (hd 31 rfl) ?_
      refine jo_l (ly_add rfl rfl (wrap_i64 (by first | omega | (dsimp only; omega)) (by first | omega | (dsimp only; omega)))) (hd 32 rfl) ?_
      refine jo_l (ly_as rfl) (hd 7 rfl) ?_
      refine jo_nil ?_
      refine jc_seq ?_
      refine jc_seq ?_
      refine jc_region ?_
      refine jo_l (ly_fa fld40_0 rfl rfl rfl) (hd 33 rfl) ?_
      refine jo_l (ly_ld one3 rfl rfl rfl) (hd 34 rfl) ?_
      refine jo_l (ly_tt (ly_eq rfl rfl) rfl) (hd 35 rfl) ?_
      refine jo_l (ly_mv rfl) (hd 36 rfl) ?_
      refine jo_g 36 rfl rfl (ly_fa fld40_1 rfl rfl rfl) (hd 37 rfl) ?_
      refine jo_g 36 rfl rfl (ly_ld one9 rfl rfl rfl) (hd 38 rfl) ?_
      refine jo_g 36 rfl rfl (ly_ff (ly_eqS rfl rfl) (by decide)) (hd 39 rfl) ?_
      refine jo_l (ly_pick_t rfl rfl) (hd 40 rfl) ?_
      refine jo_nil ?_
      refine jc_litf rfl ?_
      refine jc_skip ?_
      refine jc_seq ?_
      refine jc_region ?_
      refine jo_l (ly_mv rfl) (hd 43 rfl) ?_
      refine jo_l (ly_mv rfl) (hd 44 rfl) ?_
      refine jo_l (ly_gt rfl rfl) (hd 45 rfl) ?_
      refine jo_nil ?_
      refine jc_if rfl (fun h13 => ?_) (fun h13 => ?_)
      · refine jc_region ?_
        refine jo_l (ly_mv rfl) (hd 46 rfl) ?_
        refine jo_l (ly_as rfl) (hd 8 rfl) ?_
        refine jo_nil ?_
        refine jc_region ?_
        refine jo_l (ly_add rfl rfl (wrap_i64 (by first | omega | (dsimp only; omega)) (by first | omega | (dsimp only; omega)))) (hd 47 rfl) ?_
        refine jo_l (ly_mv rfl) (hd 13 rfl) ?_
        refine jo_nil ?_
        refine ⟨(i + 1, a, b, d + 1, o + 1, max m (o + 1)), ?_, ?_, rfl, cov_n 74 rfl rfl ?_⟩
        · exact ⟨by omega, cs_2 hc2 ht (by rw [opn_1]), okc_m (by omega)⟩
        · show l.length - (i + 1) < l.length - i
          omega
        · exact (.cons rfl (.cons (by show some (V.i .i64 _) = some (V.i .i64 _); dsimp only at *; congr 2; omega) (.cons rfl (.u (.u (.u (.u (.u (.u (.u (.u (.u (.u (.u (.u (.u (.u (.u (.u (.u (.u (.u (.u (.u (.u (.u (.u (.u (.u (.u (.u (.u (.u (.u (.u (.u (.u (.u .nil))))))))))))))))))))))))))))))))))))))
      · refine jc_skip ?_
        refine jc_region ?_
        refine jo_l (ly_add rfl rfl (wrap_i64 (by first | omega | (dsimp only; omega)) (by first | omega | (dsimp only; omega)))) (hd 47 rfl) ?_
        refine jo_l (ly_mv rfl) (hd 13 rfl) ?_
        refine jo_nil ?_
        refine ⟨(i + 1, a, b, d + 1, o + 1, max m (o + 1)), ?_, ?_, rfl, cov_n 72 rfl rfl ?_⟩
        · exact ⟨by omega, cs_2 hc2 ht (by rw [opn_1]), okc_m (by omega)⟩
        · show l.length - (i + 1) < l.length - i
          omega
        · exact (.cons rfl (.cons (by show some (V.i .i64 _) = some (V.i .i64 _); dsimp only at *; congr 2; omega) (.cons rfl (.u (.u (.u (.u (.u (.u (.u (.u (.u (.u (.u (.u (.u (.u (.u (.u (.u (.u (.u (.u (.u (.u (.u (.u (.u (.u (.u (.u (.u (.u (.u (.u (.u (.u (.u .nil))))))))))))))))))))))))))))))))))))))
    · refine jc_seq ?_
      refine jc_region ?_
      refine jo_l (ly_tt (ly_lt rfl rfl) (by omega)) (hd 14 rfl) ?_
      refine jo_nil ?_
      refine jc_seq ?_
      refine jc_litt rfl ?_
      refine jc_skip ?_
      refine jc_seq ?_
      refine jc_block ?_
      refine jc_seq ?_
      refine jc_region ?_
      refine jo_l (ly_ial (i := i) (row := [.i .i64 2, .s ⟨#[41]⟩, .i .i64 (p : Int)]) sl44 rfl rfl rfl (by rw [List.getElem?_map, ht]; rfl)) (hd 15 rfl) ?_
      refine jo_l (ly_ldqa agg40 rfl rfl rfl) (hd 16 rfl) ?_
      refine jo_h (hy_alloc (id := 1) zero40 (by decide) rfl (by decide) rfl) (hd 10 rfl) ?_
      refine jo_st (sy_store rfl rfl rfl siz40 rfl rfl (Nat.le_of_ble_eq_true rfl)) ?_
      refine jo_nil ?_
      refine jc_seq ?_
      refine jc_region ?_
      refine jo_l (ly_fa fld40_0 rfl rfl rfl) (hd 17 rfl) ?_
      refine jo_l (ly_ld one3 rfl rfl rfl) (hd 18 rfl) ?_
      refine jo_l (ly_iar (i := 2) ar82 rfl rfl rfl rfl (by first | omega | (dsimp only; omega)) rfl) (hd 19 rfl) ?_
      refine jo_l (ly_is (ly_ldi one3 rfl rfl (Nat.le_of_ble_eq_true rfl)) (show V.i .i64 ([a, b, d].getD 2 0) = V.i .i64 d from rfl)) (hd 20 rfl) ?_
      refine jo_l (ly_add rfl rfl (wrap_i64 (by first | omega | (dsimp only; omega)) (by first | omega | (dsimp only; omega)))) (hd 21 rfl) ?_
      refine jo_l (ly_iar (i := 2) ar82 rfl rfl rfl rfl (by first | omega | (dsimp only; omega)) rfl) (hd 22 rfl) ?_
      refine jo_st (sy_storei rfl rfl rfl one3 (Nat.le_of_ble_eq_true rfl)) ?_
      refine jo_nil ?_
      refine jc_seq ?_
      refine jc_seq ?_
      refine jc_region ?_
      refine jo_l (ly_fa fld40_0 rfl rfl rfl) (hd 23 rfl) ?_
      refine jo_l (ly_ld one3 rfl rfl rfl) (hd 24 rfl) ?_
      refine jo_l (ly_tt (ly_eq rfl rfl) rfl) (hd 25 rfl) ?_
      refine jo_l (ly_mv rfl) (hd 26 rfl) ?_
      refine jo_g 26 rfl rfl (ly_fa fld40_1 rfl rfl rfl) (hd 27 rfl) ?_
      refine jo_g 26 rfl rfl (ly_ld one9 rfl rfl rfl) (hd 28 rfl) ?_
      refine jo_g 26 rfl rfl (ly_ff (ly_eqS rfl rfl) (by decide)) (hd 29 rfl) ?_
      refine jo_l (ly_pick_t rfl rfl) (hd 30 rfl) ?_
      refine jo_nil ?_
      refine jc_litf rfl ?_
      refine jc_skip ?_
      refine jc_seq ?_
      refine jc_seq ?_
      refine jc_region ?_
      refine jo_l (ly_fa fld40_0 rfl rfl rfl) (hd 33 rfl) ?_
      refine jo_l (ly_ld one3 rfl rfl rfl) (hd 34 rfl) ?_
      refine jo_l (ly_tt (ly_eq rfl rfl) rfl) (hd 35 rfl) ?_
      refine jo_l (ly_mv rfl) (hd 36 rfl) ?_
      refine jo_g 36 rfl rfl (ly_fa fld40_1 rfl rfl rfl) (hd 37 rfl) ?_
      refine jo_g 36 rfl rfl (ly_ld one9 rfl rfl rfl) (hd 38 rfl) ?_
      refine jo_g 36 rfl rfl (ly_tt (ly_eqS rfl rfl) rfl) (hd 39 rfl) ?_
      refine jo_l (ly_pick_t rfl rfl) (hd 40 rfl) ?_
      refine jo_nil ?_
      refine jc_litt rfl ?_
      refine jc_region ?_
      refine jo_l (ly_mv rfl) (hd 41 rfl) ?_
      refine jo_l (ly_sub rfl rfl (wrap_i64 (by first | omega | (dsimp only; omega)) (by first | omega | (dsimp only; omega)))) (hd 42 rfl) ?_
      refine jo_l (ly_as rfl) (hd 7 rfl) ?_
      refine jo_nil ?_
      refine jc_seq ?_
      refine jc_region ?_
      refine jo_l (ly_mv rfl) (hd 43 rfl) ?_
      refine jo_l (ly_mv rfl) (hd 44 rfl) ?_
      refine jo_l (ly_gt rfl rfl) (hd 45 rfl) ?_
      refine jo_nil ?_
      refine jc_if rfl (fun h17 => ?_) (fun h17 => ?_)
      · refine jc_region ?_
        refine jo_l (ly_mv rfl) (hd 46 rfl) ?_
        refine jo_l (ly_as rfl) (hd 8 rfl) ?_
        refine jo_nil ?_
        refine jc_region ?_
        refine jo_l (ly_add rfl rfl (wrap_i64 (by first | omega | (dsimp only; omega)) (by first | omega | (dsimp only; omega)))) (hd 47 rfl) ?_
        refine jo_l (ly_mv rfl) (hd 13 rfl) ?_
        refine jo_nil ?_
        refine ⟨(i + 1, a, b, d + 1, o - 1, max m (o - 1)), ?_, ?_, rfl, cov_n 74 rfl rfl ?_⟩
        · exact ⟨by omega, cs_2 hc2 ht (by rw [opn_2]; rfl), okc_m (by omega)⟩
        · show l.length - (i + 1) < l.length - i
          omega
        · exact (.cons rfl (.cons (by show some (V.i .i64 _) = some (V.i .i64 _); dsimp only at *; congr 2; omega) (.cons rfl (.u (.u (.u (.u (.u (.u (.u (.u (.u (.u (.u (.u (.u (.u (.u (.u (.u (.u (.u (.u (.u (.u (.u (.u (.u (.u (.u (.u (.u (.u (.u (.u (.u (.u (.u .nil))))))))))))))))))))))))))))))))))))))
      · refine jc_skip ?_
        refine jc_region ?_
        refine jo_l (ly_add rfl rfl (wrap_i64 (by first | omega | (dsimp only; omega)) (by first | omega | (dsimp only; omega)))) (hd 47 rfl) ?_
        refine jo_l (ly_mv rfl) (hd 13 rfl) ?_
        refine jo_nil ?_
        refine ⟨(i + 1, a, b, d + 1, o - 1, max m (o - 1)), ?_, ?_, rfl, cov_n 72 rfl rfl ?_⟩
        · exact ⟨by omega, cs_2 hc2 ht (by rw [opn_2]; rfl), okc_m (by omega)⟩
        · show l.length - (i + 1) < l.length - i
          omega
        · exact (.cons rfl (.cons (by show some (V.i .i64 _) = some (V.i .i64 _); dsimp only at *; congr 2; omega) (.cons rfl (.u (.u (.u (.u (.u (.u (.u (.u (.u (.u (.u (.u (.u (.u (.u (.u (.u (.u (.u (.u (.u (.u (.u (.u (.u (.u (.u (.u (.u (.u (.u (.u (.u (.u (.u .nil))))))))))))))))))))))))))))))))))))))
    · refine jc_seq ?_
      refine jc_region ?_
      refine jo_l (ly_tt (ly_lt rfl rfl) (by omega)) (hd 14 rfl) ?_
      refine jo_nil ?_
      refine jc_seq ?_
      refine jc_litt rfl ?_
      refine jc_skip ?_
      refine jc_seq ?_
      refine jc_block ?_
      refine jc_seq ?_
      refine jc_region ?_
      refine jo_l (ly_ial (i := i) (row := [.i .i64 2, .s x, .i .i64 (p : Int)]) sl44 rfl rfl rfl (by rw [List.getElem?_map, ht]; rfl)) (hd 15 rfl) ?_
      refine jo_l (ly_ldqa agg40 rfl rfl rfl) (hd 16 rfl) ?_
      refine jo_h (hy_alloc (id := 1) zero40 (by decide) rfl (by decide) rfl) (hd 10 rfl) ?_
      refine jo_st (sy_store rfl rfl rfl siz40 rfl rfl (Nat.le_of_ble_eq_true rfl)) ?_
      refine jo_nil ?_
      refine jc_seq ?_
      refine jc_region ?_
      refine jo_l (ly_fa fld40_0 rfl rfl rfl) (hd 17 rfl) ?_
      refine jo_l (ly_ld one3 rfl rfl rfl) (hd 18 rfl) ?_
      refine jo_l (ly_iar (i := 2) ar82 rfl rfl rfl rfl (by first | omega | (dsimp only; omega)) rfl) (hd 19 rfl) ?_
      refine jo_l (ly_is (ly_ldi one3 rfl rfl (Nat.le_of_ble_eq_true rfl)) (show V.i .i64 ([a, b, d].getD 2 0) = V.i .i64 d from rfl)) (hd 20 rfl) ?_
      refine jo_l (ly_add rfl rfl (wrap_i64 (by first | omega | (dsimp only; omega)) (by first | omega | (dsimp only; omega)))) (hd 21 rfl) ?_
      refine jo_l (ly_iar (i := 2) ar82 rfl rfl rfl rfl (by first | omega | (dsimp only; omega)) rfl) (hd 22 rfl) ?_
      refine jo_st (sy_storei rfl rfl rfl one3 (Nat.le_of_ble_eq_true rfl)) ?_
      refine jo_nil ?_
      refine jc_seq ?_
      refine jc_seq ?_
      refine jc_region ?_
      refine jo_l (ly_fa fld40_0 rfl rfl rfl) (hd 23 rfl) ?_
      refine jo_l (ly_ld one3 rfl rfl rfl) (hd 24 rfl) ?_
      refine jo_l (ly_tt (ly_eq rfl rfl) rfl) (hd 25 rfl) ?_
      refine jo_l (ly_mv rfl) (hd 26 rfl) ?_
      refine jo_g 26 rfl rfl (ly_fa fld40_1 rfl rfl rfl) (hd 27 rfl) ?_
      refine jo_g 26 rfl rfl (ly_ld one9 rfl rfl rfl) (hd 28 rfl) ?_
      refine jo_g 26 rfl rfl (ly_ff (ly_eqS rfl rfl) hx1) (hd 29 rfl) ?_
      refine jo_l (ly_pick_t rfl rfl) (hd 30 rfl) ?_
      refine jo_nil ?_
      refine jc_litf rfl ?_
      refine jc_skip ?_
      refine jc_seq ?_
      refine jc_seq ?_
      refine jc_region ?_
      refine jo_l (ly_fa fld40_0 rfl rfl rfl) (hd 33 rfl) ?_
      refine jo_l (ly_ld one3 rfl rfl rfl) (hd 34 rfl) ?_
      refine jo_l (ly_tt (ly_eq rfl rfl) rfl) (hd 35 rfl) ?_
      refine jo_l (ly_mv rfl) (hd 36 rfl) ?_
      refine jo_g 36 rfl rfl (ly_fa fld40_1 rfl rfl rfl) (hd 37 rfl) ?_
      refine jo_g 36 rfl rfl (ly_ld one9 rfl rfl rfl) (hd 38 rfl) ?_
      refine jo_g 36 rfl rfl (ly_ff (ly_eqS rfl rfl) hx2) (hd 39 rfl) ?_
      refine jo_l (ly_pick_t rfl rfl) (hd 40 rfl) ?_
      refine jo_nil ?_
      refine jc_litf rfl ?_
      refine jc_skip ?_
      refine jc_seq ?_
      refine jc_region ?_
      refine jo_l (ly_mv rfl) (hd 43 rfl) ?_
      refine jo_l (ly_mv rfl) (hd 44 rfl) ?_
      refine jo_l (ly_gt rfl rfl) (hd 45 rfl) ?_
      refine jo_nil ?_
      refine jc_if rfl (fun h21 => ?_) (fun h21 => ?_)
      · refine jc_region ?_
        refine jo_l (ly_mv rfl) (hd 46 rfl) ?_
        refine jo_l (ly_as rfl) (hd 8 rfl) ?_
        refine jo_nil ?_
        refine jc_region ?_
        refine jo_l (ly_add rfl rfl (wrap_i64 (by first | omega | (dsimp only; omega)) (by first | omega | (dsimp only; omega)))) (hd 47 rfl) ?_
        refine jo_l (ly_mv rfl) (hd 13 rfl) ?_
        refine jo_nil ?_
        refine ⟨(i + 1, a, b, d + 1, o, max m o), ?_, ?_, rfl, cov_n 71 rfl rfl ?_⟩
        · exact ⟨by omega, cs_2 hc2 ht (by rw [opn_0 hx1 hx2]; omega), okc_m (by omega)⟩
        · show l.length - (i + 1) < l.length - i
          omega
        · exact (.cons rfl (.cons (by show some (V.i .i64 _) = some (V.i .i64 _); dsimp only at *; congr 2; omega) (.cons rfl (.u (.u (.u (.u (.u (.u (.u (.u (.u (.u (.u (.u (.u (.u (.u (.u (.u (.u (.u (.u (.u (.u (.u (.u (.u (.u (.u (.u (.u (.u (.u (.u (.u (.u (.u .nil))))))))))))))))))))))))))))))))))))))
      · refine jc_skip ?_
        refine jc_region ?_
        refine jo_l (ly_add rfl rfl (wrap_i64 (by first | omega | (dsimp only; omega)) (by first | omega | (dsimp only; omega)))) (hd 47 rfl) ?_
        refine jo_l (ly_mv rfl) (hd 13 rfl) ?_
        refine jo_nil ?_
        refine ⟨(i + 1, a, b, d + 1, o, max m o), ?_, ?_, rfl, cov_n 69 rfl rfl ?_⟩
        · exact ⟨by omega, cs_2 hc2 ht (by rw [opn_0 hx1 hx2]; omega), okc_m (by omega)⟩
        · show l.length - (i + 1) < l.length - i
          omega
        · exact (.cons rfl (.cons (by show some (V.i .i64 _) = some (V.i .i64 _); dsimp only at *; congr 2; omega) (.cons rfl (.u (.u (.u (.u (.u (.u (.u (.u (.u (.u (.u (.u (.u (.u (.u (.u (.u (.u (.u (.u (.u (.u (.u (.u (.u (.u (.u (.u (.u (.u (.u (.u (.u (.u (.u .nil))))))))))))))))))))))))))))))))))))))
end Go.Proofs.Ytnpbpiommpgikaa.Vc
