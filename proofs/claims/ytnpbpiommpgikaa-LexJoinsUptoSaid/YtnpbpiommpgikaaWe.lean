/- The contracts of lex.Next, lex.Lex. -/
import Derived.Test.YtnpbpiommpgikaaWd
set_option linter.unusedVariables false
set_option linter.unusedSimpArgs false
namespace Go.Proofs.Ytnpbpiommpgikaa.Vc
open Go Go.RowKit
theorem Next_s (s : ByteArray) (q : Int) (hs : s.size < 4294967296) : Spec Try.prog 17 [.s s, .i .i64 q] (fun o => o = .ret (NextV s q)) := by
  refine spec_of' [(0, .s s), (1, .i .i64 q)] rfl Try.func17 rfl (Nat.le_of_ble_eq_true rfl) fun Γ hN hds hL hR => ?_
  have hd : ∀ d, Nat.blt d 34 = true → d < Γ.N := fun d h => by rw [hN]; exact Nat.le_of_ble_eq_true h
  refine jc_seq ?_
  refine jc_region ?_
  refine jo_h (hy_alloc (id := 0) zero30 (by decide) rfl (by decide) rfl) (hd 4 rfl) ?_
  refine jo_l (ly_as rfl) (hd 5 rfl) ?_
  refine jo_l (ly_as rfl) (hd 6 rfl) ?_
  refine jo_nil ?_
  refine jc_seq ?_
  refine jc_seq ?_
  refine jc_region ?_
  refine jo_l (ly_mv rfl) (hd 11 rfl) ?_
  refine jo_l (ly_lt rfl rfl) (hd 12 rfl) ?_
  refine jo_l (ly_mv rfl) (hd 13 rfl) ?_
  refine jo_ifp 13 rfl (fun h1 => ?_) (fun h1 => ?_)
  · refine jo_s 13 rfl rfl rfl (hd 14 rfl) ?_
    refine jo_s 13 rfl rfl rfl (hd 15 rfl) ?_
    refine jo_s 13 rfl rfl rfl (hd 16 rfl) ?_
    refine jo_s 13 rfl rfl rfl (hd 17 rfl) ?_
    refine jo_l (ly_pick_t rfl rfl) (hd 18 rfl) ?_
    refine jo_nil ?_
    refine jc_litt rfl ?_
    refine jc_seq ?_
    refine jc_region ?_
    refine jo_l (ly_build (is := []) (xs := []) (pls := []) zero30 pls30_ rfl ovL_nil rfl trivial (all_of rfl) rfl) (hd 19 rfl) ?_
    refine jo_st (sy_store rfl rfl rfl siz30 rfl rfl (Nat.le_of_ble_eq_true rfl)) ?_
    refine jo_l (ly_as rfl) (hd 5 rfl) ?_
    refine jo_l (ly_as rfl) (hd 6 rfl) ?_
    refine jo_nil ?_
    refine jc_ret ?_
    refine ⟨_, _, (.cons (ResV.cell agg30 rfl rfl rfl rfl) (.cons rfl (.cons rfl .nil))), (.t1 (.a1 .i (.a1 .s (.a1 .i .a0))) (.t1 .i (.t1 .i .t0))), ?_⟩
    unfold NextV
    rw [if_pos (by omega)]
    rfl
  · refine jo_g 13 rfl rfl (ly_mv rfl) (hd 14 rfl) ?_
    refine jo_g 13 rfl rfl (ly_mv rfl) (hd 15 rfl) ?_
    refine jo_g 13 rfl rfl (ly_lens und9 rfl) (hd 16 rfl) ?_
    refine jo_g 13 rfl rfl (ly_gt rfl rfl) (hd 17 rfl) ?_
    refine jo_l (ly_pick_f rfl rfl) (hd 18 rfl) ?_
    refine jo_nil ?_
    refine jc_if rfl (fun h3 => ?_) (fun h3 => ?_)
    · refine jc_seq ?_
      refine jc_region ?_
      refine jo_l (ly_build (is := []) (xs := []) (pls := []) zero30 pls30_ rfl ovL_nil rfl trivial (all_of rfl) rfl) (hd 19 rfl) ?_
      refine jo_st (sy_store rfl rfl rfl siz30 rfl rfl (Nat.le_of_ble_eq_true rfl)) ?_
      refine jo_l (ly_as rfl) (hd 5 rfl) ?_
      refine jo_l (ly_as rfl) (hd 6 rfl) ?_
      refine jo_nil ?_
      refine jc_ret ?_
      refine ⟨_, _, (.cons (ResV.cell agg30 rfl rfl rfl rfl) (.cons rfl (.cons rfl .nil))), (.t1 (.a1 .i (.a1 .s (.a1 .i .a0))) (.t1 .i (.t1 .i .t0))), ?_⟩
      unfold NextV
      rw [if_pos (by omega)]
      rfl
    · obtain ⟨p, rfl⟩ : ∃ p : Nat, q = (p : Int) := ⟨q.toNat, by omega⟩
      refine jc_skip ?_
      refine jc_seq ?_
      refine jc_region ?_
      refine jo_call Try.f29 (classes_s) rfl Try.func29 rfl rfl ovL_nil .nil (hd 20 rfl) ?_ (fun ch hp => by simp at hp)
      rintro y hy; injection hy with hy; subst hy
      refine jo_h (hy_alloc (id := 1) zero63 (by kernel_rfl) List.length_replicate (by decide) rfl) (hd 7 rfl) ?_
      refine jo_st (sy_store rfl rfl rfl siz63 tbl_len ints_one tbl_fit) ?_
      refine jo_nil ?_
      refine jc_seq ?_
      refine jc_tbl 7 rfl rfl hL ?_
      refine jc_region ?_
      refine jo_l (ly_mv rfl) (hd 22 rfl) ?_
      refine jo_l (ly_mv rfl) (hd 23 rfl) ?_
      refine jo_call Try.f30 (next_s s p (by omega) (by omega)) rfl Try.func30 rfl rfl (ovL_cons rfl (ovL_cons rfl (ovL_cons rfl ovL_nil))) (.cons .q (.cons .s (.cons .i .nil))) (hd 24 rfl) ?_ (fun ch hp => by simp at hp)
      rintro y hy; injection hy with hy; subst hy
      refine jo_l (ly_mv rfl) (hd 21 rfl) ?_
      refine jo_l (ly_ext rfl rfl) (hd 25 rfl) ?_
      refine jo_l (ly_ext rfl rfl) (hd 26 rfl) ?_
      refine jo_l (ly_ext rfl rfl) (hd 27 rfl) ?_
      refine jo_h (hy_alloc (id := 2) zero30 (by decide) rfl (by decide) rfl) (hd 8 rfl) ?_
      refine jo_st (sy_store rfl rfl rfl siz30 rfl rfl (Nat.le_of_ble_eq_true rfl)) ?_
      refine jo_l (ly_as rfl) (hd 9 rfl) ?_
      refine jo_l (ly_as rfl) (hd 10 rfl) ?_
      refine jo_nil ?_
      refine jc_seq ?_
      refine jc_seq ?_
      refine jc_region ?_
      refine jo_l (ly_mv rfl) (hd 28 rfl) ?_
      refine jo_l (ly_not rfl) (hd 29 rfl) ?_
      refine jo_nil ?_
      refine jc_cond rfl (fun h4 => ?_) (fun h4 => ?_)
      · rw [Bool.not_eq_true'] at h4
        refine jc_seq ?_
        refine jc_region ?_
        refine jo_l (ly_build (is := []) (xs := []) (pls := []) zero30 pls30_ rfl ovL_nil rfl trivial (all_of rfl) rfl) (hd 30 rfl) ?_
        refine jo_l (ly_mv rfl) (hd 31 rfl) ?_
        refine jo_st (sy_store rfl rfl rfl siz30 rfl rfl (Nat.le_of_ble_eq_true rfl)) ?_
        refine jo_l (ly_as rfl) (hd 5 rfl) ?_
        refine jo_l (ly_as rfl) (hd 6 rfl) ?_
        refine jo_nil ?_
        refine jc_ret ?_
        refine ⟨_, _, (.cons (ResV.cell agg30 rfl rfl rfl rfl) (.cons rfl (.cons rfl .nil))), (.t1 (.a1 .i (.a1 .s (.a1 .i .a0))) (.t1 .i (.t1 .i .t0))), ?_⟩
        unfold NextV
        rw [if_neg (by omega), if_neg (by rw [Int.toNat_natCast]; simp_all)]
        rfl
      · rw [Bool.not_eq_false'] at h4
        refine jc_skip ?_
        refine jc_seq ?_
        refine jc_region ?_
        refine jo_l (ly_lda agg30 rfl rfl rfl rfl) (hd 32 rfl) ?_
        refine jo_l (ly_mv rfl) (hd 33 rfl) ?_
        refine jo_st (sy_store rfl rfl rfl siz30 rfl rfl (Nat.le_of_ble_eq_true rfl)) ?_
        refine jo_l (ly_as rfl) (hd 5 rfl) ?_
        refine jo_l (ly_as rfl) (hd 6 rfl) ?_
        refine jo_nil ?_
        refine jc_ret ?_
        refine ⟨_, _, (.cons (ResV.cell agg30 rfl rfl rfl rfl) (.cons rfl (.cons rfl .nil))), (.t1 (.a1 .i (.a1 .s (.a1 .i .a0))) (.t1 .i (.t1 .i .t0))), ?_⟩
        unfold NextV
        rw [if_neg (by omega), if_pos (by rw [Int.toNat_natCast]; simp_all)]
        rfl

theorem Lex_s (s : ByteArray) (hs : s.size < 4294967296) : Spec Try.prog 14 [.s s] (fun o => o = .ret (LexV s)) := by
  refine spec_of' [(0, .s s)] rfl Try.func14 rfl (Nat.le_of_ble_eq_true rfl) fun Γ hN hds hL hR => ?_
  have hd : ∀ d, Nat.blt d 31 = true → d < Γ.N := fun d h => by rw [hN]; exact Nat.le_of_ble_eq_true h
  refine jc_seq ?_
  refine jc_region ?_
  refine jo_l (ly_as rfl) (hd 2 rfl) ?_
  refine jo_l (ly_as rfl) (hd 3 rfl) ?_
  refine jo_l (ly_as rfl) (hd 4 rfl) ?_
  refine jo_nil ?_
  refine jc_seq ?_
  refine jc_region ?_
  refine jo_call Try.f29 (classes_s) rfl Try.func29 rfl rfl ovL_nil .nil (hd 11 rfl) ?_ (fun ch hp => by simp at hp)
  rintro y hy; injection hy with hy; subst hy
  refine jo_h (hy_alloc (id := 0) zero63 (by kernel_rfl) List.length_replicate (by decide) rfl) (hd 5 rfl) ?_
  refine jo_st (sy_store rfl rfl rfl siz63 tbl_len ints_one tbl_fit) ?_
  refine jo_nil ?_
  refine jc_seq ?_
  refine jc_region ?_
  refine jo_l (ly_as rfl) (hd 6 rfl) ?_
  refine jo_nil ?_
  refine jc_seq ?_
  refine jc_tbl 5 rfl rfl hL ?_
  refine jc_own0 (id := 1) 6 30 3 rfl rfl ?_
  refine jc_region ?_
  refine jo_l (ly_as rfl) (hd 7 rfl) ?_
  refine jo_nil ?_
  refine jc_block ?_
  refine jc_keep (F' := [(0, _), (2, _), (3, _), (4, _), (5, _), (6, _), (7, _)]) (.cons rfl (.cons rfl (.cons rfl (.cons rfl (.cons rfl (.cons rfl (.cons rfl .nil))))))) ?_
  refine jc_loopD (G := List Tok × Nat) 2 (fun g => lexGo s 0 = (g.1 ++ (lexGo s g.2).1, (lexGo s g.2).2) ∧ g.2 ≤ s.size ∧ g.1.length ≤ g.2) (fun g => [(6, .o 1 g.1.length 0 g.1.length), (7, .i .i64 (g.2 : Int)), (2, .u), (3, .u), (4, .u), (8, .u), (9, .u), (10, .u), (12, .u), (13, .u), (14, .u), (15, .u), (16, .u), (17, .u), (18, .u), (19, .u), (20, .u), (21, .u), (22, .u), (23, .u), (24, .u), (25, .u), (26, .u), (27, .u), (28, .u), (29, .u), (30, .u)]) (fun g => [⟨63, 256, 0, false, []⟩, ⟨30, 3, g.1.length, true, (g.1.map tokRow).flatten⟩]) (fun g => s.size - g.2) ([], 0) ?_ ?_ rfl hR rfl (fun _ _ => rfl) (fun g _ => .dead rfl (.cons (tok_id 2 g.1) .nil)) ?_
  · exact ⟨rfl, Nat.zero_le _, Nat.zero_le _⟩
  · exact (.cons rfl (.cons rfl (.u (.u (.u (.u (.u (.u (.u (.u (.u (.u (.u (.u (.u (.u (.u (.u (.u (.u (.u (.u (.u (.u (.u (.u (.u .nil)))))))))))))))))))))))))))
  · rintro ⟨acc, p⟩ ⟨hc1, hc2, hc3⟩
    dsimp only at hc1 hc2 hc3
    refine jc_block ?_
    refine jc_seq ?_
    refine jc_region ?_
    refine jo_l (ly_mv rfl) (hd 13 rfl) ?_
    refine jo_l (ly_mv rfl) (hd 14 rfl) ?_
    refine jo_call Try.f30 (next_s s p hc2 (by omega)) rfl Try.func30 rfl rfl (ovL_cons rfl (ovL_cons rfl (ovL_cons rfl ovL_nil))) (.cons .q (.cons .s (.cons .i .nil))) (hd 15 rfl) ?_ (fun ch hp => by simp at hp)
    rintro y hy; injection hy with hy; subst hy
    refine jo_l (ly_mv rfl) (hd 12 rfl) ?_
    refine jo_l (ly_ext rfl rfl) (hd 16 rfl) ?_
    refine jo_l (ly_ext rfl rfl) (hd 17 rfl) ?_
    refine jo_l (ly_ext rfl rfl) (hd 18 rfl) ?_
    refine jo_h (hy_alloc (id := 2) zero30 (by decide) rfl (by decide) rfl) (hd 8 rfl) ?_
    refine jo_st (sy_store rfl rfl rfl siz30 rfl rfl (Nat.le_of_ble_eq_true rfl)) ?_
    refine jo_l (ly_as rfl) (hd 9 rfl) ?_
    refine jo_l (ly_as rfl) (hd 10 rfl) ?_
    refine jo_nil ?_
    refine jc_seq ?_
    refine jc_seq ?_
    refine jc_region ?_
    refine jo_l (ly_mv rfl) (hd 19 rfl) ?_
    refine jo_l (ly_not rfl) (hd 20 rfl) ?_
    refine jo_nil ?_
    refine jc_cond rfl (fun h1 => ?_) (fun h1 => ?_)
    · rw [Bool.not_eq_true'] at h1
      refine jc_seq ?_
      refine jc_region ?_
      refine jo_l (ly_mv rfl) (hd 21 rfl) ?_
      refine jo_l (ly_as rfl) (hd 2 rfl) ?_
      refine jo_l (ly_as rfl) (hd 3 rfl) ?_
      refine jo_l (ly_as rfl) (hd 4 rfl) ?_
      refine jo_nil ?_
      refine jc_ret ?_
      refine ⟨_, _, (.cons rfl (.cons rfl (.cons rfl .nil))), (.t1 (.nill (fr := true) (sz := 3)) (.t1 .i (.t1 .i .t0))), ?_⟩
      unfold LexV
      rw [hc1, lexGo_bad (by simp_all)]
      rfl
    · rw [Bool.not_eq_false'] at h1
      refine jc_skip ?_
      refine jc_seq ?_
      refine jc_seq ?_
      refine jc_region ?_
      refine jo_l (ly_fa fld30_0 rfl rfl rfl) (hd 22 rfl) ?_
      refine jo_l (ly_ld one28 rfl rfl rfl) (hd 23 rfl) ?_
      refine jo_l (ly_eq rfl rfl) (hd 24 rfl) ?_
      refine jo_nil ?_
      refine jc_if rfl (fun h2 => ?_) (fun h2 => ?_)
      · refine jc_seq ?_
        refine jc_region ?_
        refine jo_l (ly_mv rfl) (hd 25 rfl) ?_
        refine jo_l (ly_as rfl) (hd 2 rfl) ?_
        refine jo_l (ly_as rfl) (hd 3 rfl) ?_
        refine jo_l (ly_as rfl) (hd 4 rfl) ?_
        refine jo_nil ?_
        refine jc_ret ?_
        refine ⟨_, _, (.cons rfl (.cons rfl (.cons rfl .nil))), (.t1 (.ol rfl rfl (by simp) (tok_len _) (tok_pure _) (by decide)) (.t1 .i (.t1 .i .t0))), ?_⟩
        unfold LexV
        rw [hc1, lexGo_end (by simp_all) (by omega)]
        simp only [List.append_nil]
        rfl
      · refine jc_skip ?_
        refine jc_region ?_
        refine jo_l (ly_mv rfl) (hd 26 rfl) ?_
        refine jo_l (ly_lda agg30 rfl rfl rfl rfl) (hd 27 rfl) ?_
        refine jo_h (hy_lit (id := 3) (xs := [.tmp 27]) el25 rfl (ovL_cons rfl ovL_nil) rfl (all2_of rfl) (by decide) rfl) (hd 28 rfl) ?_
        refine jo_app el25 rfl rfl (tok_flat acc) rfl (src_o rfl rfl rfl) (by show (acc.length + 1) * 32 ≤ _; omega) (by show acc.length + 1 ≤ 9223372036854775807; omega) (hd 29 rfl) ?_
        refine jo_l (ly_mv rfl) (hd 30 rfl) ?_
        refine jo_l (ly_as rfl) (hd 6 rfl) ?_
        refine jo_l (ly_as rfl) (hd 7 rfl) ?_
        refine jo_nil ?_
        refine ⟨(acc ++ [((nx s p).1, (nx s p).2.1, (nx s p).2.2.1)], (nx s p).2.2.2.1), ?_, ?_, (by rw [tok_snoc, List.length_append]; rfl), cov_n 49 rfl rfl ?_⟩
        · have hlt := nx_lt s p hc2 (by simp_all) (by assumption)
          have hle := nx_le s p hc2
          refine ⟨?_, hle.2, by rw [List.length_append]; simp only [List.length_singleton]; omega⟩
          rw [hc1, lexGo_more hc2 (by simp_all) (by assumption)]
          simp
        · have hlt := nx_lt s p hc2 (by simp_all) (by assumption)
          have hle := nx_le s p hc2
          show s.size - (nx s p).2.2.2.1 < s.size - p
          omega
        · exact (.cons (by show some _ = some _; rw [List.length_append]; rfl) (.cons rfl (.u (.u (.u (.u (.u (.u (.u (.u (.u (.u (.u (.u (.u (.u (.u (.u (.u (.u (.u (.u (.u (.u (.u (.u (.u .nil)))))))))))))))))))))))))))
end Go.Proofs.Ytnpbpiommpgikaa.Vc
