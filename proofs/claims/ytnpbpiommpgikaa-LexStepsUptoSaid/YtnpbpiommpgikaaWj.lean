/- The contract of surdlaw14.LexSteps. -/
import Derived.Test.YtnpbpiommpgikaaWi
set_option linter.unusedVariables false
set_option linter.unusedSimpArgs false
namespace Go.Proofs.Ytnpbpiommpgikaa.Vc
open Go Go.RowKit
theorem LexSteps_ok {s : ByteArray} {l : List Tok} (hs : s.size < 4294967296) (h : lexGo s 0 = (l, none)) : Spec Try.prog 7 [.s s] (fun o => o = .ret (.b true)) := by
  refine spec_of' [(0, .s s)] rfl Try.func7 rfl (Nat.le_of_ble_eq_true rfl) fun Γ hN hds hL hR => ?_
  have hd : ∀ d, Nat.blt d 106 = true → d < Γ.N := fun d h => by rw [hN]; exact Nat.le_of_ble_eq_true h
  refine jc_seq ?_
  refine jc_region ?_
  refine jo_l (ly_as rfl) (hd 2 rfl) ?_
  refine jo_nil ?_
  refine jc_seq ?_
  refine jc_region ?_
  refine jo_l (ly_mv rfl) (hd 12 rfl) ?_
  refine jo_call Try.f14 (Lex_ok hs h) rfl Try.func14 rfl rfl (ovL_cons rfl ovL_nil) (.cons .s .nil) (hd 13 rfl) ?_ (fun ch hp => by simp at hp)
  rintro y hy; injection hy with hy; subst hy
  refine jo_l (ly_mv rfl) (hd 11 rfl) ?_
  refine jo_l (ly_ext rfl rfl) (hd 14 rfl) ?_
  refine jo_l (ly_ext rfl rfl) (hd 15 rfl) ?_
  refine jo_l (ly_ext rfl rfl) (hd 16 rfl) ?_
  refine jo_l (ly_as rfl) (hd 3 rfl) ?_
  refine jo_l (ly_as rfl) (hd 4 rfl) ?_
  refine jo_l (ly_as rfl) (hd 5 rfl) ?_
  refine jo_nil ?_
  refine jc_seq ?_
  refine jc_region ?_
  refine jo_l (ly_as rfl) (hd 6 rfl) ?_
  refine jo_nil ?_
  refine jc_seq ?_
  refine jc_seq ?_
  refine jc_region ?_
  refine jo_l (ly_as rfl) (hd 7 rfl) ?_
  refine jo_nil ?_
  refine jc_block ?_
  refine jc_loopD (G := Nat × Nat) 0 (fun g => lexGo s g.2 = (l.drop g.1, none) ∧ g.2 ≤ s.size ∧ g.1 ≤ g.2 ∧ g.1 ≤ l.length) (fun g => [(6, .i .i64 (g.2 : Int)), (7, .i .i64 (g.1 : Int)), (2, .u), (8, .u), (9, .u), (10, .u), (17, .u), (18, .u), (19, .u), (20, .u), (21, .u), (22, .u), (23, .u), (24, .u), (25, .u), (26, .u), (27, .u), (28, .u), (29, .u), (30, .u), (31, .u), (32, .u), (33, .u), (34, .u), (35, .u), (36, .u), (37, .u), (38, .u), (39, .u), (40, .u), (41, .u), (42, .u), (43, .u), (44, .u), (45, .u), (46, .u), (47, .u), (48, .u), (49, .u), (50, .u), (51, .u), (52, .u), (53, .u), (54, .u), (55, .u), (56, .u), (57, .u), (58, .u), (59, .u), (60, .u), (61, .u), (62, .u), (63, .u), (64, .u), (65, .u), (66, .u), (67, .u), (68, .u), (69, .u), (70, .u), (71, .u), (72, .u), (73, .u), (74, .u), (75, .u), (76, .u), (77, .u), (78, .u), (79, .u), (80, .u), (81, .u), (82, .u), (83, .u), (84, .u), (85, .u), (86, .u), (87, .u), (88, .u), (89, .u), (90, .u), (91, .u), (92, .u), (93, .u), (94, .u), (95, .u), (96, .u), (97, .u), (98, .u), (99, .u), (100, .u), (101, .u), (102, .u), (103, .u), (104, .u), (105, .u)]) (fun g => []) (fun g => s.size - g.2) (0, 0) ?_ ?_ rfl hR rfl (fun _ _ => rfl) (fun _ _ => .nil) ?_
  · exact ⟨h, Nat.zero_le _, Nat.zero_le _, Nat.zero_le _⟩
  · exact (.cons rfl (.cons rfl (.u (.u (.u (.u (.u (.u (.u (.u (.u (.u (.u (.u (.u (.u (.u (.u (.u (.u (.u (.u (.u (.u (.u (.u (.u (.u (.u (.u (.u (.u (.u (.u (.u (.u (.u (.u (.u (.u (.u (.u (.u (.u (.u (.u (.u (.u (.u (.u (.u (.u (.u (.u (.u (.u (.u (.u (.u (.u (.u (.u (.u (.u (.u (.u (.u (.u (.u (.u (.u (.u (.u (.u (.u (.u (.u (.u (.u (.u (.u (.u (.u (.u (.u (.u (.u (.u (.u (.u (.u (.u (.u (.u (.u .nil)))))))))))))))))))))))))))))))))))))))))))))))))))))))))))))))))))))))))))))))))))))))))))))))
  · rintro ⟨i, p⟩ ⟨hc1, hc2, hc3, hc4⟩
    dsimp only at hc1 hc2 hc3 hc4
    rcases step_cases hc2 hc1 with ⟨e, hx, hr, hd0⟩ | ⟨t, pl, e, hx, hr, hd0⟩ | ⟨k, t, pl, e, hx, hk, hl, hlt, hle, hg⟩
    · cases hr
    · have r1 : Spec Try.prog 17 [.s s, .i .i64 (p : Int)] (fun o => o = .ret (.t [.a [.i .i64 3, .s t, .i .i64 (pl : Int)], .i .i64 (e : Int), .i .i64 0])) := by
        have h1 := Next_s s p hs
        rw [NextV_ok hc2 hx] at h1
        exact h1
      refine jc_seq ?_
      refine jc_seq ?_
      refine jc_region ?_
      refine jo_l (ly_mv rfl) (hd 17 rfl) ?_
      refine jo_l (ly_mv rfl) (hd 18 rfl) ?_
      refine jo_l (ly_lens und9 rfl) (hd 19 rfl) ?_
      refine jo_l (ly_tt (ly_le rfl rfl) (by omega)) (hd 20 rfl) ?_
      refine jo_nil ?_
      refine jc_litt rfl ?_
      refine jc_skip ?_
      refine jc_seq ?_
      refine jc_block ?_
      refine jc_seq ?_
      refine jc_region ?_
      refine jo_l (ly_mv rfl) (hd 24 rfl) ?_
      refine jo_l (ly_mv rfl) (hd 25 rfl) ?_
      refine jo_call Try.f17 (r1) rfl Try.func17 rfl rfl (ovL_cons rfl (ovL_cons rfl ovL_nil)) (.cons .s (.cons .i .nil)) (hd 26 rfl) ?_ (fun ch hp => by simp at hp)
      rintro y hy; injection hy with hy; subst hy
      refine jo_l (ly_mv rfl) (hd 23 rfl) ?_
      refine jo_l (ly_ext rfl rfl) (hd 27 rfl) ?_
      refine jo_l (ly_ext rfl rfl) (hd 28 rfl) ?_
      refine jo_l (ly_ext rfl rfl) (hd 29 rfl) ?_
      refine jo_h (hy_alloc (id := 0) zero30 (by decide) rfl (by decide) rfl) (hd 8 rfl) ?_
      refine jo_st (sy_store rfl rfl rfl siz30 rfl rfl (by decide)) ?_
      refine jo_l (ly_as rfl) (hd 9 rfl) ?_
      refine jo_l (ly_as rfl) (hd 10 rfl) ?_
      refine jo_nil ?_
      refine jc_seq ?_
      refine jc_seq ?_
      refine jc_region ?_
      refine jo_l (ly_mv rfl) (hd 30 rfl) ?_
      refine jo_call Try.f12 (num_s _) rfl Try.func12 rfl rfl (ovL_cons rfl ovL_nil) (.cons .i .nil) (hd 31 rfl) ?_ (fun ch hp => by simp at hp)
      rintro y hy; injection hy with hy; subst hy
      refine jo_l (ly_ff (ly_ne rfl rfl) (by decide)) (hd 32 rfl) ?_
      refine jo_nil ?_
      refine jc_litf rfl ?_
      refine jc_skip ?_
      refine jc_seq ?_
      refine jc_seq ?_
      refine jc_region ?_
      refine jo_l (ly_fa fld30_0 rfl rfl rfl) (hd 46 rfl) ?_
      refine jo_l (ly_ld one28 rfl rfl rfl) (hd 47 rfl) ?_
      refine jo_l (ly_tt (ly_eq rfl rfl) rfl) (hd 48 rfl) ?_
      refine jo_nil ?_
      refine jc_litt rfl ?_
      refine jc_seq ?_
      refine jc_region ?_
      refine jo_l (ly_mv rfl) (hd 49 rfl) ?_
      refine jo_call Try.f12 (num_s _) rfl Try.func12 rfl rfl (ovL_cons rfl ovL_nil) (.cons .i .nil) (hd 50 rfl) ?_ (fun ch hp => by simp at hp)
      rintro y hy; injection hy with hy; subst hy
      refine jo_l (ly_tt (ly_eq rfl rfl) rfl) (hd 51 rfl) ?_
      refine jo_l (ly_mv rfl) (hd 52 rfl) ?_
      refine jo_g 52 rfl rfl (ly_mv rfl) (hd 53 rfl) ?_
      refine jo_g 52 rfl rfl (ly_mv rfl) (hd 54 rfl) ?_
      refine jo_g 52 rfl rfl (ly_lenl sl25 rfl) (hd 55 rfl) ?_
      refine jo_g 52 rfl rfl (ly_tt (ly_eq rfl rfl) (by have e1 := List.drop_eq_nil_iff.1 hd0; rw [List.length_map]; omega)) (hd 56 rfl) ?_
      refine jo_l (ly_pick_t rfl rfl) (hd 57 rfl) ?_
      refine jo_l (ly_mv rfl) (hd 58 rfl) ?_
      refine jo_callg Try.f13 58 rfl rfl (awake_s) rfl Try.func13 rfl rfl ovL_nil .nil (hd 59 rfl) ?_ (fun ch hp => by simp at hp)
      rintro y hy; injection hy with hy; subst hy
      refine jo_l (ly_pick_t rfl rfl) (hd 60 rfl) ?_
      refine jo_l (ly_as rfl) (hd 2 rfl) ?_
      refine jo_nil ?_
      refine jc_ret ?_
      refine ⟨_, _, (.cons rfl .nil), .b, ?_⟩
      exact rfl
    · have r1 : Spec Try.prog 17 [.s s, .i .i64 (p : Int)] (fun o => o = .ret (.t [.a [.i .i64 k, .s t, .i .i64 (pl : Int)], .i .i64 (e : Int), .i .i64 0])) := by
        have h1 := Next_s s p hs
        rw [NextV_ok hc2 hx] at h1
        exact h1
      have hil := (List.getElem?_eq_some_iff.1 hl).1
      refine jc_seq ?_
      refine jc_seq ?_
      refine jc_region ?_
      refine jo_l (ly_mv rfl) (hd 17 rfl) ?_
      refine jo_l (ly_mv rfl) (hd 18 rfl) ?_
      refine jo_l (ly_lens und9 rfl) (hd 19 rfl) ?_
      refine jo_l (ly_tt (ly_le rfl rfl) (by omega)) (hd 20 rfl) ?_
      refine jo_nil ?_
      refine jc_litt rfl ?_
      refine jc_skip ?_
      refine jc_seq ?_
      refine jc_block ?_
      refine jc_seq ?_
      refine jc_region ?_
      refine jo_l (ly_mv rfl) (hd 24 rfl) ?_
      refine jo_l (ly_mv rfl) (hd 25 rfl) ?_
      refine jo_call Try.f17 (r1) rfl Try.func17 rfl rfl (ovL_cons rfl (ovL_cons rfl ovL_nil)) (.cons .s (.cons .i .nil)) (hd 26 rfl) ?_ (fun ch hp => by simp at hp)
      rintro y hy; injection hy with hy; subst hy
      refine jo_l (ly_mv rfl) (hd 23 rfl) ?_
      refine jo_l (ly_ext rfl rfl) (hd 27 rfl) ?_
      refine jo_l (ly_ext rfl rfl) (hd 28 rfl) ?_
      refine jo_l (ly_ext rfl rfl) (hd 29 rfl) ?_
      refine jo_h (hy_alloc (id := 0) zero30 (by decide) rfl (by decide) rfl) (hd 8 rfl) ?_
      refine jo_st (sy_store rfl rfl rfl siz30 rfl rfl (by decide)) ?_
      refine jo_l (ly_as rfl) (hd 9 rfl) ?_
      refine jo_l (ly_as rfl) (hd 10 rfl) ?_
      refine jo_nil ?_
      refine jc_seq ?_
      refine jc_seq ?_
      refine jc_region ?_
      refine jo_l (ly_mv rfl) (hd 30 rfl) ?_
      refine jo_call Try.f12 (num_s _) rfl Try.func12 rfl rfl (ovL_cons rfl ovL_nil) (.cons .i .nil) (hd 31 rfl) ?_ (fun ch hp => by simp at hp)
      rintro y hy; injection hy with hy; subst hy
      refine jo_l (ly_ff (ly_ne rfl rfl) (by decide)) (hd 32 rfl) ?_
      refine jo_nil ?_
      refine jc_litf rfl ?_
      refine jc_skip ?_
      refine jc_seq ?_
      refine jc_seq ?_
      refine jc_region ?_
      refine jo_l (ly_fa fld30_0 rfl rfl rfl) (hd 46 rfl) ?_
      refine jo_l (ly_ld one28 rfl rfl rfl) (hd 47 rfl) ?_
      refine jo_l (ly_ff (ly_eq rfl rfl) hk) (hd 48 rfl) ?_
      refine jo_nil ?_
      refine jc_litf rfl ?_
      refine jc_skip ?_
      refine jc_seq ?_
      refine jc_seq ?_
      refine jc_draw (n := 44) _ rfl mixed ?_
      refine ja_l 0 (lo_l (ly_mv rfl) (hd 61 rfl)) rfl (by kernel_rfl) (by kernel_rfl) (by kernel_rfl) (fun _ _ _ _ h => h) ?_
      refine ja_1 1 ?_ rfl (by kernel_rfl)
      refine js_call Try.f12 (num_s _) rfl Try.func12 rfl rfl (ovL_cons rfl ovL_nil) (.cons .i .nil) (hd 62 rfl) ?_ (fun ch hp => by simp at hp)
      rintro y hy; injection hy with hy; subst hy
      refine ja_l 2 (lo_l (ly_tt (ly_eq rfl rfl) rfl) (hd 63 rfl)) rfl (by kernel_rfl) (by kernel_rfl) (by kernel_rfl) (fun _ _ _ _ h => h) ?_
      refine ja_l 3 (lo_l (ly_mv rfl) (hd 64 rfl)) rfl (by kernel_rfl) (by kernel_rfl) (by kernel_rfl) (fun _ _ _ _ h => h) ?_
      refine ja_l 4 (lo_g 64 rfl rfl (ly_mv rfl) (hd 65 rfl)) rfl (by kernel_rfl) (by kernel_rfl) (by kernel_rfl) (fun _ _ _ _ h => h) ?_
      refine ja_l 5 (lo_g 64 rfl rfl (ly_mv rfl) (hd 66 rfl)) rfl (by kernel_rfl) (by kernel_rfl) (by kernel_rfl) (fun _ _ _ _ h => h) ?_
      refine ja_l 6 (lo_g 64 rfl rfl (ly_lenl sl25 rfl) (hd 67 rfl)) rfl (by kernel_rfl) (by kernel_rfl) (by kernel_rfl) (fun _ _ _ _ h => h) ?_
      refine ja_l 7 (lo_g 64 rfl rfl (ly_ff (ly_ge rfl rfl) (by rw [List.length_map]; omega)) (hd 68 rfl)) rfl (by kernel_rfl) (by kernel_rfl) (by kernel_rfl) (fun _ _ _ _ h => h) ?_
      refine ja_l 8 (lo_g 64 rfl rfl (ly_mv rfl) (hd 69 rfl)) rfl (by kernel_rfl) (by kernel_rfl) (by kernel_rfl) (fun _ _ _ _ h => h) ?_
      refine ja_l 9 (lo_g 69 rfl rfl (ly_mv rfl) (hd 70 rfl)) rfl (by kernel_rfl) (by kernel_rfl) (by kernel_rfl) (fun _ _ _ _ h => h) ?_
      refine ja_l 10 (lo_g 69 rfl rfl (ly_mv rfl) (hd 71 rfl)) rfl (by kernel_rfl) (by kernel_rfl) (by kernel_rfl) (fun _ _ _ _ h => h) ?_
      refine ja_l 11 (lo_g 69 rfl rfl (ly_ial (i := i) (row := tokRow (k, t, pl)) sl25 rfl rfl rfl (by rw [List.getElem?_map, hl]; rfl)) (hd 72 rfl)) rfl (by kernel_rfl) (by kernel_rfl) (by kernel_rfl) (fun _ _ _ _ h => h) ?_
      refine ja_l 12 (lo_g 69 rfl rfl (ly_faq fld30_0 rfl rfl) (hd 73 rfl)) rfl (by kernel_rfl) (by kernel_rfl) (by kernel_rfl) (fun _ _ _ _ h => h) ?_
      refine ja_l 13 (lo_g 69 rfl rfl (ly_ldq one28 rfl rfl) (hd 74 rfl)) rfl (by kernel_rfl) (by kernel_rfl) (by kernel_rfl) (fun _ _ _ _ h => h) ?_
      refine ja_l 14 (lo_g 69 rfl rfl (ly_fa fld30_0 rfl rfl rfl) (hd 75 rfl)) rfl (by kernel_rfl) (by kernel_rfl) (by kernel_rfl) (fun _ _ _ _ h => h) ?_
      refine ja_l 15 (lo_g 69 rfl rfl (ly_ld one28 rfl rfl rfl) (hd 76 rfl)) rfl (by kernel_rfl) (by kernel_rfl) (by kernel_rfl) (fun _ _ _ _ h => h) ?_
      refine ja_l 16 (lo_g 69 rfl rfl (ly_ff (ly_ne rfl rfl) (by simp)) (hd 77 rfl)) rfl (by kernel_rfl) (by kernel_rfl) (by kernel_rfl) (fun _ _ _ _ h => h) ?_
      refine ja_l 17 (lo_g 64 rfl rfl (ly_pick_f rfl rfl) (hd 78 rfl)) rfl (by kernel_rfl) (by kernel_rfl) (by kernel_rfl) (fun _ _ _ _ h => h) ?_
      refine ja_l 18 (lo_g 64 rfl rfl (ly_mv rfl) (hd 79 rfl)) rfl (by kernel_rfl) (by kernel_rfl) (by kernel_rfl) (fun _ _ _ _ h => h) ?_
      refine ja_l 19 (lo_g 79 rfl rfl (ly_mv rfl) (hd 80 rfl)) rfl (by kernel_rfl) (by kernel_rfl) (by kernel_rfl) (fun _ _ _ _ h => h) ?_
      refine ja_l 20 (lo_g 79 rfl rfl (ly_mv rfl) (hd 81 rfl)) rfl (by kernel_rfl) (by kernel_rfl) (by kernel_rfl) (fun _ _ _ _ h => h) ?_
      refine ja_l 21 (lo_g 79 rfl rfl (ly_ial (i := i) (row := tokRow (k, t, pl)) sl25 rfl rfl rfl (by rw [List.getElem?_map, hl]; rfl)) (hd 82 rfl)) rfl (by kernel_rfl) (by kernel_rfl) (by kernel_rfl) (fun _ _ _ _ h => h) ?_
      refine ja_l 22 (lo_g 79 rfl rfl (ly_faq fld30_1 rfl rfl) (hd 83 rfl)) rfl (by kernel_rfl) (by kernel_rfl) (by kernel_rfl) (fun _ _ _ _ h => h) ?_
      refine ja_l 23 (lo_g 79 rfl rfl (ly_ldq one9 rfl rfl) (hd 84 rfl)) rfl (by kernel_rfl) (by kernel_rfl) (by kernel_rfl) (fun _ _ _ _ h => h) ?_
      refine ja_l 24 (lo_g 79 rfl rfl (ly_fa fld30_1 rfl rfl rfl) (hd 85 rfl)) rfl (by kernel_rfl) (by kernel_rfl) (by kernel_rfl) (fun _ _ _ _ h => h) ?_
      refine ja_l 25 (lo_g 79 rfl rfl (ly_ld one9 rfl rfl rfl) (hd 86 rfl)) rfl (by kernel_rfl) (by kernel_rfl) (by kernel_rfl) (fun _ _ _ _ h => h) ?_
      refine ja_l 26 (lo_g 79 rfl rfl (ly_ff (ly_neS rfl rfl) (by simp)) (hd 87 rfl)) rfl (by kernel_rfl) (by kernel_rfl) (by kernel_rfl) (fun _ _ _ _ h => h) ?_
      refine ja_l 27 (lo_g 64 rfl rfl (ly_pick_f rfl rfl) (hd 88 rfl)) rfl (by kernel_rfl) (by kernel_rfl) (by kernel_rfl) (fun _ _ _ _ h => h) ?_
      refine ja_l 28 (lo_g 64 rfl rfl (ly_mv rfl) (hd 89 rfl)) rfl (by kernel_rfl) (by kernel_rfl) (by kernel_rfl) (fun _ _ _ _ h => h) ?_
      refine ja_l 29 (lo_g 89 rfl rfl (ly_mv rfl) (hd 90 rfl)) rfl (by kernel_rfl) (by kernel_rfl) (by kernel_rfl) (fun _ _ _ _ h => h) ?_
      refine ja_l 30 (lo_g 89 rfl rfl (ly_mv rfl) (hd 91 rfl)) rfl (by kernel_rfl) (by kernel_rfl) (by kernel_rfl) (fun _ _ _ _ h => h) ?_
      refine ja_l 31 (lo_g 89 rfl rfl (ly_ial (i := i) (row := tokRow (k, t, pl)) sl25 rfl rfl rfl (by rw [List.getElem?_map, hl]; rfl)) (hd 92 rfl)) rfl (by kernel_rfl) (by kernel_rfl) (by kernel_rfl) (fun _ _ _ _ h => h) ?_
      refine ja_l 32 (lo_g 89 rfl rfl (ly_faq fld30_2 rfl rfl) (hd 93 rfl)) rfl (by kernel_rfl) (by kernel_rfl) (by kernel_rfl) (fun _ _ _ _ h => h) ?_
      refine ja_l 33 (lo_g 89 rfl rfl (ly_ldq one3 rfl rfl) (hd 94 rfl)) rfl (by kernel_rfl) (by kernel_rfl) (by kernel_rfl) (fun _ _ _ _ h => h) ?_
      refine ja_l 34 (lo_g 89 rfl rfl (ly_fa fld30_2 rfl rfl rfl) (hd 95 rfl)) rfl (by kernel_rfl) (by kernel_rfl) (by kernel_rfl) (fun _ _ _ _ h => h) ?_
      refine ja_l 35 (lo_g 89 rfl rfl (ly_ld one3 rfl rfl rfl) (hd 96 rfl)) rfl (by kernel_rfl) (by kernel_rfl) (by kernel_rfl) (fun _ _ _ _ h => h) ?_
      refine ja_l 36 (lo_g 89 rfl rfl (ly_ff (ly_ne rfl rfl) (by simp)) (hd 97 rfl)) rfl (by kernel_rfl) (by kernel_rfl) (by kernel_rfl) (fun _ _ _ _ h => h) ?_
      refine ja_l 37 (lo_g 64 rfl rfl (ly_pick_f rfl rfl) (hd 98 rfl)) rfl (by kernel_rfl) (by kernel_rfl) (by kernel_rfl) (fun _ _ _ _ h => h) ?_
      refine ja_l 38 (lo_l (ly_pick_t rfl rfl) (hd 99 rfl)) rfl (by kernel_rfl) (by kernel_rfl) (by kernel_rfl) (fun _ _ _ _ h => h) ?_
      refine ja_l 39 (lo_l (ly_mv rfl) (hd 100 rfl)) rfl (by kernel_rfl) (by kernel_rfl) (by kernel_rfl) (fun _ _ _ _ h => h) ?_
      refine ja_l 40 (lo_g 100 rfl rfl (ly_mv rfl) (hd 101 rfl)) rfl (by kernel_rfl) (by kernel_rfl) (by kernel_rfl) (fun _ _ _ _ h => h) ?_
      refine ja_l 41 (lo_g 100 rfl rfl (ly_mv rfl) (hd 102 rfl)) rfl (by kernel_rfl) (by kernel_rfl) (by kernel_rfl) (fun _ _ _ _ h => h) ?_
      refine ja_l 42 (lo_g 100 rfl rfl (ly_ff (ly_le rfl rfl) (by omega)) (hd 103 rfl)) rfl (by kernel_rfl) (by kernel_rfl) (by kernel_rfl) (fun _ _ _ _ h => h) ?_
      refine ja_l 43 (lo_l (ly_pick_f rfl rfl) (hd 104 rfl)) rfl (by kernel_rfl) (by kernel_rfl) (by kernel_rfl) (fun _ _ _ _ h => h) ?_
      refine ja_nil (by kernel_rfl) ?_
      refine jc_litf rfl ?_
      refine jc_skip ?_
      refine jc_region ?_
      refine jo_l (ly_mv rfl) (hd 105 rfl) ?_
      refine jo_l (ly_as rfl) (hd 6 rfl) ?_
      refine jo_nil ?_
      refine jc_region ?_
      refine jo_l (ly_mv rfl) (hd 21 rfl) ?_
      refine jo_l (ly_add rfl rfl (wrap_i64 (by omega) (by omega))) (hd 22 rfl) ?_
      refine jo_l (ly_as rfl) (hd 7 rfl) ?_
      refine jo_nil ?_
      refine ⟨(i + 1, e), ?_, ?_, rfl, cov_n 164 (by kernel_rfl) (by kernel_rfl) ?_⟩
      · exact ⟨hg, hle, by omega, by omega⟩
      · show s.size - e < s.size - p
        omega
      · exact (.cons rfl (.cons rfl (.u (.u (.u (.u (.u (.u (.u (.u (.u (.u (.u (.u (.u (.u (.u (.u (.u (.u (.u (.u (.u (.u (.u (.u (.u (.u (.u (.u (.u (.u (.u (.u (.u (.u (.u (.u (.u (.u (.u (.u (.u (.u (.u (.u (.u (.u (.u (.u (.u (.u (.u (.u (.u (.u (.u (.u (.u (.u (.u (.u (.u (.u (.u (.u (.u (.u (.u (.u (.u (.u (.u (.u (.u (.u (.u (.u (.u (.u (.u (.u (.u (.u (.u (.u (.u (.u (.u (.u (.u (.u (.u (.u (.u .nil)))))))))))))))))))))))))))))))))))))))))))))))))))))))))))))))))))))))))))))))))))))))))))))))

theorem LexSteps_bad {s : ByteArray} {l : List Tok} {q : Nat} (hs : s.size < 4294967296) (h : lexGo s 0 = (l, some q)) : Spec Try.prog 7 [.s s] (fun o => o = .ret (.b true)) := by
  refine spec_of' [(0, .s s)] rfl Try.func7 rfl (Nat.le_of_ble_eq_true rfl) fun Γ hN hds hL hR => ?_
  have hd : ∀ d, Nat.blt d 106 = true → d < Γ.N := fun d h => by rw [hN]; exact Nat.le_of_ble_eq_true h
  refine jc_seq ?_
  refine jc_region ?_
  refine jo_l (ly_as rfl) (hd 2 rfl) ?_
  refine jo_nil ?_
  refine jc_seq ?_
  refine jc_region ?_
  refine jo_l (ly_mv rfl) (hd 12 rfl) ?_
  refine jo_call Try.f14 (Lex_bad hs h) rfl Try.func14 rfl rfl (ovL_cons rfl ovL_nil) (.cons .s .nil) (hd 13 rfl) ?_ (fun ch hp => by simp at hp)
  rintro y hy; injection hy with hy; subst hy
  refine jo_l (ly_mv rfl) (hd 11 rfl) ?_
  refine jo_l (ly_ext rfl rfl) (hd 14 rfl) ?_
  refine jo_l (ly_ext rfl rfl) (hd 15 rfl) ?_
  refine jo_l (ly_ext rfl rfl) (hd 16 rfl) ?_
  refine jo_l (ly_as rfl) (hd 3 rfl) ?_
  refine jo_l (ly_as rfl) (hd 4 rfl) ?_
  refine jo_l (ly_as rfl) (hd 5 rfl) ?_
  refine jo_nil ?_
  refine jc_seq ?_
  refine jc_region ?_
  refine jo_l (ly_as rfl) (hd 6 rfl) ?_
  refine jo_nil ?_
  refine jc_seq ?_
  refine jc_seq ?_
  refine jc_region ?_
  refine jo_l (ly_as rfl) (hd 7 rfl) ?_
  refine jo_nil ?_
  refine jc_block ?_
  refine jc_loopD (G := Nat × Nat) 0 (fun g => lexGo s g.2 = (l.drop g.1, some q) ∧ g.2 ≤ s.size ∧ g.1 ≤ g.2 ∧ g.1 ≤ l.length) (fun g => [(6, .i .i64 (g.2 : Int)), (7, .i .i64 (g.1 : Int)), (2, .u), (8, .u), (9, .u), (10, .u), (17, .u), (18, .u), (19, .u), (20, .u), (21, .u), (22, .u), (23, .u), (24, .u), (25, .u), (26, .u), (27, .u), (28, .u), (29, .u), (30, .u), (31, .u), (32, .u), (33, .u), (34, .u), (35, .u), (36, .u), (37, .u), (38, .u), (39, .u), (40, .u), (41, .u), (42, .u), (43, .u), (44, .u), (45, .u), (46, .u), (47, .u), (48, .u), (49, .u), (50, .u), (51, .u), (52, .u), (53, .u), (54, .u), (55, .u), (56, .u), (57, .u), (58, .u), (59, .u), (60, .u), (61, .u), (62, .u), (63, .u), (64, .u), (65, .u), (66, .u), (67, .u), (68, .u), (69, .u), (70, .u), (71, .u), (72, .u), (73, .u), (74, .u), (75, .u), (76, .u), (77, .u), (78, .u), (79, .u), (80, .u), (81, .u), (82, .u), (83, .u), (84, .u), (85, .u), (86, .u), (87, .u), (88, .u), (89, .u), (90, .u), (91, .u), (92, .u), (93, .u), (94, .u), (95, .u), (96, .u), (97, .u), (98, .u), (99, .u), (100, .u), (101, .u), (102, .u), (103, .u), (104, .u), (105, .u)]) (fun g => []) (fun g => s.size - g.2) (0, 0) ?_ ?_ rfl hR rfl (fun _ _ => rfl) (fun _ _ => .nil) ?_
  · exact ⟨h, Nat.zero_le _, Nat.zero_le _, Nat.zero_le _⟩
  · exact (.cons rfl (.cons rfl (.u (.u (.u (.u (.u (.u (.u (.u (.u (.u (.u (.u (.u (.u (.u (.u (.u (.u (.u (.u (.u (.u (.u (.u (.u (.u (.u (.u (.u (.u (.u (.u (.u (.u (.u (.u (.u (.u (.u (.u (.u (.u (.u (.u (.u (.u (.u (.u (.u (.u (.u (.u (.u (.u (.u (.u (.u (.u (.u (.u (.u (.u (.u (.u (.u (.u (.u (.u (.u (.u (.u (.u (.u (.u (.u (.u (.u (.u (.u (.u (.u (.u (.u (.u (.u (.u (.u (.u (.u (.u (.u (.u (.u .nil)))))))))))))))))))))))))))))))))))))))))))))))))))))))))))))))))))))))))))))))))))))))))))))))
  · rintro ⟨i, p⟩ ⟨hc1, hc2, hc3, hc4⟩
    dsimp only at hc1 hc2 hc3 hc4
    rcases step_cases hc2 hc1 with ⟨e, hx, hr, hd0⟩ | ⟨t, pl, e, hx, hr, hd0⟩ | ⟨k, t, pl, e, hx, hk, hl, hlt, hle, hg⟩
    · injection hr with hr
      subst hr
      have r1 : Spec Try.prog 17 [.s s, .i .i64 (p : Int)] (fun o => o = .ret (.t [tok0, .i .i64 (q : Int), .i .i64 140])) := by
        have h1 := Next_s s p hs
        rw [NextV_no hc2 hx] at h1
        exact h1
      refine jc_seq ?_
      refine jc_seq ?_
      refine jc_region ?_
      refine jo_l (ly_mv rfl) (hd 17 rfl) ?_
      refine jo_l (ly_mv rfl) (hd 18 rfl) ?_
      refine jo_l (ly_lens und9 rfl) (hd 19 rfl) ?_
      refine jo_l (ly_tt (ly_le rfl rfl) (by omega)) (hd 20 rfl) ?_
      refine jo_nil ?_
      refine jc_litt rfl ?_
      refine jc_skip ?_
      refine jc_seq ?_
      refine jc_block ?_
      refine jc_seq ?_
      refine jc_region ?_
      refine jo_l (ly_mv rfl) (hd 24 rfl) ?_
      refine jo_l (ly_mv rfl) (hd 25 rfl) ?_
      refine jo_call Try.f17 (r1) rfl Try.func17 rfl rfl (ovL_cons rfl (ovL_cons rfl ovL_nil)) (.cons .s (.cons .i .nil)) (hd 26 rfl) ?_ (fun ch hp => by simp at hp)
      rintro y hy; injection hy with hy; subst hy
      refine jo_l (ly_mv rfl) (hd 23 rfl) ?_
      refine jo_l (ly_ext rfl rfl) (hd 27 rfl) ?_
      refine jo_l (ly_ext rfl rfl) (hd 28 rfl) ?_
      refine jo_l (ly_ext rfl rfl) (hd 29 rfl) ?_
      refine jo_h (hy_alloc (id := 0) zero30 (by decide) rfl (by decide) rfl) (hd 8 rfl) ?_
      refine jo_st (sy_store rfl rfl rfl siz30 rfl rfl (by decide)) ?_
      refine jo_l (ly_as rfl) (hd 9 rfl) ?_
      refine jo_l (ly_as rfl) (hd 10 rfl) ?_
      refine jo_nil ?_
      refine jc_seq ?_
      refine jc_seq ?_
      refine jc_region ?_
      refine jo_l (ly_mv rfl) (hd 30 rfl) ?_
      refine jo_call Try.f12 (num_s _) rfl Try.func12 rfl rfl (ovL_cons rfl ovL_nil) (.cons .i .nil) (hd 31 rfl) ?_ (fun ch hp => by simp at hp)
      rintro y hy; injection hy with hy; subst hy
      refine jo_l (ly_tt (ly_ne rfl rfl) (by decide)) (hd 32 rfl) ?_
      refine jo_nil ?_
      refine jc_litt rfl ?_
      refine jc_seq ?_
      refine jc_region ?_
      refine jo_l (ly_mv rfl) (hd 33 rfl) ?_
      refine jo_call Try.f12 (num_s _) rfl Try.func12 rfl rfl (ovL_cons rfl ovL_nil) (.cons .i .nil) (hd 34 rfl) ?_ (fun ch hp => by simp at hp)
      rintro y hy; injection hy with hy; subst hy
      refine jo_l (ly_mv rfl) (hd 35 rfl) ?_
      refine jo_call Try.f12 (num_s _) rfl Try.func12 rfl rfl (ovL_cons rfl ovL_nil) (.cons .i .nil) (hd 36 rfl) ?_ (fun ch hp => by simp at hp)
      rintro y hy; injection hy with hy; subst hy
      refine jo_l (ly_tt (ly_eq rfl rfl) rfl) (hd 37 rfl) ?_
      refine jo_l (ly_mv rfl) (hd 38 rfl) ?_
      refine jo_g 38 rfl rfl (ly_mv rfl) (hd 39 rfl) ?_
      refine jo_g 38 rfl rfl (ly_mv rfl) (hd 40 rfl) ?_
      refine jo_g 38 rfl rfl (ly_tt (ly_eq rfl rfl) rfl) (hd 41 rfl) ?_
      refine jo_l (ly_pick_t rfl rfl) (hd 42 rfl) ?_
      refine jo_l (ly_mv rfl) (hd 43 rfl) ?_
      refine jo_callg Try.f13 43 rfl rfl (awake_s) rfl Try.func13 rfl rfl ovL_nil .nil (hd 44 rfl) ?_ (fun ch hp => by simp at hp)
      rintro y hy; injection hy with hy; subst hy
      refine jo_l (ly_pick_t rfl rfl) (hd 45 rfl) ?_
      refine jo_l (ly_as rfl) (hd 2 rfl) ?_
      refine jo_nil ?_
      refine jc_ret ?_
      refine ⟨_, _, (.cons rfl .nil), .b, ?_⟩
      exact rfl
    · cases hr
    · have r1 : Spec Try.prog 17 [.s s, .i .i64 (p : Int)] (fun o => o = .ret (.t [.a [.i .i64 k, .s t, .i .i64 (pl : Int)], .i .i64 (e : Int), .i .i64 0])) := by
        have h1 := Next_s s p hs
        rw [NextV_ok hc2 hx] at h1
        exact h1
      have hil := (List.getElem?_eq_some_iff.1 hl).1
      refine jc_seq ?_
      refine jc_seq ?_
      refine jc_region ?_
      refine jo_l (ly_mv rfl) (hd 17 rfl) ?_
      refine jo_l (ly_mv rfl) (hd 18 rfl) ?_
      refine jo_l (ly_lens und9 rfl) (hd 19 rfl) ?_
      refine jo_l (ly_tt (ly_le rfl rfl) (by omega)) (hd 20 rfl) ?_
      refine jo_nil ?_
      refine jc_litt rfl ?_
      refine jc_skip ?_
      refine jc_seq ?_
      refine jc_block ?_
      refine jc_seq ?_
      refine jc_region ?_
      refine jo_l (ly_mv rfl) (hd 24 rfl) ?_
      refine jo_l (ly_mv rfl) (hd 25 rfl) ?_
      refine jo_call Try.f17 (r1) rfl Try.func17 rfl rfl (ovL_cons rfl (ovL_cons rfl ovL_nil)) (.cons .s (.cons .i .nil)) (hd 26 rfl) ?_ (fun ch hp => by simp at hp)
      rintro y hy; injection hy with hy; subst hy
      refine jo_l (ly_mv rfl) (hd 23 rfl) ?_
      refine jo_l (ly_ext rfl rfl) (hd 27 rfl) ?_
      refine jo_l (ly_ext rfl rfl) (hd 28 rfl) ?_
      refine jo_l (ly_ext rfl rfl) (hd 29 rfl) ?_
      refine jo_h (hy_alloc (id := 0) zero30 (by decide) rfl (by decide) rfl) (hd 8 rfl) ?_
      refine jo_st (sy_store rfl rfl rfl siz30 rfl rfl (by decide)) ?_
      refine jo_l (ly_as rfl) (hd 9 rfl) ?_
      refine jo_l (ly_as rfl) (hd 10 rfl) ?_
      refine jo_nil ?_
      refine jc_seq ?_
      refine jc_seq ?_
      refine jc_region ?_
      refine jo_l (ly_mv rfl) (hd 30 rfl) ?_
      refine jo_call Try.f12 (num_s _) rfl Try.func12 rfl rfl (ovL_cons rfl ovL_nil) (.cons .i .nil) (hd 31 rfl) ?_ (fun ch hp => by simp at hp)
      rintro y hy; injection hy with hy; subst hy
      refine jo_l (ly_ff (ly_ne rfl rfl) (by decide)) (hd 32 rfl) ?_
      refine jo_nil ?_
      refine jc_litf rfl ?_
      refine jc_skip ?_
      refine jc_seq ?_
      refine jc_seq ?_
      refine jc_region ?_
      refine jo_l (ly_fa fld30_0 rfl rfl rfl) (hd 46 rfl) ?_
      refine jo_l (ly_ld one28 rfl rfl rfl) (hd 47 rfl) ?_
      refine jo_l (ly_ff (ly_eq rfl rfl) hk) (hd 48 rfl) ?_
      refine jo_nil ?_
      refine jc_litf rfl ?_
      refine jc_skip ?_
      refine jc_seq ?_
      refine jc_seq ?_
      refine jc_draw (n := 44) _ rfl mixed ?_
      refine ja_l 0 (lo_l (ly_mv rfl) (hd 61 rfl)) rfl (by kernel_rfl) (by kernel_rfl) (by kernel_rfl) (fun _ _ _ _ h => h) ?_
      refine ja_1 1 ?_ rfl (by kernel_rfl)
      refine js_call Try.f12 (num_s _) rfl Try.func12 rfl rfl (ovL_cons rfl ovL_nil) (.cons .i .nil) (hd 62 rfl) ?_ (fun ch hp => by simp at hp)
      rintro y hy; injection hy with hy; subst hy
      refine ja_l 2 (lo_l (ly_ff (ly_eq rfl rfl) (by decide)) (hd 63 rfl)) rfl (by kernel_rfl) (by kernel_rfl) (by kernel_rfl) (fun _ _ _ _ h => h) ?_
      refine ja_l 3 (lo_l (ly_mv rfl) (hd 64 rfl)) rfl (by kernel_rfl) (by kernel_rfl) (by kernel_rfl) (fun _ _ _ _ h => h) ?_
      refine ja_l 4 (lo_s 64 rfl rfl rfl (hd 65 rfl)) rfl (by kernel_rfl) (by kernel_rfl) (by kernel_rfl) (fun _ _ _ _ h => h) ?_
      refine ja_l 5 (lo_s 64 rfl rfl rfl (hd 66 rfl)) rfl (by kernel_rfl) (by kernel_rfl) (by kernel_rfl) (fun _ _ _ _ h => h) ?_
      refine ja_l 6 (lo_s 64 rfl rfl rfl (hd 67 rfl)) rfl (by kernel_rfl) (by kernel_rfl) (by kernel_rfl) (fun _ _ _ _ h => h) ?_
      refine ja_l 7 (lo_s 64 rfl rfl rfl (hd 68 rfl)) rfl (by kernel_rfl) (by kernel_rfl) (by kernel_rfl) (fun _ _ _ _ h => h) ?_
      refine ja_l 8 (lo_s 64 rfl rfl rfl (hd 69 rfl)) rfl (by kernel_rfl) (by kernel_rfl) (by kernel_rfl) (fun _ _ _ _ h => h) ?_
      refine ja_l 9 (lo_s' 69 rfl rfl (hd 70 rfl)) rfl (by kernel_rfl) (by kernel_rfl) (by kernel_rfl) (fun _ _ _ _ h => h) ?_
      refine ja_l 10 (lo_s' 69 rfl rfl (hd 71 rfl)) rfl (by kernel_rfl) (by kernel_rfl) (by kernel_rfl) (fun _ _ _ _ h => h) ?_
      refine ja_l 11 (lo_s' 69 rfl rfl (hd 72 rfl)) rfl (by kernel_rfl) (by kernel_rfl) (by kernel_rfl) (fun _ _ _ _ h => h) ?_
      refine ja_l 12 (lo_s' 69 rfl rfl (hd 73 rfl)) rfl (by kernel_rfl) (by kernel_rfl) (by kernel_rfl) (fun _ _ _ _ h => h) ?_
      refine ja_l 13 (lo_s' 69 rfl rfl (hd 74 rfl)) rfl (by kernel_rfl) (by kernel_rfl) (by kernel_rfl) (fun _ _ _ _ h => h) ?_
      refine ja_l 14 (lo_s' 69 rfl rfl (hd 75 rfl)) rfl (by kernel_rfl) (by kernel_rfl) (by kernel_rfl) (fun _ _ _ _ h => h) ?_
      refine ja_l 15 (lo_s' 69 rfl rfl (hd 76 rfl)) rfl (by kernel_rfl) (by kernel_rfl) (by kernel_rfl) (fun _ _ _ _ h => h) ?_
      refine ja_l 16 (lo_s' 69 rfl rfl (hd 77 rfl)) rfl (by kernel_rfl) (by kernel_rfl) (by kernel_rfl) (fun _ _ _ _ h => h) ?_
      refine ja_l 17 (lo_s 64 rfl rfl rfl (hd 78 rfl)) rfl (by kernel_rfl) (by kernel_rfl) (by kernel_rfl) (fun _ _ _ _ h => h) ?_
      refine ja_l 18 (lo_s 64 rfl rfl rfl (hd 79 rfl)) rfl (by kernel_rfl) (by kernel_rfl) (by kernel_rfl) (fun _ _ _ _ h => h) ?_
      refine ja_l 19 (lo_s' 79 rfl rfl (hd 80 rfl)) rfl (by kernel_rfl) (by kernel_rfl) (by kernel_rfl) (fun _ _ _ _ h => h) ?_
      refine ja_l 20 (lo_s' 79 rfl rfl (hd 81 rfl)) rfl (by kernel_rfl) (by kernel_rfl) (by kernel_rfl) (fun _ _ _ _ h => h) ?_
      refine ja_l 21 (lo_s' 79 rfl rfl (hd 82 rfl)) rfl (by kernel_rfl) (by kernel_rfl) (by kernel_rfl) (fun _ _ _ _ h => h) ?_
      refine ja_l 22 (lo_s' 79 rfl rfl (hd 83 rfl)) rfl (by kernel_rfl) (by kernel_rfl) (by kernel_rfl) (fun _ _ _ _ h => h) ?_
      refine ja_l 23 (lo_s' 79 rfl rfl (hd 84 rfl)) rfl (by kernel_rfl) (by kernel_rfl) (by kernel_rfl) (fun _ _ _ _ h => h) ?_
      refine ja_l 24 (lo_s' 79 rfl rfl (hd 85 rfl)) rfl (by kernel_rfl) (by kernel_rfl) (by kernel_rfl) (fun _ _ _ _ h => h) ?_
      refine ja_l 25 (lo_s' 79 rfl rfl (hd 86 rfl)) rfl (by kernel_rfl) (by kernel_rfl) (by kernel_rfl) (fun _ _ _ _ h => h) ?_
      refine ja_l 26 (lo_s' 79 rfl rfl (hd 87 rfl)) rfl (by kernel_rfl) (by kernel_rfl) (by kernel_rfl) (fun _ _ _ _ h => h) ?_
      refine ja_l 27 (lo_s 64 rfl rfl rfl (hd 88 rfl)) rfl (by kernel_rfl) (by kernel_rfl) (by kernel_rfl) (fun _ _ _ _ h => h) ?_
      refine ja_l 28 (lo_s 64 rfl rfl rfl (hd 89 rfl)) rfl (by kernel_rfl) (by kernel_rfl) (by kernel_rfl) (fun _ _ _ _ h => h) ?_
      refine ja_l 29 (lo_s' 89 rfl rfl (hd 90 rfl)) rfl (by kernel_rfl) (by kernel_rfl) (by kernel_rfl) (fun _ _ _ _ h => h) ?_
      refine ja_l 30 (lo_s' 89 rfl rfl (hd 91 rfl)) rfl (by kernel_rfl) (by kernel_rfl) (by kernel_rfl) (fun _ _ _ _ h => h) ?_
      refine ja_l 31 (lo_s' 89 rfl rfl (hd 92 rfl)) rfl (by kernel_rfl) (by kernel_rfl) (by kernel_rfl) (fun _ _ _ _ h => h) ?_
      refine ja_l 32 (lo_s' 89 rfl rfl (hd 93 rfl)) rfl (by kernel_rfl) (by kernel_rfl) (by kernel_rfl) (fun _ _ _ _ h => h) ?_
      refine ja_l 33 (lo_s' 89 rfl rfl (hd 94 rfl)) rfl (by kernel_rfl) (by kernel_rfl) (by kernel_rfl) (fun _ _ _ _ h => h) ?_
      refine ja_l 34 (lo_s' 89 rfl rfl (hd 95 rfl)) rfl (by kernel_rfl) (by kernel_rfl) (by kernel_rfl) (fun _ _ _ _ h => h) ?_
      refine ja_l 35 (lo_s' 89 rfl rfl (hd 96 rfl)) rfl (by kernel_rfl) (by kernel_rfl) (by kernel_rfl) (fun _ _ _ _ h => h) ?_
      refine ja_l 36 (lo_s' 89 rfl rfl (hd 97 rfl)) rfl (by kernel_rfl) (by kernel_rfl) (by kernel_rfl) (fun _ _ _ _ h => h) ?_
      refine ja_l 37 (lo_s 64 rfl rfl rfl (hd 98 rfl)) rfl (by kernel_rfl) (by kernel_rfl) (by kernel_rfl) (fun _ _ _ _ h => h) ?_
      refine ja_l 38 (lo_l (ly_pick_f rfl rfl) (hd 99 rfl)) rfl (by kernel_rfl) (by kernel_rfl) (by kernel_rfl) (fun _ _ _ _ h => h) ?_
      refine ja_l 39 (lo_l (ly_mv rfl) (hd 100 rfl)) rfl (by kernel_rfl) (by kernel_rfl) (by kernel_rfl) (fun _ _ _ _ h => h) ?_
      refine ja_l 40 (lo_g 100 rfl rfl (ly_mv rfl) (hd 101 rfl)) rfl (by kernel_rfl) (by kernel_rfl) (by kernel_rfl) (fun _ _ _ _ h => h) ?_
      refine ja_l 41 (lo_g 100 rfl rfl (ly_mv rfl) (hd 102 rfl)) rfl (by kernel_rfl) (by kernel_rfl) (by kernel_rfl) (fun _ _ _ _ h => h) ?_
      refine ja_l 42 (lo_g 100 rfl rfl (ly_ff (ly_le rfl rfl) (by omega)) (hd 103 rfl)) rfl (by kernel_rfl) (by kernel_rfl) (by kernel_rfl) (fun _ _ _ _ h => h) ?_
      refine ja_l 43 (lo_l (ly_pick_f rfl rfl) (hd 104 rfl)) rfl (by kernel_rfl) (by kernel_rfl) (by kernel_rfl) (fun _ _ _ _ h => h) ?_
      refine ja_nil (by kernel_rfl) ?_
      refine jc_litf rfl ?_
      refine jc_skip ?_
      refine jc_region ?_
      refine jo_l (ly_mv rfl) (hd 105 rfl) ?_
      refine jo_l (ly_as rfl) (hd 6 rfl) ?_
      refine jo_nil ?_
      refine jc_region ?_
      refine jo_l (ly_mv rfl) (hd 21 rfl) ?_
      refine jo_l (ly_add rfl rfl (wrap_i64 (by omega) (by omega))) (hd 22 rfl) ?_
      refine jo_l (ly_as rfl) (hd 7 rfl) ?_
      refine jo_nil ?_
      refine ⟨(i + 1, e), ?_, ?_, rfl, cov_n 164 (by kernel_rfl) (by kernel_rfl) ?_⟩
      · exact ⟨hg, hle, by omega, by omega⟩
      · show s.size - e < s.size - p
        omega
      · exact (.cons rfl (.cons rfl (.u (.u (.u (.u (.u (.u (.u (.u (.u (.u (.u (.u (.u (.u (.u (.u (.u (.u (.u (.u (.u (.u (.u (.u (.u (.u (.u (.u (.u (.u (.u (.u (.u (.u (.u (.u (.u (.u (.u (.u (.u (.u (.u (.u (.u (.u (.u (.u (.u (.u (.u (.u (.u (.u (.u (.u (.u (.u (.u (.u (.u (.u (.u (.u (.u (.u (.u (.u (.u (.u (.u (.u (.u (.u (.u (.u (.u (.u (.u (.u (.u (.u (.u (.u (.u (.u (.u (.u (.u (.u (.u (.u (.u .nil)))))))))))))))))))))))))))))))))))))))))))))))))))))))))))))))))))))))))))))))))))))))))))))))

theorem LexSteps_s (s : ByteArray) (hs : s.size < 4294967296) : Spec Try.prog 7 [.s s] (fun o => o = .ret (.b true)) := by
  rcases h : lexGo s 0 with ⟨l, r⟩
  cases r with
  | none => exact LexSteps_ok hs h
  | some q => exact LexSteps_bad hs h
end Go.Proofs.Ytnpbpiommpgikaa.Vc
