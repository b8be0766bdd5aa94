/- The contract of surdlaw14.LexKeeps. -/
import Derived.Test.YtnpbpiommpgikaaWi
set_option linter.unusedVariables false
set_option linter.unusedSimpArgs false
namespace Go.Proofs.Ytnpbpiommpgikaa.Vc
open Go Go.RowKit
theorem LexKeeps_ok {s : ByteArray} {l : List Tok} (hs : s.size < 4294967296) (h : lexGo s 0 = (l, none)) : Spec Try.prog 4 [.s s] (fun o => o = .ret (.b true)) := by
  refine spec_of' [(0, .s s)] rfl Try.func4 rfl (Nat.le_of_ble_eq_true rfl) fun Γ hN hds hL hR => ?_
  have hd : ∀ d, Nat.blt d 99 = true → d < Γ.N := fun d h => by rw [hN]; exact Nat.le_of_ble_eq_true h
  have hm : (l.map tokRow).length = l.length := by simp
  refine jc_seq ?_
  refine jc_region ?_
  refine jo_l (ly_as rfl) (hd 2 rfl) ?_
  refine jo_nil ?_
  refine jc_seq ?_
  refine jc_region ?_
  refine jo_l (ly_mv rfl) (hd 10 rfl) ?_
  refine jo_call Try.f14 (Lex_ok hs h) rfl Try.func14 rfl rfl (ovL_cons rfl ovL_nil) (.cons .s .nil) (hd 11 rfl) ?_ (fun ch hp => by simp at hp)
  rintro y hy; injection hy with hy; subst hy
  refine jo_l (ly_mv rfl) (hd 9 rfl) ?_
  refine jo_l (ly_ext rfl rfl) (hd 12 rfl) ?_
  refine jo_l (ly_ext rfl rfl) (hd 13 rfl) ?_
  refine jo_l (ly_ext rfl rfl) (hd 14 rfl) ?_
  refine jo_l (ly_as rfl) (hd 3 rfl) ?_
  refine jo_l (ly_as rfl) (hd 4 rfl) ?_
  refine jo_l (ly_as rfl) (hd 5 rfl) ?_
  refine jo_nil ?_
  refine jc_seq ?_
  refine jc_seq ?_
  refine jc_region ?_
  refine jo_l (ly_mv rfl) (hd 15 rfl) ?_
  refine jo_call Try.f12 (num_s _) rfl Try.func12 rfl rfl (ovL_cons rfl ovL_nil) (.cons .i .nil) (hd 16 rfl) ?_ (fun ch hp => by simp at hp)
  rintro y hy; injection hy with hy; subst hy
  refine jo_l (ly_ff (ly_ne rfl rfl) (by decide)) (hd 17 rfl) ?_
  refine jo_nil ?_
  refine jc_litf rfl ?_
  refine jc_skip ?_
  refine jc_seq ?_
  refine jc_region ?_
  refine jo_l (ly_as rfl) (hd 6 rfl) ?_
  refine jo_nil ?_
  refine jc_seq ?_
  refine jc_seq ?_
  refine jc_region ?_
  refine jo_l (ly_mv rfl) (hd 24 rfl) ?_
  refine jo_l (ly_lenl sl25 rfl) (hd 25 rfl) ?_
  refine jo_l (ly_mv rfl) (hd 26 rfl) ?_
  refine jo_nil ?_
  refine jc_block ?_
  refine jc_loopD (G := Nat × Nat) 0 (fun g => lexGo s g.2 = (l.drop g.1, none) ∧ g.2 ≤ s.size ∧ g.1 ≤ l.length ∧ g.1 ≤ g.2) (fun g => [(6, .i .i64 (g.2 : Int)), (26, .i .i64 (g.1 : Int)), (2, .u), (8, .u), (27, .u), (28, .u), (29, .u), (30, .u), (31, .u), (32, .u), (33, .u), (34, .u), (35, .u), (36, .u), (37, .u), (38, .u), (39, .u), (40, .u), (41, .u), (42, .u), (43, .u), (44, .u), (45, .u), (46, .u), (47, .u), (48, .u), (49, .u), (50, .u), (51, .u), (52, .u), (53, .u), (54, .u), (55, .u), (56, .u), (57, .u), (58, .u), (59, .u), (60, .u), (61, .u), (62, .u), (63, .u), (64, .u), (65, .u), (66, .u), (67, .u), (68, .u), (69, .u), (70, .u), (71, .u), (72, .u), (73, .u), (74, .u), (75, .u), (76, .u), (77, .u), (78, .u), (79, .u)]) (fun g => []) (fun g => l.length - g.1) (0, 0) ?_ ?_ rfl hR rfl (fun _ _ => rfl) (fun _ _ => .nil) ?_
  · exact ⟨h, Nat.zero_le _, Nat.zero_le _, Nat.zero_le _⟩
  · exact (.cons rfl (.cons rfl (.u (.u (.u (.u (.u (.u (.u (.u (.u (.u (.u (.u (.u (.u (.u (.u (.u (.u (.u (.u (.u (.u (.u (.u (.u (.u (.u (.u (.u (.u (.u (.u (.u (.u (.u (.u (.u (.u (.u (.u (.u (.u (.u (.u (.u (.u (.u (.u (.u (.u (.u (.u (.u (.u (.u .nil)))))))))))))))))))))))))))))))))))))))))))))))))))))))))
  · rintro ⟨i, p⟩ ⟨hc1, hc2, hc3, hc4⟩
    dsimp only at hc1 hc2 hc3 hc4
    refine jc_seq ?_
    refine jc_region ?_
    refine jo_l (ly_lt rfl rfl) (hd 27 rfl) ?_
    refine jo_nil ?_
    refine jc_seq ?_
    refine jc_if rfl (fun h2 => ?_) (fun h2 => ?_)
    · have hil : i < l.length := by
        have h0 : (i : Int) < ((l.map tokRow).length : Int) := by assumption
        omega
      obtain ⟨k, pl, e, hx, hk, hl, hlt, hle, hg, hj, hpe⟩ := step_more hc2 hc1 hil
      have hsz := ex_size (a := pl) hle
      have hne := ex_ne hpe hle
      refine jc_skip ?_
      refine jc_seq ?_
      refine jc_block ?_
      refine jc_seq ?_
      refine jc_region ?_
      refine jo_l (ly_ial (i := i) (row := [.i .i64 k, .s (s.extract pl e), .i .i64 (pl : Int)]) sl25 rfl rfl rfl (by rw [List.getElem?_map, hl]; rfl)) (hd 28 rfl) ?_
      refine jo_l (ly_ldqa agg30 rfl rfl rfl) (hd 29 rfl) ?_
      refine jo_h (hy_alloc (id := 0) zero30 (by decide) rfl (by decide) rfl) (hd 8 rfl) ?_
      refine jo_st (sy_store rfl rfl rfl siz30 rfl rfl (by decide)) ?_
      refine jo_nil ?_
      refine jc_meetH (G := Unit) (fun _ => True) (fun _ => [(6, .i .i64 (pl : Int)), (30, .u), (31, .u), (32, .u), (33, .u), (34, .u), (35, .u), (36, .u), (37, .u), (38, .u), (39, .u), (40, .u), (41, .u)]) ?_ ?_
      · refine jc_block ?_
        refine jc_loopF (G := Nat) (fun k => k ≤ s.size ∧ runN s 1 k = pl) (fun k => [(6, .i .i64 (k : Int)), (30, .u), (31, .u), (32, .u), (33, .u), (34, .u), (35, .u), (36, .u), (37, .u), (38, .u), (39, .u), (40, .u), (41, .u)]) (fun _ => _) (fun k => s.size - k) p ?_ ?_ rfl ?_
        · exact ⟨hc2, hj⟩
        · exact (.cons rfl (.u (.u (.u (.u (.u (.u (.u (.u (.u (.u (.u (.u .nil)))))))))))))
        · rintro k2 ⟨hb2, hb3⟩
          refine jc_seq ?_
          refine jc_seq ?_
          refine jc_region ?_
          refine jo_l (ly_mv rfl) (hd 30 rfl) ?_
          refine jo_l (ly_mv rfl) (hd 31 rfl) ?_
          refine jo_l (ly_lens und9 rfl) (hd 32 rfl) ?_
          refine jo_l (ly_lt rfl rfl) (hd 33 rfl) ?_
          refine jo_l (ly_mv rfl) (hd 34 rfl) ?_
          refine jo_ifp 34 rfl (fun h3 => ?_) (fun h3 => ?_)
          · refine jo_g 34 rfl rfl (ly_mv rfl) (hd 35 rfl) ?_
            refine jo_g 34 rfl rfl (ly_mv rfl) (hd 36 rfl) ?_
            refine jo_g 34 rfl rfl (ly_ixs (i := k2) und9 rfl rfl (by first | rfl | omega) (by omega)) (hd 37 rfl) ?_
            refine jo_callg Try.f15 34 rfl rfl (blank_s _) rfl Try.func15 rfl rfl (ovL_cons rfl ovL_nil) (.cons .i .nil) (hd 38 rfl) ?_ (fun ch hp => by simp at hp)
            rintro y hy; injection hy with hy; subst hy
            refine jo_l (ly_pick_t rfl rfl) (hd 39 rfl) ?_
            refine jo_nil ?_
            refine jc_if rfl (fun h4 => ?_) (fun h4 => ?_)
            · refine jc_skip ?_
              refine jc_block ?_
              refine jc_region ?_
              refine jo_l (ly_mv rfl) (hd 40 rfl) ?_
              refine jo_l (ly_add rfl rfl (wrap_i64 (by omega) (by omega))) (hd 41 rfl) ?_
              refine jo_l (ly_as rfl) (hd 6 rfl) ?_
              refine jo_nil ?_
              refine ⟨k2 + 1, ?_, ?_, rfl, cov_n 27 rfl rfl ?_⟩
              · exact ⟨by omega, by rw [← hb3, ← runN_step (by omega) (cls1.1 (by assumption))]⟩
              · omega
              · exact (.cons rfl (.u (.u (.u (.u (.u (.u (.u (.u (.u (.u (.u (.u .nil)))))))))))))
            · refine jc_exit ?_
              refine ⟨(), ?_, rfl, cov_n 24 rfl rfl ?_⟩
              · trivial
              · exact (.cons (by show some _ = some _; rw [show k2 = pl from by rw [← hb3, runN_end (by rintro ⟨a, b⟩; have := cls1.2 b; first | omega | (simp_all; done))]]) (.u (.u (.u (.u (.u (.u (.u (.u (.u (.u (.u (.u .nil)))))))))))))
          · refine jo_s 34 rfl rfl rfl (hd 35 rfl) ?_
            refine jo_s 34 rfl rfl rfl (hd 36 rfl) ?_
            refine jo_s 34 rfl rfl rfl (hd 37 rfl) ?_
            refine jo_s 34 rfl rfl rfl (hd 38 rfl) ?_
            refine jo_l (ly_pick_f rfl rfl) (hd 39 rfl) ?_
            refine jo_nil ?_
            refine jc_litf rfl ?_
            refine jc_exit ?_
            refine ⟨(), ?_, rfl, cov_n 24 rfl rfl ?_⟩
            · trivial
            · exact (.cons (by show some _ = some _; rw [show k2 = pl from by rw [← hb3, runN_end (by rintro ⟨a, b⟩; have := cls1.2 b; first | omega | (simp_all; done))]]) (.u (.u (.u (.u (.u (.u (.u (.u (.u (.u (.u (.u .nil)))))))))))))
      · rintro _ _
        refine jc_seq ?_
        refine jc_seq ?_
        refine jc_draw (n := 32) _ rfl mixed ?_
        refine ja_l 0 (lo_l (ly_fa fld30_2 rfl rfl rfl) (hd 42 rfl)) rfl (by kernel_rfl) (by kernel_rfl) (by kernel_rfl) (fun _ _ _ _ h => h) ?_
        refine ja_l 1 (lo_l (ly_ld one3 rfl rfl rfl) (hd 43 rfl)) rfl (by kernel_rfl) (by kernel_rfl) (by kernel_rfl) (fun _ _ _ _ h => h) ?_
        refine ja_l 2 (lo_l (ly_mv rfl) (hd 44 rfl)) rfl (by kernel_rfl) (by kernel_rfl) (by kernel_rfl) (fun _ _ _ _ h => h) ?_
        refine ja_l 3 (lo_l (ly_ff (ly_ne rfl rfl) (by omega)) (hd 45 rfl)) rfl (by kernel_rfl) (by kernel_rfl) (by kernel_rfl) (fun _ _ _ _ h => h) ?_
        refine ja_l 4 (lo_l (ly_mv rfl) (hd 46 rfl)) rfl (by kernel_rfl) (by kernel_rfl) (by kernel_rfl) (fun _ _ _ _ h => h) ?_
        refine ja_l 5 (lo_g 46 rfl rfl (ly_fa fld30_1 rfl rfl rfl) (hd 47 rfl)) rfl (by kernel_rfl) (by kernel_rfl) (by kernel_rfl) (fun _ _ _ _ h => h) ?_
        refine ja_l 6 (lo_g 46 rfl rfl (ly_ld one9 rfl rfl rfl) (hd 48 rfl)) rfl (by kernel_rfl) (by kernel_rfl) (by kernel_rfl) (fun _ _ _ _ h => h) ?_
        refine ja_l 7 (lo_g 46 rfl rfl (ly_ff (ly_eqS rfl rfl) hne) (hd 49 rfl)) rfl (by kernel_rfl) (by kernel_rfl) (by kernel_rfl) (fun _ _ _ _ h => h) ?_
        refine ja_l 8 (lo_l (ly_pick_f rfl rfl) (hd 50 rfl)) rfl (by kernel_rfl) (by kernel_rfl) (by kernel_rfl) (fun _ _ _ _ h => h) ?_
        refine ja_l 9 (lo_l (ly_mv rfl) (hd 51 rfl)) rfl (by kernel_rfl) (by kernel_rfl) (by kernel_rfl) (fun _ _ _ _ h => h) ?_
        refine ja_l 10 (lo_g 51 rfl rfl (ly_mv rfl) (hd 52 rfl)) rfl (by kernel_rfl) (by kernel_rfl) (by kernel_rfl) (fun _ _ _ _ h => h) ?_
        refine ja_l 11 (lo_g 51 rfl rfl (ly_lens und9 rfl) (hd 53 rfl)) rfl (by kernel_rfl) (by kernel_rfl) (by kernel_rfl) (fun _ _ _ _ h => h) ?_
        refine ja_l 12 (lo_g 51 rfl rfl (ly_mv rfl) (hd 54 rfl)) rfl (by kernel_rfl) (by kernel_rfl) (by kernel_rfl) (fun _ _ _ _ h => h) ?_
        refine ja_l 13 (lo_g 51 rfl rfl (ly_sub rfl rfl (wrap_i64 (by omega) (by omega))) (hd 55 rfl)) rfl (by kernel_rfl) (by kernel_rfl) (by kernel_rfl) (fun _ _ _ _ h => h) ?_
        refine ja_l 14 (lo_g 51 rfl rfl (ly_fa fld30_1 rfl rfl rfl) (hd 56 rfl)) rfl (by kernel_rfl) (by kernel_rfl) (by kernel_rfl) (fun _ _ _ _ h => h) ?_
        refine ja_l 15 (lo_g 51 rfl rfl (ly_ld one9 rfl rfl rfl) (hd 57 rfl)) rfl (by kernel_rfl) (by kernel_rfl) (by kernel_rfl) (fun _ _ _ _ h => h) ?_
        refine ja_l 16 (lo_g 51 rfl rfl (ly_lens und9 rfl) (hd 58 rfl)) rfl (by kernel_rfl) (by kernel_rfl) (by kernel_rfl) (fun _ _ _ _ h => h) ?_
        refine ja_l 17 (lo_g 51 rfl rfl (ly_ff (ly_lt rfl rfl) (by omega)) (hd 59 rfl)) rfl (by kernel_rfl) (by kernel_rfl) (by kernel_rfl) (fun _ _ _ _ h => h) ?_
        refine ja_l 18 (lo_l (ly_pick_f rfl rfl) (hd 60 rfl)) rfl (by kernel_rfl) (by kernel_rfl) (by kernel_rfl) (fun _ _ _ _ h => h) ?_
        refine ja_l 19 (lo_l (ly_mv rfl) (hd 61 rfl)) rfl (by kernel_rfl) (by kernel_rfl) (by kernel_rfl) (fun _ _ _ _ h => h) ?_
        refine ja_l 20 (lo_g 61 rfl rfl (ly_mv rfl) (hd 62 rfl)) rfl (by kernel_rfl) (by kernel_rfl) (by kernel_rfl) (fun _ _ _ _ h => h) ?_
        refine ja_l 21 (lo_g 61 rfl rfl (ly_mv rfl) (hd 63 rfl)) rfl (by kernel_rfl) (by kernel_rfl) (by kernel_rfl) (fun _ _ _ _ h => h) ?_
        refine ja_l 22 (lo_g 61 rfl rfl (ly_mv rfl) (hd 64 rfl)) rfl (by kernel_rfl) (by kernel_rfl) (by kernel_rfl) (fun _ _ _ _ h => h) ?_
        refine ja_l 23 (lo_g 61 rfl rfl (ly_fa fld30_1 rfl rfl rfl) (hd 65 rfl)) rfl (by kernel_rfl) (by kernel_rfl) (by kernel_rfl) (fun _ _ _ _ h => h) ?_
        refine ja_l 24 (lo_g 61 rfl rfl (ly_ld one9 rfl rfl rfl) (hd 66 rfl)) rfl (by kernel_rfl) (by kernel_rfl) (by kernel_rfl) (fun _ _ _ _ h => h) ?_
        refine ja_l 25 (lo_g 61 rfl rfl (ly_lens und9 rfl) (hd 67 rfl)) rfl (by kernel_rfl) (by kernel_rfl) (by kernel_rfl) (fun _ _ _ _ h => h) ?_
        refine ja_l 26 (lo_g 61 rfl rfl (ly_add rfl rfl (wrap_i64 (by omega) (by omega))) (hd 68 rfl)) rfl (by kernel_rfl) (by kernel_rfl) (by kernel_rfl) (fun _ _ _ _ h => h) ?_
        refine ja_l 27 (lo_g 61 rfl rfl (ly_sls (l := pl) (h := e) und9 rfl (bnd_some' rfl (by first | rfl | omega)) (bnd_some' rfl (by first | rfl | omega)) (by omega) (by omega)) (hd 69 rfl)) rfl (by kernel_rfl) (by kernel_rfl) (by kernel_rfl) (fun _ _ _ _ h => h) ?_
        refine ja_l 28 (lo_g 61 rfl rfl (ly_fa fld30_1 rfl rfl rfl) (hd 70 rfl)) rfl (by kernel_rfl) (by kernel_rfl) (by kernel_rfl) (fun _ _ _ _ h => h) ?_
        refine ja_l 29 (lo_g 61 rfl rfl (ly_ld one9 rfl rfl rfl) (hd 71 rfl)) rfl (by kernel_rfl) (by kernel_rfl) (by kernel_rfl) (fun _ _ _ _ h => h) ?_
        refine ja_l 30 (lo_g 61 rfl rfl (ly_ff (ly_neS rfl rfl) (by simp)) (hd 72 rfl)) rfl (by kernel_rfl) (by kernel_rfl) (by kernel_rfl) (fun _ _ _ _ h => h) ?_
        refine ja_l 31 (lo_l (ly_pick_f rfl rfl) (hd 73 rfl)) rfl (by kernel_rfl) (by kernel_rfl) (by kernel_rfl) (fun _ _ _ _ h => h) ?_
        refine ja_nil (by kernel_rfl) ?_
        refine jc_litf rfl ?_
        refine jc_skip ?_
        refine jc_region ?_
        refine jo_l (ly_mv rfl) (hd 74 rfl) ?_
        refine jo_l (ly_fa fld30_1 rfl rfl rfl) (hd 75 rfl) ?_
        refine jo_l (ly_ld one9 rfl rfl rfl) (hd 76 rfl) ?_
        refine jo_l (ly_lens und9 rfl) (hd 77 rfl) ?_
        refine jo_l (ly_add rfl rfl (r := (e : Int)) (by rw [wrap_i64 (by omega) (by omega)]; omega)) (hd 78 rfl) ?_
        refine jo_l (ly_as rfl) (hd 6 rfl) ?_
        refine jo_nil ?_
        refine jc_region ?_
        refine jo_l (ly_add rfl rfl (wrap_i64 (by omega) (by omega))) (hd 79 rfl) ?_
        refine jo_l (ly_mv rfl) (hd 26 rfl) ?_
        refine jo_nil ?_
        refine ⟨(i + 1, e), ?_, ?_, rfl, cov_n 114 (by kernel_rfl) (by kernel_rfl) ?_⟩
        · exact ⟨hg, hle, by omega, by omega⟩
        · show l.length - (i + 1) < l.length - i
          omega
        · exact (.cons rfl (.cons rfl (.u (.u (.u (.u (.u (.u (.u (.u (.u (.u (.u (.u (.u (.u (.u (.u (.u (.u (.u (.u (.u (.u (.u (.u (.u (.u (.u (.u (.u (.u (.u (.u (.u (.u (.u (.u (.u (.u (.u (.u (.u (.u (.u (.u (.u (.u (.u (.u (.u (.u (.u (.u (.u (.u (.u .nil)))))))))))))))))))))))))))))))))))))))))))))))))))))))))
    · have hil : l.length ≤ i := by
        have h0 : ¬ (i : Int) < ((l.map tokRow).length : Int) := by assumption
        omega
      have hj := step_end hc2 hc1 hil
      refine jc_exit ?_
      refine jc_meetH (G := Unit) (fun _ => True) (fun _ => [(6, .i .i64 (s.size : Int)), (80, .u), (81, .u), (82, .u), (83, .u), (84, .u), (85, .u), (86, .u), (87, .u), (88, .u), (89, .u), (90, .u), (91, .u)]) ?_ ?_
      · refine jc_block ?_
        refine jc_loopF (G := Nat) (fun k => k ≤ s.size ∧ runN s 1 k = s.size) (fun k => [(6, .i .i64 (k : Int)), (80, .u), (81, .u), (82, .u), (83, .u), (84, .u), (85, .u), (86, .u), (87, .u), (88, .u), (89, .u), (90, .u), (91, .u)]) (fun _ => _) (fun k => s.size - k) p ?_ ?_ rfl ?_
        · exact ⟨hc2, hj⟩
        · exact (.cons rfl (.u (.u (.u (.u (.u (.u (.u (.u (.u (.u (.u (.u .nil)))))))))))))
        · rintro k2 ⟨hb2, hb3⟩
          refine jc_seq ?_
          refine jc_seq ?_
          refine jc_region ?_
          refine jo_l (ly_mv rfl) (hd 80 rfl) ?_
          refine jo_l (ly_mv rfl) (hd 81 rfl) ?_
          refine jo_l (ly_lens und9 rfl) (hd 82 rfl) ?_
          refine jo_l (ly_lt rfl rfl) (hd 83 rfl) ?_
          refine jo_l (ly_mv rfl) (hd 84 rfl) ?_
          refine jo_ifp 84 rfl (fun h7 => ?_) (fun h7 => ?_)
          · refine jo_g 84 rfl rfl (ly_mv rfl) (hd 85 rfl) ?_
            refine jo_g 84 rfl rfl (ly_mv rfl) (hd 86 rfl) ?_
            refine jo_g 84 rfl rfl (ly_ixs (i := k2) und9 rfl rfl (by first | rfl | omega) (by omega)) (hd 87 rfl) ?_
            refine jo_callg Try.f15 84 rfl rfl (blank_s _) rfl Try.func15 rfl rfl (ovL_cons rfl ovL_nil) (.cons .i .nil) (hd 88 rfl) ?_ (fun ch hp => by simp at hp)
            rintro y hy; injection hy with hy; subst hy
            refine jo_l (ly_pick_t rfl rfl) (hd 89 rfl) ?_
            refine jo_nil ?_
            refine jc_if rfl (fun h8 => ?_) (fun h8 => ?_)
            · refine jc_skip ?_
              refine jc_block ?_
              refine jc_region ?_
              refine jo_l (ly_mv rfl) (hd 90 rfl) ?_
              refine jo_l (ly_add rfl rfl (wrap_i64 (by omega) (by omega))) (hd 91 rfl) ?_
              refine jo_l (ly_as rfl) (hd 6 rfl) ?_
              refine jo_nil ?_
              refine ⟨k2 + 1, ?_, ?_, rfl, cov_n 27 rfl rfl ?_⟩
              · exact ⟨by omega, by rw [← hb3, ← runN_step (by omega) (cls1.1 (by assumption))]⟩
              · omega
              · exact (.cons rfl (.u (.u (.u (.u (.u (.u (.u (.u (.u (.u (.u (.u .nil)))))))))))))
            · refine jc_exit ?_
              refine ⟨(), ?_, rfl, cov_n 24 rfl rfl ?_⟩
              · trivial
              · exact (.cons (by show some _ = some _; rw [show k2 = s.size from by rw [← hb3, runN_end (by rintro ⟨a, b⟩; have := cls1.2 b; first | omega | (simp_all; done))]]) (.u (.u (.u (.u (.u (.u (.u (.u (.u (.u (.u (.u .nil)))))))))))))
          · refine jo_s 84 rfl rfl rfl (hd 85 rfl) ?_
            refine jo_s 84 rfl rfl rfl (hd 86 rfl) ?_
            refine jo_s 84 rfl rfl rfl (hd 87 rfl) ?_
            refine jo_s 84 rfl rfl rfl (hd 88 rfl) ?_
            refine jo_l (ly_pick_f rfl rfl) (hd 89 rfl) ?_
            refine jo_nil ?_
            refine jc_litf rfl ?_
            refine jc_exit ?_
            refine ⟨(), ?_, rfl, cov_n 24 rfl rfl ?_⟩
            · trivial
            · exact (.cons (by show some _ = some _; rw [show k2 = s.size from by rw [← hb3, runN_end (by rintro ⟨a, b⟩; have := cls1.2 b; first | omega | (simp_all; done))]]) (.u (.u (.u (.u (.u (.u (.u (.u (.u (.u (.u (.u .nil)))))))))))))
      · rintro _ _
        refine jc_seq ?_
        refine jc_region ?_
        refine jo_l (ly_mv rfl) (hd 92 rfl) ?_
        refine jo_l (ly_mv rfl) (hd 93 rfl) ?_
        refine jo_l (ly_lens und9 rfl) (hd 94 rfl) ?_
        refine jo_l (ly_tt (ly_eq rfl rfl) rfl) (hd 95 rfl) ?_
        refine jo_l (ly_mv rfl) (hd 96 rfl) ?_
        refine jo_callg Try.f13 96 rfl rfl (awake_s) rfl Try.func13 rfl rfl ovL_nil .nil (hd 97 rfl) ?_ (fun ch hp => by simp at hp)
        rintro y hy; injection hy with hy; subst hy
        refine jo_l (ly_pick_t rfl rfl) (hd 98 rfl) ?_
        refine jo_l (ly_as rfl) (hd 2 rfl) ?_
        refine jo_nil ?_
        refine jc_ret ?_
        refine ⟨_, _, (.cons rfl .nil), .b, ?_⟩
        exact rfl

theorem LexKeeps_bad {s : ByteArray} {l : List Tok} {q : Nat} (hs : s.size < 4294967296) (h : lexGo s 0 = (l, some q)) : Spec Try.prog 4 [.s s] (fun o => o = .ret (.b true)) := by
  refine spec_of' [(0, .s s)] rfl Try.func4 rfl (Nat.le_of_ble_eq_true rfl) fun Γ hN hds hL hR => ?_
  have hd : ∀ d, Nat.blt d 99 = true → d < Γ.N := fun d h => by rw [hN]; exact Nat.le_of_ble_eq_true h
  refine jc_seq ?_
  refine jc_region ?_
  refine jo_l (ly_as rfl) (hd 2 rfl) ?_
  refine jo_nil ?_
  refine jc_seq ?_
  refine jc_region ?_
  refine jo_l (ly_mv rfl) (hd 10 rfl) ?_
  refine jo_call Try.f14 (Lex_bad hs h) rfl Try.func14 rfl rfl (ovL_cons rfl ovL_nil) (.cons .s .nil) (hd 11 rfl) ?_ (fun ch hp => by simp at hp)
  rintro y hy; injection hy with hy; subst hy
  refine jo_l (ly_mv rfl) (hd 9 rfl) ?_
  refine jo_l (ly_ext rfl rfl) (hd 12 rfl) ?_
  refine jo_l (ly_ext rfl rfl) (hd 13 rfl) ?_
  refine jo_l (ly_ext rfl rfl) (hd 14 rfl) ?_
  refine jo_l (ly_as rfl) (hd 3 rfl) ?_
  refine jo_l (ly_as rfl) (hd 4 rfl) ?_
  refine jo_l (ly_as rfl) (hd 5 rfl) ?_
  refine jo_nil ?_
  refine jc_seq ?_
  refine jc_seq ?_
  refine jc_region ?_
  refine jo_l (ly_mv rfl) (hd 15 rfl) ?_
  refine jo_call Try.f12 (num_s _) rfl Try.func12 rfl rfl (ovL_cons rfl ovL_nil) (.cons .i .nil) (hd 16 rfl) ?_ (fun ch hp => by simp at hp)
  rintro y hy; injection hy with hy; subst hy
  refine jo_l (ly_tt (ly_ne rfl rfl) (by decide)) (hd 17 rfl) ?_
  refine jo_nil ?_
  refine jc_litt rfl ?_
  refine jc_seq ?_
  refine jc_region ?_
  refine jo_l (ly_mv rfl) (hd 18 rfl) ?_
  refine jo_call Try.f12 (num_s _) rfl Try.func12 rfl rfl (ovL_cons rfl ovL_nil) (.cons .i .nil) (hd 19 rfl) ?_ (fun ch hp => by simp at hp)
  rintro y hy; injection hy with hy; subst hy
  refine jo_l (ly_tt (ly_eq rfl rfl) rfl) (hd 20 rfl) ?_
  refine jo_l (ly_mv rfl) (hd 21 rfl) ?_
  refine jo_callg Try.f13 21 rfl rfl (awake_s) rfl Try.func13 rfl rfl ovL_nil .nil (hd 22 rfl) ?_ (fun ch hp => by simp at hp)
  rintro y hy; injection hy with hy; subst hy
  refine jo_l (ly_pick_t rfl rfl) (hd 23 rfl) ?_
  refine jo_l (ly_as rfl) (hd 2 rfl) ?_
  refine jo_nil ?_
  refine jc_ret ?_
  refine ⟨_, _, (.cons rfl .nil), .b, ?_⟩
  exact rfl

theorem LexKeeps_s (s : ByteArray) (hs : s.size < 4294967296) : Spec Try.prog 4 [.s s] (fun o => o = .ret (.b true)) := by
  rcases h : lexGo s 0 with ⟨l, r⟩
  cases r with
  | none => exact LexKeeps_ok hs h
  | some q => exact LexKeeps_bad hs h
end Go.Proofs.Ytnpbpiommpgikaa.Vc
