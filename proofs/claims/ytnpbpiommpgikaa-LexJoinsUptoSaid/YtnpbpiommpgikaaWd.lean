/- The contract of lex.next. -/
import Derived.Test.YtnpbpiommpgikaaWb
import Derived.Test.YtnpbpiommpgikaaWc
set_option linter.unusedVariables false
set_option linter.unusedSimpArgs false
namespace Go.Proofs.Ytnpbpiommpgikaa.Vc
open Go Go.RowKit
theorem next_s (s : ByteArray) (p : Nat) (hp : p ≤ s.size) (hs : s.size < 4611686018427387904) : Spec Try.prog 30 [.q tbl, .s s, .i .i64 (p : Int)] (fun o => o = .ret (nxV (nx s p))) := by
  refine spec_of' [(0, .q tbl), (1, .s s), (2, .i .i64 (p : Int))] rfl Try.func30 rfl (Nat.le_of_ble_eq_true rfl) fun Γ hN hds hL hR => ?_
  have hd : ∀ d, Nat.blt d 83 = true → d < Γ.N := fun d h => by rw [hN]; exact Nat.le_of_ble_eq_true h
  obtain ⟨j, hj⟩ : ∃ j, runN s 1 p = j := ⟨_, rfl⟩
  have hjge := runN_ge s 1 p
  have hjle := runN_le s 1 p hp
  rw [hj] at hjge hjle
  have r1 : Spec Try.prog 42 [.q tbl, .s s, .i .i64 (p : Int), .i .i64 1] (fun o => o = .ret (.i .i64 (j : Int))) := hj ▸ run_s s p 1 hp hs
  have g3 := runN_ge s 3 j
  have l3 := runN_le s 3 j hjle
  have g2 := runN_ge s 2 j
  have l2 := runN_le s 2 j hjle
  refine jc_seq ?_
  refine jc_region ?_
  refine jo_h (hy_alloc (id := 0) zero30 (by decide) rfl (by decide) rfl) (hd 6 rfl) ?_
  refine jo_l (ly_as rfl) (hd 7 rfl) ?_
  refine jo_l (ly_as rfl) (hd 8 rfl) ?_
  refine jo_nil ?_
  refine jc_seq ?_
  refine jc_region ?_
  refine jo_l (ly_mv rfl) (hd 12 rfl) ?_
  refine jo_l (ly_mv rfl) (hd 13 rfl) ?_
  refine jo_l (ly_mv rfl) (hd 14 rfl) ?_
  refine jo_call Try.f42 (r1) rfl Try.func42 rfl rfl (ovL_cons rfl (ovL_cons rfl (ovL_cons rfl (ovL_cons rfl ovL_nil)))) (.cons .q (.cons .s (.cons .i (.cons .i .nil)))) (hd 15 rfl) ?_ (fun ch hp => by simp at hp)
  rintro y hy; injection hy with hy; subst hy
  refine jo_l (ly_as rfl) (hd 9 rfl) ?_
  refine jo_nil ?_
  refine jc_seq ?_
  refine jc_seq ?_
  refine jc_region ?_
  refine jo_l (ly_mv rfl) (hd 16 rfl) ?_
  refine jo_l (ly_mv rfl) (hd 17 rfl) ?_
  refine jo_l (ly_lens und9 rfl) (hd 18 rfl) ?_
  refine jo_l (ly_eq rfl rfl) (hd 19 rfl) ?_
  refine jo_nil ?_
  refine jc_if rfl (fun h1 => ?_) (fun h1 => ?_)
  · refine jc_seq ?_
    refine jc_region ?_
    refine jo_l (ly_mv rfl) (hd 20 rfl) ?_
    refine jo_l (ly_build (is := [0, 2]) (xs := [.const (.int .i64 3), .tmp 20]) zero30 pls30_0_2 rfl (ovL_cons rfl (ovL_cons rfl ovL_nil)) rfl (by first | (simp [plsOk, cellsV]; done) | (simp [plsOk, cellsV, old]; done)) (all_of rfl) rfl) (hd 21 rfl) ?_
    refine jo_l (ly_mv rfl) (hd 22 rfl) ?_
    refine jo_st (sy_store rfl rfl rfl siz30 rfl rfl (Nat.le_of_ble_eq_true rfl)) ?_
    refine jo_l (ly_as rfl) (hd 7 rfl) ?_
    refine jo_l (ly_as rfl) (hd 8 rfl) ?_
    refine jo_nil ?_
    refine jc_ret ?_
    refine ⟨_, _, (.cons (ResV.cell agg30 rfl rfl rfl rfl) (.cons rfl (.cons rfl .nil))), (.t1 (.a1 .i (.a1 .s (.a1 .i .a0))) (.t1 .i (.t1 .b .t0))), ?_⟩
    rw [nx_end hj (by omega)]
    rfl
  · refine jc_skip ?_
    refine jc_seq ?_
    refine jc_region ?_
    refine jo_l (ly_mv rfl) (hd 23 rfl) ?_
    refine jo_l (ly_add rfl rfl (r := ((j + 1 : Nat) : Int)) (by rw [wrap_i64 (by omega) (by omega)]; omega)) (hd 24 rfl) ?_
    refine jo_l (ly_as rfl) (hd 10 rfl) ?_
    refine jo_l (ly_as rfl) (hd 11 rfl) ?_
    refine jo_nil ?_
    refine jc_seq ?_
    refine jc_seq ?_
    refine jc_draw (n := 7) _ rfl mixed ?_
    refine ja_l 0 (lo_l (ly_mv rfl) (hd 25 rfl)) rfl (by kernel_rfl) (by kernel_rfl) (by kernel_rfl) (fun _ _ _ _ h => h) ?_
    refine ja_l 1 (lo_l (ly_mv rfl) (hd 26 rfl)) rfl (by kernel_rfl) (by kernel_rfl) (by kernel_rfl) (fun _ _ _ _ h => h) ?_
    refine ja_l 2 (lo_l (ly_mv rfl) (hd 27 rfl)) rfl (by kernel_rfl) (by kernel_rfl) (by kernel_rfl) (fun _ _ _ _ h => h) ?_
    refine ja_l 3 (lo_l (ly_ixs (i := j) und9 rfl rfl (by first | rfl | omega) (by omega)) (hd 28 rfl)) rfl (by kernel_rfl) (by kernel_rfl) (by kernel_rfl) (fun _ _ _ _ h => h) ?_
    refine ja_l 4 (lo_l (ly_nilq rfl) (hd 29 rfl)) rfl (by kernel_rfl) (by kernel_rfl) (by kernel_rfl) (fun _ _ _ _ h => h) ?_
    refine ja_l 5 (lo_l (ly_iaq (i := (byteAt s j).toNat) ar63 rfl rfl (by have := byteAt_range s j; omega) (by have := byteAt_range s j; omega) rfl) (hd 30 rfl)) rfl (by kernel_rfl) (by kernel_rfl) (by kernel_rfl) (fun _ _ _ _ h => h) ?_
    refine ja_l 6 (lo_l (ly_ldqz one62 rfl (tbl_at (byteAt_range s j).1 (byteAt_range s j).2) rfl) (hd 31 rfl)) rfl (by kernel_rfl) (by kernel_rfl) (by kernel_rfl) (fun _ _ _ _ h => h) ?_
    refine ja_nil (by kernel_rfl) ?_
    refine jc_block ?_
    refine jc_seq ?_
    refine jc_region ?_
    refine jo_l (ly_eq rfl rfl) (hd 35 rfl) ?_
    refine jo_l (ly_as rfl) (hd 34 rfl) ?_
    refine jo_nil ?_
    refine jc_if rfl (fun h2 => ?_) (fun h2 => ?_)
    · refine jc_skip ?_
      refine jc_seq ?_
      refine jc_region ?_
      refine jo_l (ly_mv rfl) (hd 75 rfl) ?_
      refine jo_l (ly_mv rfl) (hd 76 rfl) ?_
      refine jo_l (ly_mv rfl) (hd 77 rfl) ?_
      refine jo_l (ly_mv rfl) (hd 78 rfl) ?_
      refine jo_l (ly_sls und9 rfl (bnd_some' rfl (by first | rfl | omega)) (bnd_some' rfl (by first | rfl | omega)) (by omega) (by omega)) (hd 79 rfl) ?_
      refine jo_l (ly_mv rfl) (hd 80 rfl) ?_
      refine jo_l (ly_build (is := [0, 1, 2]) (xs := [.tmp 75, .tmp 79, .tmp 80]) zero30 pls30_0_1_2 rfl (ovL_cons rfl (ovL_cons rfl (ovL_cons rfl ovL_nil))) rfl (by first | (simp [plsOk, cellsV]; done) | (simp [plsOk, cellsV, old]; done)) (all_of rfl) rfl) (hd 81 rfl) ?_
      refine jo_l (ly_mv rfl) (hd 82 rfl) ?_
      refine jo_st (sy_store rfl rfl rfl siz30 rfl rfl (Nat.le_of_ble_eq_true rfl)) ?_
      refine jo_l (ly_as rfl) (hd 7 rfl) ?_
      refine jo_l (ly_as rfl) (hd 8 rfl) ?_
      refine jo_nil ?_
      refine jc_ret ?_
      refine ⟨_, _, (.cons (ResV.cell agg30 rfl rfl rfl rfl) (.cons rfl (.cons rfl .nil))), (.t1 (.a1 .i (.a1 .s (.a1 .i .a0))) (.t1 .i (.t1 .b .t0))), ?_⟩
      rw [nx_sign hj (by omega) (by assumption)]
      rfl
    · refine jc_seq ?_
      refine jc_region ?_
      refine jo_l (ly_eq rfl rfl) (hd 37 rfl) ?_
      refine jo_l (ly_as rfl) (hd 36 rfl) ?_
      refine jo_nil ?_
      refine jc_if rfl (fun h3 => ?_) (fun h3 => ?_)
      · refine jc_region ?_
        refine jo_l (ly_mv rfl) (hd 38 rfl) ?_
        refine jo_l (ly_mv rfl) (hd 39 rfl) ?_
        refine jo_l (ly_mv rfl) (hd 40 rfl) ?_
        refine jo_call Try.f42 (run_s s j 3 hjle hs) rfl Try.func42 rfl rfl (ovL_cons rfl (ovL_cons rfl (ovL_cons rfl (ovL_cons rfl ovL_nil)))) (.cons .q (.cons .s (.cons .i (.cons .i .nil)))) (hd 41 rfl) ?_ (fun ch hp => by simp at hp)
        rintro y hy; injection hy with hy; subst hy
        refine jo_l (ly_as rfl) (hd 10 rfl) ?_
        refine jo_l (ly_as rfl) (hd 11 rfl) ?_
        refine jo_nil ?_
        refine jc_seq ?_
        refine jc_region ?_
        refine jo_l (ly_mv rfl) (hd 75 rfl) ?_
        refine jo_l (ly_mv rfl) (hd 76 rfl) ?_
        refine jo_l (ly_mv rfl) (hd 77 rfl) ?_
        refine jo_l (ly_mv rfl) (hd 78 rfl) ?_
        refine jo_l (ly_sls und9 rfl (bnd_some' rfl (by first | rfl | omega)) (bnd_some' rfl (by first | rfl | omega)) (by omega) (by omega)) (hd 79 rfl) ?_
        refine jo_l (ly_mv rfl) (hd 80 rfl) ?_
        refine jo_l (ly_build (is := [0, 1, 2]) (xs := [.tmp 75, .tmp 79, .tmp 80]) zero30 pls30_0_1_2 rfl (ovL_cons rfl (ovL_cons rfl (ovL_cons rfl ovL_nil))) rfl (by first | (simp [plsOk, cellsV]; done) | (simp [plsOk, cellsV, old]; done)) (all_of rfl) rfl) (hd 81 rfl) ?_
        refine jo_l (ly_mv rfl) (hd 82 rfl) ?_
        refine jo_st (sy_store rfl rfl rfl siz30 rfl rfl (Nat.le_of_ble_eq_true rfl)) ?_
        refine jo_l (ly_as rfl) (hd 7 rfl) ?_
        refine jo_l (ly_as rfl) (hd 8 rfl) ?_
        refine jo_nil ?_
        refine jc_ret ?_
        refine ⟨_, _, (.cons (ResV.cell agg30 rfl rfl rfl rfl) (.cons rfl (.cons rfl .nil))), (.t1 (.a1 .i (.a1 .s (.a1 .i .a0))) (.t1 .i (.t1 .b .t0))), ?_⟩
        rw [nx_word hj (by omega) (by assumption)]
        rfl
      · refine jc_seq ?_
        refine jc_region ?_
        refine jo_l (ly_eq rfl rfl) (hd 43 rfl) ?_
        refine jo_l (ly_as rfl) (hd 42 rfl) ?_
        refine jo_nil ?_
        refine jc_if rfl (fun h4 => ?_) (fun h4 => ?_)
        · refine jc_seq ?_
          refine jc_region ?_
          refine jo_l (ly_mv rfl) (hd 44 rfl) ?_
          refine jo_l (ly_mv rfl) (hd 45 rfl) ?_
          refine jo_l (ly_mv rfl) (hd 46 rfl) ?_
          refine jo_call Try.f42 (run_s s j 2 hjle hs) rfl Try.func42 rfl rfl (ovL_cons rfl (ovL_cons rfl (ovL_cons rfl (ovL_cons rfl ovL_nil)))) (.cons .q (.cons .s (.cons .i (.cons .i .nil)))) (hd 47 rfl) ?_ (fun ch hp => by simp at hp)
          rintro y hy; injection hy with hy; subst hy
          refine jo_l (ly_as rfl) (hd 10 rfl) ?_
          refine jo_l (ly_as rfl) (hd 11 rfl) ?_
          refine jo_nil ?_
          refine jc_seq ?_
          refine jc_draw (n := 22) _ rfl mixed ?_
          refine ja_l 0 (lo_l (ly_mv rfl) (hd 48 rfl)) rfl (by kernel_rfl) (by kernel_rfl) (by kernel_rfl) (fun _ _ _ _ h => h) ?_
          refine ja_l 1 (lo_l (ly_add rfl rfl (r := ((runN s 2 j + 1 : Nat) : Int)) (by rw [wrap_i64 (by omega) (by omega)]; omega)) (hd 49 rfl)) rfl (by kernel_rfl) (by kernel_rfl) (by kernel_rfl) (fun _ _ _ _ h => h) ?_
          refine ja_l 2 (lo_l (ly_mv rfl) (hd 50 rfl)) rfl (by kernel_rfl) (by kernel_rfl) (by kernel_rfl) (fun _ _ _ _ h => h) ?_
          refine ja_l 3 (lo_l (ly_lens und9 rfl) (hd 51 rfl)) rfl (by kernel_rfl) (by kernel_rfl) (by kernel_rfl) (fun _ _ _ _ h => h) ?_
          refine ja_l 4 (lo_l (ly_lt rfl rfl) (hd 52 rfl)) rfl (by kernel_rfl) (by kernel_rfl) (by kernel_rfl) (fun _ _ _ _ h => h) ?_
          refine ja_l 5 (lo_l (ly_mv rfl) (hd 53 rfl)) rfl (by kernel_rfl) (by kernel_rfl) (by kernel_rfl) (fun _ _ _ _ h => h) ?_
          refine ja_ifp 53 rfl (fun h5 => ?_) (fun h5 => ?_)
          · refine ja_l 6 (lo_g 53 rfl rfl (ly_mv rfl) (hd 54 rfl)) rfl (by kernel_rfl) (by kernel_rfl) (by kernel_rfl) (fun _ _ _ _ h => h) ?_
            refine ja_l 7 (lo_g 53 rfl rfl (ly_mv rfl) (hd 55 rfl)) rfl (by kernel_rfl) (by kernel_rfl) (by kernel_rfl) (fun _ _ _ _ h => h) ?_
            refine ja_l 8 (lo_g 53 rfl rfl (ly_ixs (i := runN s 2 j) und9 rfl rfl (by first | rfl | omega) (by omega)) (hd 56 rfl)) rfl (by kernel_rfl) (by kernel_rfl) (by kernel_rfl) (fun _ _ _ _ h => h) ?_
            refine ja_l 9 (lo_g 53 rfl rfl (ly_eq rfl rfl) (hd 57 rfl)) rfl (by kernel_rfl) (by kernel_rfl) (by kernel_rfl) (fun _ _ _ _ h => h) ?_
            refine ja_l 10 (lo_l (ly_pick_t rfl rfl) (hd 58 rfl)) rfl (by kernel_rfl) (by kernel_rfl) (by kernel_rfl) (fun _ _ _ _ h => h) ?_
            refine ja_l 11 (lo_l (ly_mv rfl) (hd 59 rfl)) rfl (by kernel_rfl) (by kernel_rfl) (by kernel_rfl) (fun _ _ _ _ h => h) ?_
            refine ja_ifp 59 rfl (fun h6 => ?_) (fun h6 => ?_)
            · refine ja_l 12 (lo_g 59 rfl rfl (ly_mv rfl) (hd 60 rfl)) rfl (by kernel_rfl) (by kernel_rfl) (by kernel_rfl) (fun _ _ _ _ h => h) ?_
              refine ja_l 13 (lo_g 59 rfl rfl (ly_mv rfl) (hd 61 rfl)) rfl (by kernel_rfl) (by kernel_rfl) (by kernel_rfl) (fun _ _ _ _ h => h) ?_
              refine ja_l 14 (lo_g 59 rfl rfl (ly_mv rfl) (hd 62 rfl)) rfl (by kernel_rfl) (by kernel_rfl) (by kernel_rfl) (fun _ _ _ _ h => h) ?_
              refine ja_l 15 (lo_g 59 rfl rfl (ly_add rfl rfl (r := ((runN s 2 j + 1 : Nat) : Int)) (by rw [wrap_i64 (by omega) (by omega)]; omega)) (hd 63 rfl)) rfl (by kernel_rfl) (by kernel_rfl) (by kernel_rfl) (fun _ _ _ _ h => h) ?_
              refine ja_l 16 (lo_g 59 rfl rfl (ly_ixs (i := (runN s 2 j + 1)) und9 rfl rfl (by first | rfl | omega) (by omega)) (hd 64 rfl)) rfl (by kernel_rfl) (by kernel_rfl) (by kernel_rfl) (fun _ _ _ _ h => h) ?_
              refine ja_l 17 (lo_g 59 rfl rfl (ly_nilq rfl) (hd 65 rfl)) rfl (by kernel_rfl) (by kernel_rfl) (by kernel_rfl) (fun _ _ _ _ h => h) ?_
              refine ja_l 18 (lo_g 59 rfl rfl (ly_iaq (i := (byteAt s (runN s 2 j + 1)).toNat) ar63 rfl rfl (by have := byteAt_range s (runN s 2 j + 1); omega) (by have := byteAt_range s (runN s 2 j + 1); omega) rfl) (hd 66 rfl)) rfl (by kernel_rfl) (by kernel_rfl) (by kernel_rfl) (fun _ _ _ _ h => h) ?_
              refine ja_l 19 (lo_g 59 rfl rfl (ly_ldqz one62 rfl (tbl_at (byteAt_range s (runN s 2 j + 1)).1 (byteAt_range s (runN s 2 j + 1)).2) rfl) (hd 67 rfl)) rfl (by kernel_rfl) (by kernel_rfl) (by kernel_rfl) (fun _ _ _ _ h => h) ?_
              refine ja_l 20 (lo_g 59 rfl rfl (ly_eq rfl rfl) (hd 68 rfl)) rfl (by kernel_rfl) (by kernel_rfl) (by kernel_rfl) (fun _ _ _ _ h => h) ?_
              refine ja_l 21 (lo_l (ly_pick_t rfl rfl) (hd 69 rfl)) rfl (by kernel_rfl) (by kernel_rfl) (by kernel_rfl) (fun _ _ _ _ h => h) ?_
              refine ja_nil (by kernel_rfl) ?_
              refine jc_if rfl (fun h7 => ?_) (fun h7 => ?_)
              · have g4 := runN_ge s 2 (runN s 2 j + 1)
                have l4 := runN_le s 2 (runN s 2 j + 1) (by omega)
                refine jc_region ?_
                refine jo_l (ly_mv rfl) (hd 70 rfl) ?_
                refine jo_l (ly_mv rfl) (hd 71 rfl) ?_
                refine jo_l (ly_mv rfl) (hd 72 rfl) ?_
                refine jo_l (ly_add rfl rfl (r := ((runN s 2 j + 1 : Nat) : Int)) (by rw [wrap_i64 (by omega) (by omega)]; omega)) (hd 73 rfl) ?_
                refine jo_call Try.f42 (run_s s (runN s 2 j + 1) 2 (by omega) hs) rfl Try.func42 rfl rfl (ovL_cons rfl (ovL_cons rfl (ovL_cons rfl (ovL_cons rfl ovL_nil)))) (.cons .q (.cons .s (.cons .i (.cons .i .nil)))) (hd 74 rfl) ?_ (fun ch hp => by simp at hp)
                rintro y hy; injection hy with hy; subst hy
                refine jo_l (ly_as rfl) (hd 10 rfl) ?_
                refine jo_nil ?_
                refine jc_seq ?_
                refine jc_region ?_
                refine jo_l (ly_mv rfl) (hd 75 rfl) ?_
                refine jo_l (ly_mv rfl) (hd 76 rfl) ?_
                refine jo_l (ly_mv rfl) (hd 77 rfl) ?_
                refine jo_l (ly_mv rfl) (hd 78 rfl) ?_
                refine jo_l (ly_sls und9 rfl (bnd_some' rfl (by first | rfl | omega)) (bnd_some' rfl (by first | rfl | omega)) (by omega) (by omega)) (hd 79 rfl) ?_
                refine jo_l (ly_mv rfl) (hd 80 rfl) ?_
                refine jo_l (ly_build (is := [0, 1, 2]) (xs := [.tmp 75, .tmp 79, .tmp 80]) zero30 pls30_0_1_2 rfl (ovL_cons rfl (ovL_cons rfl (ovL_cons rfl ovL_nil))) rfl (by first | (simp [plsOk, cellsV]; done) | (simp [plsOk, cellsV, old]; done)) (all_of rfl) rfl) (hd 81 rfl) ?_
                refine jo_l (ly_mv rfl) (hd 82 rfl) ?_
                refine jo_st (sy_store rfl rfl rfl siz30 rfl rfl (Nat.le_of_ble_eq_true rfl)) ?_
                refine jo_l (ly_as rfl) (hd 7 rfl) ?_
                refine jo_l (ly_as rfl) (hd 8 rfl) ?_
                refine jo_nil ?_
                refine jc_ret ?_
                refine ⟨_, _, (.cons (ResV.cell agg30 rfl rfl rfl rfl) (.cons rfl (.cons rfl .nil))), (.t1 (.a1 .i (.a1 .s (.a1 .i .a0))) (.t1 .i (.t1 .b .t0))), ?_⟩
                rw [nx_num hj (by omega) (by assumption) (numEnd_dot (by omega) (by assumption) (by assumption))]
                rfl
              · refine jc_skip ?_
                refine jc_seq ?_
                refine jc_region ?_
                refine jo_l (ly_mv rfl) (hd 75 rfl) ?_
                refine jo_l (ly_mv rfl) (hd 76 rfl) ?_
                refine jo_l (ly_mv rfl) (hd 77 rfl) ?_
                refine jo_l (ly_mv rfl) (hd 78 rfl) ?_
                refine jo_l (ly_sls und9 rfl (bnd_some' rfl (by first | rfl | omega)) (bnd_some' rfl (by first | rfl | omega)) (by omega) (by omega)) (hd 79 rfl) ?_
                refine jo_l (ly_mv rfl) (hd 80 rfl) ?_
                refine jo_l (ly_build (is := [0, 1, 2]) (xs := [.tmp 75, .tmp 79, .tmp 80]) zero30 pls30_0_1_2 rfl (ovL_cons rfl (ovL_cons rfl (ovL_cons rfl ovL_nil))) rfl (by first | (simp [plsOk, cellsV]; done) | (simp [plsOk, cellsV, old]; done)) (all_of rfl) rfl) (hd 81 rfl) ?_
                refine jo_l (ly_mv rfl) (hd 82 rfl) ?_
                refine jo_st (sy_store rfl rfl rfl siz30 rfl rfl (Nat.le_of_ble_eq_true rfl)) ?_
                refine jo_l (ly_as rfl) (hd 7 rfl) ?_
                refine jo_l (ly_as rfl) (hd 8 rfl) ?_
                refine jo_nil ?_
                refine jc_ret ?_
                refine ⟨_, _, (.cons (ResV.cell agg30 rfl rfl rfl rfl) (.cons rfl (.cons rfl .nil))), (.t1 (.a1 .i (.a1 .s (.a1 .i .a0))) (.t1 .i (.t1 .b .t0))), ?_⟩
                rw [nx_num hj (by omega) (by assumption) (numEnd_no (by rintro ⟨a, b, c⟩; first | omega | (simp_all; done)))]
                rfl
            · refine ja_l 12 (lo_s 59 rfl rfl rfl (hd 60 rfl)) rfl (by kernel_rfl) (by kernel_rfl) (by kernel_rfl) (fun _ _ _ _ h => h) ?_
              refine ja_l 13 (lo_s 59 rfl rfl rfl (hd 61 rfl)) rfl (by kernel_rfl) (by kernel_rfl) (by kernel_rfl) (fun _ _ _ _ h => h) ?_
              refine ja_l 14 (lo_s 59 rfl rfl rfl (hd 62 rfl)) rfl (by kernel_rfl) (by kernel_rfl) (by kernel_rfl) (fun _ _ _ _ h => h) ?_
              refine ja_l 15 (lo_s 59 rfl rfl rfl (hd 63 rfl)) rfl (by kernel_rfl) (by kernel_rfl) (by kernel_rfl) (fun _ _ _ _ h => h) ?_
              refine ja_l 16 (lo_s 59 rfl rfl rfl (hd 64 rfl)) rfl (by kernel_rfl) (by kernel_rfl) (by kernel_rfl) (fun _ _ _ _ h => h) ?_
              refine ja_l 17 (lo_s 59 rfl rfl rfl (hd 65 rfl)) rfl (by kernel_rfl) (by kernel_rfl) (by kernel_rfl) (fun _ _ _ _ h => h) ?_
              refine ja_l 18 (lo_s 59 rfl rfl rfl (hd 66 rfl)) rfl (by kernel_rfl) (by kernel_rfl) (by kernel_rfl) (fun _ _ _ _ h => h) ?_
              refine ja_l 19 (lo_s 59 rfl rfl rfl (hd 67 rfl)) rfl (by kernel_rfl) (by kernel_rfl) (by kernel_rfl) (fun _ _ _ _ h => h) ?_
              refine ja_l 20 (lo_s 59 rfl rfl rfl (hd 68 rfl)) rfl (by kernel_rfl) (by kernel_rfl) (by kernel_rfl) (fun _ _ _ _ h => h) ?_
              refine ja_l 21 (lo_l (ly_pick_f rfl rfl) (hd 69 rfl)) rfl (by kernel_rfl) (by kernel_rfl) (by kernel_rfl) (fun _ _ _ _ h => h) ?_
              refine ja_nil (by kernel_rfl) ?_
              refine jc_litf rfl ?_
              refine jc_skip ?_
              refine jc_seq ?_
              refine jc_region ?_
              refine jo_l (ly_mv rfl) (hd 75 rfl) ?_
              refine jo_l (ly_mv rfl) (hd 76 rfl) ?_
              refine jo_l (ly_mv rfl) (hd 77 rfl) ?_
              refine jo_l (ly_mv rfl) (hd 78 rfl) ?_
              refine jo_l (ly_sls und9 rfl (bnd_some' rfl (by first | rfl | omega)) (bnd_some' rfl (by first | rfl | omega)) (by omega) (by omega)) (hd 79 rfl) ?_
              refine jo_l (ly_mv rfl) (hd 80 rfl) ?_
              refine jo_l (ly_build (is := [0, 1, 2]) (xs := [.tmp 75, .tmp 79, .tmp 80]) zero30 pls30_0_1_2 rfl (ovL_cons rfl (ovL_cons rfl (ovL_cons rfl ovL_nil))) rfl (by first | (simp [plsOk, cellsV]; done) | (simp [plsOk, cellsV, old]; done)) (all_of rfl) rfl) (hd 81 rfl) ?_
              refine jo_l (ly_mv rfl) (hd 82 rfl) ?_
              refine jo_st (sy_store rfl rfl rfl siz30 rfl rfl (Nat.le_of_ble_eq_true rfl)) ?_
              refine jo_l (ly_as rfl) (hd 7 rfl) ?_
              refine jo_l (ly_as rfl) (hd 8 rfl) ?_
              refine jo_nil ?_
              refine jc_ret ?_
              refine ⟨_, _, (.cons (ResV.cell agg30 rfl rfl rfl rfl) (.cons rfl (.cons rfl .nil))), (.t1 (.a1 .i (.a1 .s (.a1 .i .a0))) (.t1 .i (.t1 .b .t0))), ?_⟩
              rw [nx_num hj (by omega) (by assumption) (numEnd_no (by rintro ⟨a, b, c⟩; first | omega | (simp_all; done)))]
              rfl
          · refine ja_l 6 (lo_s 53 rfl rfl rfl (hd 54 rfl)) rfl (by kernel_rfl) (by kernel_rfl) (by kernel_rfl) (fun _ _ _ _ h => h) ?_
            refine ja_l 7 (lo_s 53 rfl rfl rfl (hd 55 rfl)) rfl (by kernel_rfl) (by kernel_rfl) (by kernel_rfl) (fun _ _ _ _ h => h) ?_
            refine ja_l 8 (lo_s 53 rfl rfl rfl (hd 56 rfl)) rfl (by kernel_rfl) (by kernel_rfl) (by kernel_rfl) (fun _ _ _ _ h => h) ?_
            refine ja_l 9 (lo_s 53 rfl rfl rfl (hd 57 rfl)) rfl (by kernel_rfl) (by kernel_rfl) (by kernel_rfl) (fun _ _ _ _ h => h) ?_
            refine ja_l 10 (lo_l (ly_pick_f rfl rfl) (hd 58 rfl)) rfl (by kernel_rfl) (by kernel_rfl) (by kernel_rfl) (fun _ _ _ _ h => h) ?_
            refine ja_l 11 (lo_l (ly_mv rfl) (hd 59 rfl)) rfl (by kernel_rfl) (by kernel_rfl) (by kernel_rfl) (fun _ _ _ _ h => h) ?_
            refine ja_l 12 (lo_s 59 rfl rfl rfl (hd 60 rfl)) rfl (by kernel_rfl) (by kernel_rfl) (by kernel_rfl) (fun _ _ _ _ h => h) ?_
            refine ja_l 13 (lo_s 59 rfl rfl rfl (hd 61 rfl)) rfl (by kernel_rfl) (by kernel_rfl) (by kernel_rfl) (fun _ _ _ _ h => h) ?_
            refine ja_l 14 (lo_s 59 rfl rfl rfl (hd 62 rfl)) rfl (by kernel_rfl) (by kernel_rfl) (by kernel_rfl) (fun _ _ _ _ h => h) ?_
            refine ja_l 15 (lo_s 59 rfl rfl rfl (hd 63 rfl)) rfl (by kernel_rfl) (by kernel_rfl) (by kernel_rfl) (fun _ _ _ _ h => h) ?_
            refine ja_l 16 (lo_s 59 rfl rfl rfl (hd 64 rfl)) rfl (by kernel_rfl) (by kernel_rfl) (by kernel_rfl) (fun _ _ _ _ h => h) ?_
            refine ja_l 17 (lo_s 59 rfl rfl rfl (hd 65 rfl)) rfl (by kernel_rfl) (by kernel_rfl) (by kernel_rfl) (fun _ _ _ _ h => h) ?_
            refine ja_l 18 (lo_s 59 rfl rfl rfl (hd 66 rfl)) rfl (by kernel_rfl) (by kernel_rfl) (by kernel_rfl) (fun _ _ _ _ h => h) ?_
            refine ja_l 19 (lo_s 59 rfl rfl rfl (hd 67 rfl)) rfl (by kernel_rfl) (by kernel_rfl) (by kernel_rfl) (fun _ _ _ _ h => h) ?_
            refine ja_l 20 (lo_s 59 rfl rfl rfl (hd 68 rfl)) rfl (by kernel_rfl) (by kernel_rfl) (by kernel_rfl) (fun _ _ _ _ h => h) ?_
            refine ja_l 21 (lo_l (ly_pick_f rfl rfl) (hd 69 rfl)) rfl (by kernel_rfl) (by kernel_rfl) (by kernel_rfl) (fun _ _ _ _ h => h) ?_
            refine ja_nil (by kernel_rfl) ?_
            refine jc_litf rfl ?_
            refine jc_skip ?_
            refine jc_seq ?_
            refine jc_region ?_
            refine jo_l (ly_mv rfl) (hd 75 rfl) ?_
            refine jo_l (ly_mv rfl) (hd 76 rfl) ?_
            refine jo_l (ly_mv rfl) (hd 77 rfl) ?_
            refine jo_l (ly_mv rfl) (hd 78 rfl) ?_
            refine jo_l (ly_sls und9 rfl (bnd_some' rfl (by first | rfl | omega)) (bnd_some' rfl (by first | rfl | omega)) (by omega) (by omega)) (hd 79 rfl) ?_
            refine jo_l (ly_mv rfl) (hd 80 rfl) ?_
            refine jo_l (ly_build (is := [0, 1, 2]) (xs := [.tmp 75, .tmp 79, .tmp 80]) zero30 pls30_0_1_2 rfl (ovL_cons rfl (ovL_cons rfl (ovL_cons rfl ovL_nil))) rfl (by first | (simp [plsOk, cellsV]; done) | (simp [plsOk, cellsV, old]; done)) (all_of rfl) rfl) (hd 81 rfl) ?_
            refine jo_l (ly_mv rfl) (hd 82 rfl) ?_
            refine jo_st (sy_store rfl rfl rfl siz30 rfl rfl (Nat.le_of_ble_eq_true rfl)) ?_
            refine jo_l (ly_as rfl) (hd 7 rfl) ?_
            refine jo_l (ly_as rfl) (hd 8 rfl) ?_
            refine jo_nil ?_
            refine jc_ret ?_
            refine ⟨_, _, (.cons (ResV.cell agg30 rfl rfl rfl rfl) (.cons rfl (.cons rfl .nil))), (.t1 (.a1 .i (.a1 .s (.a1 .i .a0))) (.t1 .i (.t1 .b .t0))), ?_⟩
            rw [nx_num hj (by omega) (by assumption) (numEnd_no (by rintro ⟨a, b, c⟩; first | omega | (simp_all; done)))]
            rfl
        · refine jc_seq ?_
          refine jc_region ?_
          refine jo_l (ly_build (is := []) (xs := []) (pls := []) zero30 pls30_ rfl ovL_nil rfl trivial (all_of rfl) rfl) (hd 32 rfl) ?_
          refine jo_l (ly_mv rfl) (hd 33 rfl) ?_
          refine jo_st (sy_store rfl rfl rfl siz30 rfl rfl (Nat.le_of_ble_eq_true rfl)) ?_
          refine jo_l (ly_as rfl) (hd 7 rfl) ?_
          refine jo_l (ly_as rfl) (hd 8 rfl) ?_
          refine jo_nil ?_
          refine jc_ret ?_
          refine ⟨_, _, (.cons (ResV.cell agg30 rfl rfl rfl rfl) (.cons rfl (.cons rfl .nil))), (.t1 (.a1 .i (.a1 .s (.a1 .i .a0))) (.t1 .i (.t1 .b .t0))), ?_⟩
          rw [nx_bad hj (by omega) (by assumption) (by assumption) (by assumption)]
          rfl
end Go.Proofs.Ytnpbpiommpgikaa.Vc
