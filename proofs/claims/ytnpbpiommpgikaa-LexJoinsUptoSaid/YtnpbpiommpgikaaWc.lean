/- The contract of lex.classes. -/
import Derived.Test.YtnpbpiommpgikaaWa
import Derived.Test.YtnpbpiommpgikaaMa
set_option linter.unusedVariables false
set_option linter.unusedSimpArgs false
namespace Go.Proofs.Ytnpbpiommpgikaa.Vc
open Go Go.RowKit
theorem classes_s  : Spec Try.prog 29 [] (fun o => o = .ret (.a tbl)) := by
  refine spec_of' [] rfl Try.func29 rfl (Nat.le_of_ble_eq_true rfl) fun Γ hN hds hL hR => ?_
  have hd : ∀ d, Nat.blt d 40 = true → d < Γ.N := fun d h => by rw [hN]; exact Nat.le_of_ble_eq_true h
  refine jc_seq ?_
  refine jc_region ?_
  refine jo_h (hy_alloc (id := 0) zero63 (by kernel_rfl) List.length_replicate (by decide) rfl) (hd 0 rfl) ?_
  refine jo_nil ?_
  refine jc_seq ?_
  refine jc_region ?_
  refine jo_h (hy_alloc (id := 1) zero63 (by kernel_rfl) List.length_replicate (by decide) rfl) (hd 1 rfl) ?_
  refine jo_nil ?_
  refine jc_seq ?_
  refine jc_seq ?_
  refine jc_H (H' := [⟨63, 256, 0, true, ints .i64 z256⟩, ⟨63, 256, 0, true, ints .i64 z256⟩]) (by rw [← z256_cV]; rfl) ?_
  refine jc_region ?_
  refine jo_h (hy_lit (id := 2) (xs := [.const (.int .u8 9), .const (.int .u8 10), .const (.int .u8 13), .const (.int .u8 32)]) el71 rfl (ovL_cons rfl (ovL_cons rfl (ovL_cons rfl (ovL_cons rfl ovL_nil)))) rfl (all2_of rfl) (by decide) rfl) (hd 8 rfl) ?_
  refine jo_frz (k := .u8) (l := blks) (l' := blks) 8 rfl rfl (by decide) rfl hL ?_
  refine jo_l (ly_lenn sl71 rfl) (hd 9 rfl) ?_
  refine jo_l (ly_mv rfl) (hd 10 rfl) ?_
  refine jo_nil ?_
  refine jc_block ?_
  refine jc_loopF (G := Nat) (fun i => i ≤ 4) (fun i => [(10, .i .i64 (i : Int)), (3, .u), (11, .u), (12, .u), (13, .u), (14, .u), (15, .u), (16, .u)]) (fun i => [⟨63, 256, 0, true, ints .i64 z256⟩, ⟨63, 256, 0, true, ints .i64 (setAll z256 (blks.take i) 1)⟩, ⟨5, 1, 0, false, []⟩]) (fun i => 4 - i) 0 ?_ ?_ rfl ?_
  · exact Nat.zero_le _
  · exact (.cons rfl (.u (.u (.u (.u (.u (.u (.u .nil))))))))
  · rintro i hC
    have hlen : blks.length = 4 := rfl
    refine jc_seq ?_
    refine jc_region ?_
    refine jo_l (ly_lt rfl rfl) (hd 11 rfl) ?_
    refine jo_nil ?_
    refine jc_seq ?_
    refine jc_if rfl (fun h1 => ?_) (fun h1 => ?_)
    · refine jc_skip ?_
      refine jc_seq ?_
      refine jc_block ?_
      refine jc_seq ?_
      refine jc_region ?_
      refine jo_l (ly_ian (i := i) sl71 rfl rfl (by first | rfl | omega) (by have e : blks.length = 4 := rfl; omega)) (hd 12 rfl) ?_
      refine jo_l (ly_ldq one5 rfl rfl) (hd 13 rfl) ?_
      refine jo_l (ly_as rfl) (hd 3 rfl) ?_
      refine jo_nil ?_
      refine jc_region ?_
      refine jo_l (ly_mv rfl) (hd 14 rfl) ?_
      refine jo_l (ly_iar (i := (blks.getD i 0).toNat) (r := (blks.getD i 0).toNat) ar63 rfl rfl rfl (by have e : blks.length = 4 := rfl; have := blks_in (i := i) (by omega); omega) (by have e : blks.length = 4 := rfl; have := blks_in (i := i) (by omega); omega) (by omega)) (hd 15 rfl) ?_
      refine jo_st (sy_storei rfl rfl rfl one62 (by have e : blks.length = 4 := rfl; have := blks_in (i := i) (by omega); simp only [setAll_length, z256_len]; omega)) ?_
      refine jo_nil ?_
      refine jc_region ?_
      refine jo_l (ly_add rfl rfl (wrap_i64 (by omega) (by omega))) (hd 16 rfl) ?_
      refine jo_l (ly_mv rfl) (hd 10 rfl) ?_
      refine jo_nil ?_
      refine ⟨i + 1, ?_, ?_, (by rw [setAll_take (show i < blks.length by omega)]; rfl), cov_n 16 rfl rfl ?_⟩
      · omega
      · omega
      · exact (.cons rfl (.u (.u (.u (.u (.u (.u (.u .nil))))))))
    · refine jc_exit ?_
      refine jc_seq ?_
      refine jc_seq ?_
      obtain rfl : i = 4 := by have e : blks.length = 4 := rfl; omega
      refine jc_region ?_
      refine jo_l (ly_as rfl) (hd 4 rfl) ?_
      refine jo_nil ?_
      refine jc_block ?_
      refine jc_loopF (G := Nat) (fun i => i ≤ 10) (fun i => [(4, .i .i32 (48 + (i : Int))), (17, .u), (18, .u), (19, .u), (20, .u), (21, .u), (22, .u)]) (fun i => [⟨63, 256, 0, true, ints .i64 z256⟩, ⟨63, 256, 0, true, ints .i64 (setAll (setAll z256 (blks.take 4) 1) (dgts.take i) 2)⟩, ⟨5, 1, 0, false, []⟩]) (fun i => 10 - i) 0 ?_ ?_ rfl ?_
      · exact Nat.zero_le _
      · exact (.cons rfl (.u (.u (.u (.u (.u (.u .nil)))))))
      · rintro i hC
        have hlen : dgts.length = 10 := rfl
        refine jc_seq ?_
        refine jc_seq ?_
        refine jc_region ?_
        refine jo_l (ly_mv rfl) (hd 17 rfl) ?_
        refine jo_l (ly_le rfl rfl) (hd 18 rfl) ?_
        refine jo_nil ?_
        refine jc_if rfl (fun h2 => ?_) (fun h2 => ?_)
        · refine jc_skip ?_
          refine jc_seq ?_
          refine jc_block ?_
          refine jc_region ?_
          refine jo_l (ly_mv rfl) (hd 21 rfl) ?_
          refine jo_l (ly_iar (i := (48 + i)) (r := (dgts.getD i 0).toNat) ar63 rfl rfl rfl (by omega) (by omega) (by have := dgts_at (i := i) (by omega); omega)) (hd 22 rfl) ?_
          refine jo_st (sy_storei rfl rfl rfl one62 (by have := dgts_at (i := i) (by omega); simp only [setAll_length, z256_len]; omega)) ?_
          refine jo_nil ?_
          refine jc_region ?_
          refine jo_l (ly_mv rfl) (hd 19 rfl) ?_
          refine jo_l (ly_add rfl rfl (wrap_i32 (by omega) (by omega))) (hd 20 rfl) ?_
          refine jo_l (ly_as rfl) (hd 4 rfl) ?_
          refine jo_nil ?_
          refine ⟨i + 1, ?_, ?_, (by rw [setAll_take (show i < dgts.length by omega)]; rfl), cov_n 14 rfl rfl ?_⟩
          · omega
          · omega
          · exact (.cons (show _ = some (V.i .i32 (48 + ((i + 1 : Nat) : Int))) from (by show some _ = some _; congr 2)) (.u (.u (.u (.u (.u (.u .nil)))))))
        · refine jc_exit ?_
          refine jc_seq ?_
          refine jc_seq ?_
          obtain rfl : i = 10 := by omega
          refine jc_region ?_
          refine jo_l (ly_as rfl) (hd 5 rfl) ?_
          refine jo_nil ?_
          refine jc_block ?_
          refine jc_loopF (G := Nat) (fun i => i ≤ 26) (fun i => [(5, .i .i32 (97 + (i : Int))), (23, .u), (24, .u), (25, .u), (26, .u), (27, .u), (28, .u)]) (fun i => [⟨63, 256, 0, true, ints .i64 z256⟩, ⟨63, 256, 0, true, ints .i64 (setAll (setAll (setAll z256 (blks.take 4) 1) (dgts.take 10) 2) (lets.take i) 3)⟩, ⟨5, 1, 0, false, []⟩]) (fun i => 26 - i) 0 ?_ ?_ rfl ?_
          · exact Nat.zero_le _
          · exact (.cons rfl (.u (.u (.u (.u (.u (.u .nil)))))))
          · rintro i hC
            have hlen : lets.length = 26 := rfl
            refine jc_seq ?_
            refine jc_seq ?_
            refine jc_region ?_
            refine jo_l (ly_mv rfl) (hd 23 rfl) ?_
            refine jo_l (ly_le rfl rfl) (hd 24 rfl) ?_
            refine jo_nil ?_
            refine jc_if rfl (fun h3 => ?_) (fun h3 => ?_)
            · refine jc_skip ?_
              refine jc_seq ?_
              refine jc_block ?_
              refine jc_region ?_
              refine jo_l (ly_mv rfl) (hd 27 rfl) ?_
              refine jo_l (ly_iar (i := (97 + i)) (r := (lets.getD i 0).toNat) ar63 rfl rfl rfl (by omega) (by omega) (by have := lets_at (i := i) (by omega); omega)) (hd 28 rfl) ?_
              refine jo_st (sy_storei rfl rfl rfl one62 (by have := lets_at (i := i) (by omega); simp only [setAll_length, z256_len]; omega)) ?_
              refine jo_nil ?_
              refine jc_region ?_
              refine jo_l (ly_mv rfl) (hd 25 rfl) ?_
              refine jo_l (ly_add rfl rfl (wrap_i32 (by omega) (by omega))) (hd 26 rfl) ?_
              refine jo_l (ly_as rfl) (hd 5 rfl) ?_
              refine jo_nil ?_
              refine ⟨i + 1, ?_, ?_, (by rw [setAll_take (show i < lets.length by omega)]; rfl), cov_n 14 rfl rfl ?_⟩
              · omega
              · omega
              · exact (.cons (show _ = some (V.i .i32 (97 + ((i + 1 : Nat) : Int))) from (by show some _ = some _; congr 2)) (.u (.u (.u (.u (.u (.u .nil)))))))
            · refine jc_exit ?_
              refine jc_seq ?_
              refine jc_seq ?_
              obtain rfl : i = 26 := by omega
              refine jc_region ?_
              refine jo_h (hy_lit (id := 3) (xs := [.const (.int .u8 40), .const (.int .u8 41), .const (.int .u8 44), .const (.int .u8 43), .const (.int .u8 45), .const (.int .u8 42), .const (.int .u8 47)]) el71 rfl (ovL_cons rfl (ovL_cons rfl (ovL_cons rfl (ovL_cons rfl (ovL_cons rfl (ovL_cons rfl (ovL_cons rfl ovL_nil))))))) rfl (all2_of rfl) (by decide) rfl) (hd 29 rfl) ?_
              refine jo_h (hy_convb (k := .u8) (l := sgns) undS71 und5 rfl rfl rfl rfl hL) (hd 30 rfl) ?_
              refine jo_l (ly_lenn sl71 rfl) (hd 31 rfl) ?_
              refine jo_l (ly_mv rfl) (hd 32 rfl) ?_
              refine jo_nil ?_
              refine jc_block ?_
              refine jc_loopF (G := Nat) (fun i => i ≤ 7) (fun i => [(32, .i .i64 (i : Int)), (7, .u), (33, .u), (34, .u), (35, .u), (36, .u), (37, .u), (38, .u)]) (fun i => [⟨63, 256, 0, true, ints .i64 z256⟩, ⟨63, 256, 0, true, ints .i64 (setAll (setAll (setAll (setAll z256 (blks.take 4) 1) (dgts.take 10) 2) (lets.take 26) 3) (sgns.take i) 4)⟩, ⟨5, 1, 0, false, []⟩, ⟨5, 1, 0, false, []⟩]) (fun i => 7 - i) 0 ?_ ?_ rfl ?_
              · exact Nat.zero_le _
              · exact (.cons rfl (.u (.u (.u (.u (.u (.u (.u .nil))))))))
              · rintro i hC
                have hlen : sgns.length = 7 := rfl
                refine jc_seq ?_
                refine jc_region ?_
                refine jo_l (ly_lt rfl rfl) (hd 33 rfl) ?_
                refine jo_nil ?_
                refine jc_seq ?_
                refine jc_if rfl (fun h4 => ?_) (fun h4 => ?_)
                · refine jc_skip ?_
                  refine jc_seq ?_
                  refine jc_block ?_
                  refine jc_seq ?_
                  refine jc_region ?_
                  refine jo_l (ly_ian (i := i) sl71 rfl rfl (by first | rfl | omega) (by have e : sgns.length = 7 := rfl; omega)) (hd 34 rfl) ?_
                  refine jo_l (ly_ldq one5 rfl rfl) (hd 35 rfl) ?_
                  refine jo_l (ly_as rfl) (hd 7 rfl) ?_
                  refine jo_nil ?_
                  refine jc_region ?_
                  refine jo_l (ly_mv rfl) (hd 36 rfl) ?_
                  refine jo_l (ly_iar (i := (sgns.getD i 0).toNat) (r := (sgns.getD i 0).toNat) ar63 rfl rfl rfl (by have e : sgns.length = 7 := rfl; have := sgns_in (i := i) (by omega); omega) (by have e : sgns.length = 7 := rfl; have := sgns_in (i := i) (by omega); omega) (by omega)) (hd 37 rfl) ?_
                  refine jo_st (sy_storei rfl rfl rfl one62 (by have e : sgns.length = 7 := rfl; have := sgns_in (i := i) (by omega); simp only [setAll_length, z256_len]; omega)) ?_
                  refine jo_nil ?_
                  refine jc_region ?_
                  refine jo_l (ly_add rfl rfl (wrap_i64 (by omega) (by omega))) (hd 38 rfl) ?_
                  refine jo_l (ly_mv rfl) (hd 32 rfl) ?_
                  refine jo_nil ?_
                  refine ⟨i + 1, ?_, ?_, (by rw [setAll_take (show i < sgns.length by omega)]; rfl), cov_n 16 rfl rfl ?_⟩
                  · omega
                  · omega
                  · exact (.cons rfl (.u (.u (.u (.u (.u (.u (.u .nil))))))))
                · refine jc_exit ?_
                  refine jc_seq ?_
                  obtain rfl : i = 7 := by have e : sgns.length = 7 := rfl; omega
                  rw [all_classes]
                  refine jc_region ?_
                  refine jo_l (ly_lda agg63 rfl rfl (takeV_all tbl_len) tbl_len) (hd 39 rfl) ?_
                  refine jo_st (sy_store rfl rfl rfl siz63 tbl_len ints_one (by simp [ints_length, z256_len])) ?_
                  refine jo_nil ?_
                  refine jc_ret ?_
                  refine ⟨_, _, .cons (ResV.cell agg63 rfl rfl (show takeV (setV (ints .i64 z256) 0 tbl) 0 256 = tbl by rw [setV_all _ _ (by rw [ints_length, z256_len, tbl_len])]; exact takeV_all tbl_len) tbl_len) .nil, retv_ints tblI, ?_⟩
                  exact rfl
end Go.Proofs.Ytnpbpiommpgikaa.Vc
