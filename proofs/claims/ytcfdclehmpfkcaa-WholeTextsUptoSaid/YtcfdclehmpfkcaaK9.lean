/- Printing a whole number, and reading a text as one, answer as the reference does; what is handed out is the caller's own. Texts joined: Qu, Qv, Qw, Qx, Sa, Sc, Se, Sf, Sg, Sh, Si, RWTexts. -/
import Derived.Test.YtcfdclehmpfkcaaK8
import Derived.Test.YtcfdclehmpfkcaaRows
import Derived.WalkKit
import Derived.ProofKit
import Derived.OpenShut
import Derived.Carry
import Derived.JoinedCond
set_option linter.unusedVariables false
set_option linter.unusedSimpArgs false
/- Contracts of whole.Print, whole.Parse. -/
namespace Go.Proofs.Ytcfdclehmpfkcaa.Vc
open Go Go.RowKit
set_option maxHeartbeats 4000000 in
theorem Parse_bad (s : ByteArray) (b : Nat) (hlb : 2 ≤ b) (hb2 : b ≤ 36) (k : Nat) (hs0 : s.size ≠ 0) (hs : s.size < 1099511627776) (hk : k < s.size) (hbad : ¬ dgv (byteAt s k) < b) : Spec Try.prog 16 [.s s, .i .i64 (b : Int)] (fun o => o = .ret (.t [.n false .u64 [], .i .i64 51])) := by
  refine spec_of' [(0, .s s), (1, .i .i64 (b : Int))] rfl Try.func16 rfl (Nat.le_of_ble_eq_true rfl) fun Γ hN hds hL hR => ?_
  have hd : ∀ d, Nat.blt d 60 = true → d < Γ.N := fun d h => by rw [hN]; exact Nat.le_of_ble_eq_true h
  refine jc_seq ?_; refine jc_region ?_; refine jo_l (ly_as rfl) (hd 4 rfl) ?_; refine jo_l (ly_as rfl) (hd 5 rfl) ?_; refine jo_nil ?_; refine jc_seq ?_; refine jc_seq ?_; refine jc_region ?_; refine jo_l (ly_mv rfl) (hd 10 rfl) ?_
  refine jo_call Try.f66 (good_y b hlb hb2) rfl Try.func66 rfl rfl (ovL_cons rfl ovL_nil) (.cons .i .nil) (hd 11 rfl) ?_ (fun ch hp => by simp at hp)
  rintro y hy; injection hy with hy; subst hy; refine jo_l (ly_not rfl) (hd 12 rfl) ?_; refine jo_nil ?_; refine jc_litf rfl ?_; refine jc_skip ?_; refine jc_seq ?_; refine jc_seq ?_; refine jc_region ?_; refine jo_l (ly_mv rfl) (hd 13 rfl) ?_; refine jo_l (ly_ff (ly_eqS rfl rfl) (fun h => hs0 (by rw [h]; rfl))) (hd 14 rfl) ?_; refine jo_nil ?_; refine jc_litf rfl ?_; refine jc_skip ?_; refine jc_seq ?_; refine jc_region ?_; refine jo_l (ly_mv rfl) (hd 15 rfl) ?_; refine jo_l (ly_lens und9 rfl) (hd 16 rfl) ?_; refine jo_h (hy_mk (m := s.size) el1039 rfl rfl rfl (by show 8 * s.size ≤ _; omega) (by unfold maxLen; omega) rfl) (hd 17 rfl) ?_; refine jo_l (ly_as rfl) (hd 6 rfl) ?_; refine jo_nil ?_; refine jc_seq ?_; refine jc_seq ?_; refine jc_H (H' := [⟨3, 1, 0, true, ints .i64 (cpI (dgs s) 0)⟩]) (by rw [← cpI_0, dgs_len]; rfl) ?_; refine jc_region ?_; refine jo_l (ly_mv rfl) (hd 18 rfl) ?_; refine jo_l (ly_lens und9 rfl) (hd 19 rfl) ?_; refine jo_l (ly_mv rfl) (hd 20 rfl) ?_; refine jo_nil ?_; refine jc_block ?_
  refine jc_loopF (G := Nat) (fun i => i ≤ k) (fun i => [(20, .i .i64 (i : Int)), (4, .u), (5, .u), (7, .u), (8, .u), (9, .u), (21, .u), (22, .u), (23, .u), (24, .u), (25, .u), (26, .u), (27, .u), (28, .u), (29, .u), (30, .u), (31, .u), (32, .u), (33, .u), (34, .u), (35, .u), (36, .u), (37, .u), (38, .u), (39, .u), (40, .u), (41, .u), (42, .u), (43, .u), (44, .u), (45, .u), (46, .u), (47, .u), (48, .u), (49, .u), (50, .u), (51, .u), (52, .u), (53, .u), (54, .u)]) (fun i => [⟨3, 1, 0, true, ints .i64 (cpI (dgs s) i)⟩]) (fun i => s.size - i) 0 ?_ ?_ rfl ?_
  · exact Nat.zero_le _
  · exact (.cons rfl (.u (.u (.u (.u (.u (.u (.u (.u (.u (.u (.u (.u (.u (.u (.u (.u (.u (.u (.u (.u (.u (.u (.u (.u (.u (.u (.u (.u (.u (.u (.u (.u (.u (.u (.u (.u (.u (.u (.u .nil))))))))))))))))))))))))))))))))))))))))
  · rintro i hi
    have hcl := cpI_len (l := dgs s) (i := i) (by rw [dgs_len]; omega)
    rw [dgs_len] at hcl
    have hbr := byteAt_range s i
    have hdr := dgv_rng hbr.1 hbr.2
    refine jc_seq ?_; refine jc_region ?_; refine jo_l (ly_lt rfl rfl) (hd 21 rfl) ?_; refine jo_nil ?_; refine jc_seq ?_
    refine jc_if rfl (fun h3 => ?_) (fun h3 => ?_)
    · refine jc_skip ?_; refine jc_seq ?_; refine jc_block ?_; refine jc_seq ?_; refine jc_region ?_; refine jo_l (ly_mv rfl) (hd 22 rfl) ?_; refine jo_l (ly_as rfl) (hd 7 rfl) ?_; refine jo_nil ?_; refine jc_seq ?_; refine jc_region ?_; refine jo_l (ly_as rfl) (hd 8 rfl) ?_; refine jo_nil ?_
      refine jc_meetH (G := Unit) (fun _ => True) (fun _ => [(7, .i .i64 (i : Int)), (8, .i .i64 (dgv (byteAt s i))), (9, .u), (23, .u), (24, .u), (25, .u), (26, .u), (27, .u), (28, .u), (29, .u), (30, .u), (31, .u), (32, .u), (33, .u), (34, .u), (35, .u), (36, .u), (37, .u), (38, .u), (39, .u), (40, .u), (41, .u), (42, .u), (43, .u), (44, .u), (45, .u), (46, .u)]) ?_ ?_
      · refine jc_seq ?_; refine jc_region ?_; refine jo_l (ly_mv rfl) (hd 23 rfl) ?_; refine jo_l (ly_mv rfl) (hd 24 rfl) ?_; refine jo_l (ly_ixs (i := i) und9 rfl rfl (by first | rfl | omega) (by omega)) (hd 25 rfl) ?_; refine jo_l (ly_as rfl) (hd 9 rfl) ?_; refine jo_nil ?_; refine jc_block ?_; refine jc_seq ?_; refine jc_region ?_; refine jo_l (ly_mv rfl) (hd 27 rfl) ?_; refine jo_l (ly_ge rfl rfl) (hd 28 rfl) ?_; refine jo_l (ly_mv rfl) (hd 29 rfl) ?_
        refine jo_ifp 29 rfl (fun h4 => ?_) (fun h4 => ?_)
        · refine jo_g 29 rfl rfl (ly_mv rfl) (hd 30 rfl) ?_; refine jo_g 29 rfl rfl (ly_le rfl rfl) (hd 31 rfl) ?_; refine jo_l (ly_pick_t rfl rfl) (hd 32 rfl) ?_; refine jo_l (ly_as rfl) (hd 26 rfl) ?_; refine jo_nil ?_
          refine jc_if rfl (fun h5 => ?_) (fun h5 => ?_)
          · refine jc_region ?_; refine jo_l (ly_mv rfl) (hd 33 rfl) ?_; refine jo_l (ly_sub rfl rfl (wrap_u8 (by omega) (by omega))) (hd 34 rfl) ?_; refine jo_l (ly_conv und5 und3 rfl (wrap_i64 (by omega) (by omega))) (hd 35 rfl) ?_; refine jo_l (ly_as rfl) (hd 8 rfl) ?_; refine jo_nil ?_
            refine ⟨(), ?_, rfl, cov_n 16 rfl rfl ?_⟩
            · trivial
            · exact (.cons rfl (.cons (by show some (V.i .i64 _) = some (V.i .i64 _); congr 1; congr 1; first | (exfalso; omega) | skip; unfold dgv; first | rw [if_pos (by omega)] | rw [if_neg (by omega), if_pos (by omega)] | rw [if_neg (by omega), if_neg (by omega)]) (.u (.u (.u (.u (.u (.u (.u (.u (.u (.u (.u (.u (.u (.u (.u (.u (.u (.u (.u (.u (.u (.u (.u (.u (.u .nil)))))))))))))))))))))))))))
          · refine jc_seq ?_; refine jc_region ?_; refine jo_l (ly_mv rfl) (hd 37 rfl) ?_; refine jo_l (ly_ge rfl rfl) (hd 38 rfl) ?_; refine jo_l (ly_mv rfl) (hd 39 rfl) ?_
            refine jo_ifp 39 rfl (fun h6 => ?_) (fun h6 => ?_)
            · refine jo_g 39 rfl rfl (ly_mv rfl) (hd 40 rfl) ?_; refine jo_g 39 rfl rfl (ly_le rfl rfl) (hd 41 rfl) ?_; refine jo_l (ly_pick_t rfl rfl) (hd 42 rfl) ?_; refine jo_l (ly_as rfl) (hd 36 rfl) ?_; refine jo_nil ?_
              refine jc_if rfl (fun h7 => ?_) (fun h7 => ?_)
              · refine jc_region ?_; refine jo_l (ly_mv rfl) (hd 43 rfl) ?_; refine jo_l (ly_sub rfl rfl (wrap_u8 (by omega) (by omega))) (hd 44 rfl) ?_; refine jo_l (ly_conv und5 und3 rfl (wrap_i64 (by omega) (by omega))) (hd 45 rfl) ?_; refine jo_l (ly_add rfl rfl (wrap_i64 (by omega) (by omega))) (hd 46 rfl) ?_; refine jo_l (ly_as rfl) (hd 8 rfl) ?_; refine jo_nil ?_
                refine ⟨(), ?_, rfl, cov_n 25 rfl rfl ?_⟩
                · trivial
                · exact (.cons rfl (.cons (by show some (V.i .i64 _) = some (V.i .i64 _); congr 1; congr 1; first | (exfalso; omega) | skip; unfold dgv; first | rw [if_pos (by omega)] | rw [if_neg (by omega), if_pos (by omega)] | rw [if_neg (by omega), if_neg (by omega)]) (.u (.u (.u (.u (.u (.u (.u (.u (.u (.u (.u (.u (.u (.u (.u (.u (.u (.u (.u (.u (.u (.u (.u (.u (.u .nil)))))))))))))))))))))))))))
              · refine jc_skip ?_
                refine ⟨(), ?_, rfl, cov_n 20 rfl rfl ?_⟩
                · trivial
                · exact (.cons rfl (.cons (by show some (V.i .i64 _) = some (V.i .i64 _); congr 1; congr 1; first | (exfalso; omega) | skip; unfold dgv; first | rw [if_pos (by omega)] | rw [if_neg (by omega), if_pos (by omega)] | rw [if_neg (by omega), if_neg (by omega)]) (.u (.u (.u (.u (.u (.u (.u (.u (.u (.u (.u (.u (.u (.u (.u (.u (.u (.u (.u (.u (.u (.u (.u (.u (.u .nil)))))))))))))))))))))))))))
            · refine jo_s 39 rfl rfl rfl (hd 40 rfl) ?_; refine jo_s 39 rfl rfl rfl (hd 41 rfl) ?_; refine jo_l (ly_pick_f rfl rfl) (hd 42 rfl) ?_; refine jo_l (ly_as rfl) (hd 36 rfl) ?_; refine jo_nil ?_; refine jc_litf rfl ?_; refine jc_skip ?_
              refine ⟨(), ?_, rfl, cov_n 20 rfl rfl ?_⟩
              · trivial
              · exact (.cons rfl (.cons (by show some (V.i .i64 _) = some (V.i .i64 _); congr 1; congr 1; first | (exfalso; omega) | skip; unfold dgv; first | rw [if_pos (by omega)] | rw [if_neg (by omega), if_pos (by omega)] | rw [if_neg (by omega), if_neg (by omega)]) (.u (.u (.u (.u (.u (.u (.u (.u (.u (.u (.u (.u (.u (.u (.u (.u (.u (.u (.u (.u (.u (.u (.u (.u (.u .nil)))))))))))))))))))))))))))
        · refine jo_s 29 rfl rfl rfl (hd 30 rfl) ?_; refine jo_s 29 rfl rfl rfl (hd 31 rfl) ?_; refine jo_l (ly_pick_f rfl rfl) (hd 32 rfl) ?_; refine jo_l (ly_as rfl) (hd 26 rfl) ?_; refine jo_nil ?_; refine jc_litf rfl ?_; refine jc_seq ?_; refine jc_region ?_; refine jo_l (ly_mv rfl) (hd 37 rfl) ?_; refine jo_l (ly_ge rfl rfl) (hd 38 rfl) ?_; refine jo_l (ly_mv rfl) (hd 39 rfl) ?_
          refine jo_ifp 39 rfl (fun h10 => ?_) (fun h10 => ?_)
          · refine jo_g 39 rfl rfl (ly_mv rfl) (hd 40 rfl) ?_; refine jo_g 39 rfl rfl (ly_le rfl rfl) (hd 41 rfl) ?_; refine jo_l (ly_pick_t rfl rfl) (hd 42 rfl) ?_; refine jo_l (ly_as rfl) (hd 36 rfl) ?_; refine jo_nil ?_
            refine jc_if rfl (fun h11 => ?_) (fun h11 => ?_)
            · refine jc_region ?_; refine jo_l (ly_mv rfl) (hd 43 rfl) ?_; refine jo_l (ly_sub rfl rfl (wrap_u8 (by omega) (by omega))) (hd 44 rfl) ?_; refine jo_l (ly_conv und5 und3 rfl (wrap_i64 (by omega) (by omega))) (hd 45 rfl) ?_; refine jo_l (ly_add rfl rfl (wrap_i64 (by omega) (by omega))) (hd 46 rfl) ?_; refine jo_l (ly_as rfl) (hd 8 rfl) ?_; refine jo_nil ?_
              refine ⟨(), ?_, rfl, cov_n 25 rfl rfl ?_⟩
              · trivial
              · exact (.cons rfl (.cons (by show some (V.i .i64 _) = some (V.i .i64 _); congr 1; congr 1; first | (exfalso; omega) | skip; unfold dgv; first | rw [if_pos (by omega)] | rw [if_neg (by omega), if_pos (by omega)] | rw [if_neg (by omega), if_neg (by omega)]) (.u (.u (.u (.u (.u (.u (.u (.u (.u (.u (.u (.u (.u (.u (.u (.u (.u (.u (.u (.u (.u (.u (.u (.u (.u .nil)))))))))))))))))))))))))))
            · refine jc_skip ?_
              refine ⟨(), ?_, rfl, cov_n 20 rfl rfl ?_⟩
              · trivial
              · exact (.cons rfl (.cons (by show some (V.i .i64 _) = some (V.i .i64 _); congr 1; congr 1; first | (exfalso; omega) | skip; unfold dgv; first | rw [if_pos (by omega)] | rw [if_neg (by omega), if_pos (by omega)] | rw [if_neg (by omega), if_neg (by omega)]) (.u (.u (.u (.u (.u (.u (.u (.u (.u (.u (.u (.u (.u (.u (.u (.u (.u (.u (.u (.u (.u (.u (.u (.u (.u .nil)))))))))))))))))))))))))))
          · refine jo_s 39 rfl rfl rfl (hd 40 rfl) ?_; refine jo_s 39 rfl rfl rfl (hd 41 rfl) ?_; refine jo_l (ly_pick_f rfl rfl) (hd 42 rfl) ?_; refine jo_l (ly_as rfl) (hd 36 rfl) ?_; refine jo_nil ?_; refine jc_litf rfl ?_; refine jc_skip ?_
            refine ⟨(), ?_, rfl, cov_n 20 rfl rfl ?_⟩
            · trivial
            · exact (.cons rfl (.cons (by show some (V.i .i64 _) = some (V.i .i64 _); congr 1; congr 1; first | (exfalso; omega) | skip; unfold dgv; first | rw [if_pos (by omega)] | rw [if_neg (by omega), if_pos (by omega)] | rw [if_neg (by omega), if_neg (by omega)]) (.u (.u (.u (.u (.u (.u (.u (.u (.u (.u (.u (.u (.u (.u (.u (.u (.u (.u (.u (.u (.u (.u (.u (.u (.u .nil)))))))))))))))))))))))))))
      · rintro _ _; refine jc_seq ?_; refine jc_seq ?_; refine jc_region ?_; refine jo_l (ly_mv rfl) (hd 47 rfl) ?_; refine jo_l (ly_mv rfl) (hd 48 rfl) ?_; refine jo_l (ly_ge rfl rfl) (hd 49 rfl) ?_; refine jo_nil ?_
        refine jc_if rfl (fun h13 => ?_) (fun h13 => ?_)
        · refine jc_seq ?_; refine jc_region ?_; refine jo_l (ly_as rfl) (hd 4 rfl) ?_; refine jo_l (ly_as rfl) (hd 5 rfl) ?_; refine jo_nil ?_; refine jc_ret ?_
          refine ⟨_, _, (.cons rfl (.cons rfl .nil)), (.t1 (.nil (fr := false) (k := .u64)) (.t1 .i .t0)), ?_⟩
          exact rfl
        · have hik : i ≠ k := fun e => hbad (by rw [← e]; omega)
          refine jc_skip ?_; refine jc_region ?_; refine jo_l (ly_mv rfl) (hd 50 rfl) ?_; refine jo_l (ly_mv rfl) (hd 51 rfl) ?_; refine jo_l (ly_mv rfl) (hd 52 rfl) ?_; refine jo_l (ly_ia (i := i) sl1039 rfl rfl rfl (by first | rfl | omega) (by omega) rfl) (hd 53 rfl) ?_; refine jo_st (sy_storei rfl rfl rfl one3 (by first | omega | (dsimp only; omega))) ?_; refine jo_nil ?_; refine jc_region ?_; refine jo_l (ly_add rfl rfl (r := ((i + 1 : Nat) : Int)) (by rw [wrap_i64 (by omega) (by omega)]; omega)) (hd 54 rfl) ?_; refine jo_l (ly_mv rfl) (hd 20 rfl) ?_; refine jo_nil ?_
          refine ⟨i + 1, ?_, ?_, (by show [(⟨3, 1, 0, true, ints .i64 _⟩ : Ob)] = [⟨3, 1, 0, true, ints .i64 _⟩]; rw [← cpI_set (by rw [dgs_len]; omega), dgs_getD (by omega)]), cov_n 80 rfl rfl ?_⟩
          · omega
          · omega
          · exact (.cons rfl (.u (.u (.u (.u (.u (.u (.u (.u (.u (.u (.u (.u (.u (.u (.u (.u (.u (.u (.u (.u (.u (.u (.u (.u (.u (.u (.u (.u (.u (.u (.u (.u (.u (.u (.u (.u (.u (.u (.u .nil))))))))))))))))))))))))))))))))))))))))
    · exfalso
      omega

set_option maxHeartbeats 4000000 in
theorem Parse_empty (b : Nat) (hlb : 2 ≤ b) (hb2 : b ≤ 36) : Spec Try.prog 16 [.s .empty, .i .i64 (b : Int)] (fun o => o = .ret (.t [.n false .u64 [], .i .i64 51])) := by
  refine spec_of' [(0, .s .empty), (1, .i .i64 (b : Int))] rfl Try.func16 rfl (Nat.le_of_ble_eq_true rfl) fun Γ hN hds hL hR => ?_
  have hd : ∀ d, Nat.blt d 60 = true → d < Γ.N := fun d h => by rw [hN]; exact Nat.le_of_ble_eq_true h
  refine jc_seq ?_; refine jc_region ?_; refine jo_l (ly_as rfl) (hd 4 rfl) ?_; refine jo_l (ly_as rfl) (hd 5 rfl) ?_; refine jo_nil ?_; refine jc_seq ?_; refine jc_seq ?_; refine jc_region ?_; refine jo_l (ly_mv rfl) (hd 10 rfl) ?_
  refine jo_call Try.f66 (good_y b hlb hb2) rfl Try.func66 rfl rfl (ovL_cons rfl ovL_nil) (.cons .i .nil) (hd 11 rfl) ?_ (fun ch hp => by simp at hp)
  rintro y hy; injection hy with hy; subst hy; refine jo_l (ly_not rfl) (hd 12 rfl) ?_; refine jo_nil ?_; refine jc_litf rfl ?_; refine jc_skip ?_; refine jc_seq ?_; refine jc_seq ?_; refine jc_region ?_; refine jo_l (ly_mv rfl) (hd 13 rfl) ?_; refine jo_l (ly_tt (ly_eqS rfl rfl) rfl) (hd 14 rfl) ?_; refine jo_nil ?_; refine jc_litt rfl ?_; refine jc_seq ?_; refine jc_region ?_; refine jo_l (ly_as rfl) (hd 4 rfl) ?_; refine jo_l (ly_as rfl) (hd 5 rfl) ?_; refine jo_nil ?_; refine jc_ret ?_
  refine ⟨_, _, (.cons rfl (.cons rfl .nil)), (.t1 (.nil (fr := false) (k := .u64)) (.t1 .i .t0)), ?_⟩
  exact rfl

set_option maxHeartbeats 4000000 in
theorem WPrint_s (s : Bool) (l : List Int) (hl : l.length ≤ 1048576) (hu : u64s l) : Spec Try.prog 39 [.a [.b s, .n false .u64 l]] (fun o => o = .ret (.s (wtxt (sv s l)))) := by
  refine spec_of' [(0, .a [.b s, .n false .u64 l])] rfl Try.func39 rfl (Nat.le_of_ble_eq_true rfl) fun Γ hN hds hL hR => ?_
  have hd : ∀ d, Nat.blt d 17 = true → d < Γ.N := fun d h => by rw [hN]; exact Nat.le_of_ble_eq_true h
  have hPr := Print_s l 10 (by omega) hu (by decide) (by decide)
  have hsz := txt_size (hdg 10 1 (vl l).toNat)
  have hdl : (hdg 10 1 (vl l).toNat).length ≤ 67108864 := by rw [hdg_le]; have h1 := digs_le_len (b := 10) hu (by decide); omega
  have hvn := vl_nonneg hu
  refine jc_seq ?_; refine jc_region ?_; refine jo_h (hy_box (id := 0) (n := 2) rfl rfl rfl (by decide) rfl) (hd 1 rfl) ?_; refine jo_l (ly_as rfl) (hd 2 rfl) ?_; refine jo_nil ?_; refine jc_seq ?_; refine jc_region ?_; refine jo_l (ly_fa fld30_1 rfl rfl rfl) (hd 6 rfl) ?_; refine jo_l (ly_ld one28 rfl rfl rfl) (hd 7 rfl) ?_
  refine jo_call Try.f21 (hPr) rfl Try.func21 rfl rfl (ovL_cons rfl (ovL_cons rfl ovL_nil)) (.cons .n (.cons .i .nil)) (hd 8 rfl) ?_ (fun ch hp => by simp at hp)
  rintro y hy; injection hy with hy; subst hy; refine jo_l (ly_mv rfl) (hd 5 rfl) ?_; refine jo_l (ly_ext rfl rfl) (hd 9 rfl) ?_; refine jo_l (ly_ext rfl rfl) (hd 10 rfl) ?_; refine jo_l (ly_as rfl) (hd 3 rfl) ?_; refine jo_l (ly_as rfl) (hd 4 rfl) ?_; refine jo_nil ?_
  refine jc_meetH (G := Unit) (fun _ => True) (fun _ => [(3, .s (wtxt (sv s l))), (11, .u), (12, .u), (13, .u), (14, .u), (15, .u)]) ?_ ?_
  · refine jc_seq ?_; refine jc_region ?_; refine jo_l (ly_lda agg30 rfl rfl rfl rfl) (hd 11 rfl) ?_
    refine jo_call Try.f83 (WSign_s s l (by omega) hu) rfl Try.func83 rfl rfl (ovL_cons rfl ovL_nil) (.cons (.a1 .b (.a1 .n .a0)) .nil) (hd 12 rfl) ?_ (fun ch hp => by simp at hp)
    rintro y hy; injection hy with hy; subst hy; refine jo_l (ly_lt rfl rfl) (hd 13 rfl) ?_; refine jo_nil ?_
    refine jc_if rfl (fun h1 => ?_) (fun h1 => ?_)
    · refine jc_region ?_; refine jo_l (ly_mv rfl) (hd 14 rfl) ?_; refine jo_l (ly_adds rfl rfl (by show ((1 + _ : Nat) : Int) ≤ 9223372036854775807; omega)) (hd 15 rfl) ?_; refine jo_l (ly_as rfl) (hd 3 rfl) ?_; refine jo_nil ?_
      refine ⟨(), ?_, rfl, cov_n 6 rfl rfl ?_⟩
      · trivial
      · exact (.cons (by show some (V.s _) = some (V.s _); exact wtxt_is hu (by first | (left; exact ⟨by assumption, rfl⟩) | (right; exact ⟨by assumption, rfl⟩))) (.u (.u (.u (.u (.u .nil))))))
    · refine jc_skip ?_
      refine ⟨(), ?_, rfl, cov_n 3 rfl rfl ?_⟩
      · trivial
      · exact (.cons (by show some (V.s _) = some (V.s _); exact wtxt_is hu (by first | (left; exact ⟨by assumption, rfl⟩) | (right; exact ⟨by assumption, rfl⟩))) (.u (.u (.u (.u (.u .nil))))))
  · rintro _ _; refine jc_seq ?_; refine jc_region ?_; refine jo_l (ly_mv rfl) (hd 16 rfl) ?_; refine jo_l (ly_as rfl) (hd 2 rfl) ?_; refine jo_nil ?_; refine jc_ret ?_
    refine ⟨_, _, (.cons rfl .nil), .s, ?_⟩
    rfl

end Go.Proofs.Ytcfdclehmpfkcaa.Vc

/- The contract of surdlaw06.WholeBack. -/
namespace Go.Proofs.Ytcfdclehmpfkcaa.Vc
open Go Go.RowKit
theorem Parse_or (t : ByteArray) (ht : t.size < 1099511627776) : (∃ l, t = txt l ∧ rng 10 l ∧ l ≠ []) ∨ Spec Try.prog 16 [.s t, .i .i64 10] (fun o => o = .ret (.t [.n false .u64 [], .i .i64 51])) := by
  by_cases h0 : t.size = 0
  · right
    have e : t = .empty := by
      obtain ⟨⟨l⟩⟩ := t
      have h1 : l.length = 0 := h0
      have h2 := List.eq_nil_of_length_eq_zero h1
      subst h2
      rfl
    subst e
    exact Parse_empty 10 (by decide) (by decide)
  · rcases digits_or t with ⟨h1, h2⟩ | ⟨k, h1, h2, h3⟩
    · exact .inl ⟨dgs t, h1.symm, h2, fun h => h0 (by rw [← dgs_len, h]; rfl)⟩
    · exact .inr (Parse_bad t 10 (by decide) (by decide) k h0 ht h1 h3)
theorem Parse_d (l : List Int) (hr : rng 10 l) (h0 : l ≠ []) (hl : l.length ≤ 1073741824) (hv9 : lenV (hv 10 l) ≤ 67108864) : Spec Try.prog 16 [.s (txt l), .i .i64 10] (fun o => o = .ret (.t [.n false .u64 (lm (hv 10 l)), .i .i64 0])) := Parse_t l 10 (by decide) (by decide) hr h0 hl hv9
theorem short2s {H : Type} {d0 : DataW H} {s : ByteArray} {r : List (DataW H)} {l0 : List Int} (hk : Rows.uptoSmall H (d0 :: .lit (.string s.data.toList) :: r) = true) (h0 : l0.length + 2 ≤ Rows.uptoBulk d0) : l0.length ≤ 1048574 ∧ s.size ≤ 1048575 := by
  have h : Rows.uptoBulkAll (d0 :: .lit (.string s.data.toList) :: r) ≤ 1048576 := of_decide_eq_true hk
  have h1 : s.data.toList.length = s.size := by rw [Array.length_toList]; rfl
  simp only [Rows.uptoBulkAll, Rows.uptoBulk] at h
  omega
end Go.Proofs.Ytcfdclehmpfkcaa.Vc

/- nat.Add with an own row. -/
namespace Go.Proofs.Ytcfdclehmpfkcaa.Vc
open Go Go.RowKit
end Go.Proofs.Ytcfdclehmpfkcaa.Vc

/- numeral.build with an own row. -/
namespace Go.Proofs.Ytcfdclehmpfkcaa.Vc
open Go Go.RowKit
end Go.Proofs.Ytcfdclehmpfkcaa.Vc

/- Contracts of surdlaw05.same, numeral.Build, surdref05.Build. -/
namespace Go.Proofs.Ytcfdclehmpfkcaa.Vc
open Go Go.RowKit
end Go.Proofs.Ytcfdclehmpfkcaa.Vc

/- Contracts of numeral.Parse with an own row, surdref05.Parse. -/
namespace Go.Proofs.Ytcfdclehmpfkcaa.Vc
open Go Go.RowKit
end Go.Proofs.Ytcfdclehmpfkcaa.Vc

/- Contracts of surdref06.Digits, Number. -/
namespace Go.Proofs.Ytcfdclehmpfkcaa.Vc
open Go Go.RowKit
set_option maxHeartbeats 4000000 in
theorem rD_y (s : ByteArray) (hs0 : s.size ≠ 0) (hs : s.size ≤ 1099511627776) (hdig : ∀ i, i < s.size → 48 ≤ byteAt s i ∧ byteAt s i ≤ 57) : Spec Try.prog 79 [.s s] (fun o => o = .ret (.b true)) := by
  refine spec_of' [(0, .s s)] rfl Try.func79 rfl (Nat.le_of_ble_eq_true rfl) fun Γ hN hds hL hR => ?_
  have hd : ∀ d, Nat.blt d 23 = true → d < Γ.N := fun d h => by rw [hN]; exact Nat.le_of_ble_eq_true h
  refine jc_seq ?_; refine jc_region ?_; refine jo_l (ly_as rfl) (hd 2 rfl) ?_; refine jo_nil ?_; refine jc_seq ?_; refine jc_seq ?_; refine jc_region ?_; refine jo_l (ly_as rfl) (hd 3 rfl) ?_; refine jo_nil ?_; refine jc_block ?_
  refine jc_loopF (G := Nat) (fun i => i ≤ s.size) (fun i => [(3, .i .i64 (i : Int)), (2, .u), (4, .u), (5, .u), (6, .u), (7, .u), (8, .u), (9, .u), (10, .u), (11, .u), (12, .u), (13, .u), (14, .u), (15, .u), (16, .u), (17, .u), (18, .u), (19, .u)]) (fun _ => _) (fun i => s.size - i) 0 ?_ ?_ rfl ?_
  · exact Nat.zero_le _
  · exact (.cons rfl (.u (.u (.u (.u (.u (.u (.u (.u (.u (.u (.u (.u (.u (.u (.u (.u (.u .nil))))))))))))))))))
  · rintro i hi; refine jc_seq ?_; refine jc_seq ?_; refine jc_region ?_; refine jo_l (ly_mv rfl) (hd 4 rfl) ?_; refine jo_l (ly_mv rfl) (hd 5 rfl) ?_; refine jo_l (ly_lens und9 rfl) (hd 6 rfl) ?_; refine jo_l (ly_lt rfl rfl) (hd 7 rfl) ?_; refine jo_nil ?_
    refine jc_if rfl (fun h1 => ?_) (fun h1 => ?_)
    · have hdi := hdig i (by omega)
      refine jc_skip ?_; refine jc_seq ?_; refine jc_block ?_; refine jc_seq ?_; refine jc_region ?_; refine jo_l (ly_mv rfl) (hd 10 rfl) ?_; refine jo_l (ly_mv rfl) (hd 11 rfl) ?_; refine jo_l (ly_ixs (i := i) und9 rfl rfl (by first | rfl | omega) (by omega)) (hd 12 rfl) ?_; refine jo_l (ly_ff (ly_lt rfl rfl) (by omega)) (hd 13 rfl) ?_; refine jo_l (ly_mv rfl) (hd 14 rfl) ?_; refine jo_g 14 rfl rfl (ly_mv rfl) (hd 15 rfl) ?_; refine jo_g 14 rfl rfl (ly_mv rfl) (hd 16 rfl) ?_; refine jo_g 14 rfl rfl (ly_ixs (i := i) und9 rfl rfl (by first | rfl | omega) (by omega)) (hd 17 rfl) ?_; refine jo_g 14 rfl rfl (ly_ff (ly_gt rfl rfl) (by omega)) (hd 18 rfl) ?_; refine jo_l (ly_pick_f rfl rfl) (hd 19 rfl) ?_; refine jo_nil ?_; refine jc_litf rfl ?_; refine jc_skip ?_; refine jc_region ?_; refine jo_l (ly_mv rfl) (hd 8 rfl) ?_; refine jo_l (ly_add rfl rfl (r := ((i + 1 : Nat) : Int)) (by rw [wrap_i64 (by omega) (by omega)]; omega)) (hd 9 rfl) ?_; refine jo_l (ly_as rfl) (hd 3 rfl) ?_; refine jo_nil ?_
      refine ⟨i + 1, ?_, ?_, rfl, cov_n 35 rfl rfl ?_⟩
      · omega
      · omega
      · exact (.cons rfl (.u (.u (.u (.u (.u (.u (.u (.u (.u (.u (.u (.u (.u (.u (.u (.u (.u .nil))))))))))))))))))
    · refine jc_exit ?_; refine jc_seq ?_; refine jc_region ?_; refine jo_l (ly_mv rfl) (hd 20 rfl) ?_; refine jo_l (ly_lens und9 rfl) (hd 21 rfl) ?_; refine jo_l (ly_tt (ly_gt rfl rfl) (by omega)) (hd 22 rfl) ?_; refine jo_l (ly_as rfl) (hd 2 rfl) ?_; refine jo_nil ?_; refine jc_ret ?_
      refine ⟨_, _, (.cons rfl .nil), .b, ?_⟩
      exact rfl

set_option maxHeartbeats 4000000 in
theorem rD_n (s : ByteArray) (k : Nat) (hs : s.size ≤ 1099511627776) (hk : k < s.size) (hbad : ¬ (48 ≤ byteAt s k ∧ byteAt s k ≤ 57)) : Spec Try.prog 79 [.s s] (fun o => o = .ret (.b false)) := by
  refine spec_of' [(0, .s s)] rfl Try.func79 rfl (Nat.le_of_ble_eq_true rfl) fun Γ hN hds hL hR => ?_
  have hd : ∀ d, Nat.blt d 23 = true → d < Γ.N := fun d h => by rw [hN]; exact Nat.le_of_ble_eq_true h
  refine jc_seq ?_; refine jc_region ?_; refine jo_l (ly_as rfl) (hd 2 rfl) ?_; refine jo_nil ?_; refine jc_seq ?_; refine jc_seq ?_; refine jc_region ?_; refine jo_l (ly_as rfl) (hd 3 rfl) ?_; refine jo_nil ?_; refine jc_block ?_
  refine jc_loopF (G := Nat) (fun i => i ≤ k) (fun i => [(3, .i .i64 (i : Int)), (2, .u), (4, .u), (5, .u), (6, .u), (7, .u), (8, .u), (9, .u), (10, .u), (11, .u), (12, .u), (13, .u), (14, .u), (15, .u), (16, .u), (17, .u), (18, .u), (19, .u)]) (fun _ => _) (fun i => s.size - i) 0 ?_ ?_ rfl ?_
  · exact Nat.zero_le _
  · exact (.cons rfl (.u (.u (.u (.u (.u (.u (.u (.u (.u (.u (.u (.u (.u (.u (.u (.u (.u .nil))))))))))))))))))
  · rintro i hi; refine jc_seq ?_; refine jc_seq ?_; refine jc_region ?_; refine jo_l (ly_mv rfl) (hd 4 rfl) ?_; refine jo_l (ly_mv rfl) (hd 5 rfl) ?_; refine jo_l (ly_lens und9 rfl) (hd 6 rfl) ?_; refine jo_l (ly_lt rfl rfl) (hd 7 rfl) ?_; refine jo_nil ?_
    refine jc_if rfl (fun h1 => ?_) (fun h1 => ?_)
    · refine jc_skip ?_; refine jc_seq ?_; refine jc_block ?_; refine jc_seq ?_; refine jc_region ?_; refine jo_l (ly_mv rfl) (hd 10 rfl) ?_; refine jo_l (ly_mv rfl) (hd 11 rfl) ?_; refine jo_l (ly_ixs (i := i) und9 rfl rfl (by first | rfl | omega) (by omega)) (hd 12 rfl) ?_; refine jo_l (ly_lt rfl rfl) (hd 13 rfl) ?_; refine jo_l (ly_mv rfl) (hd 14 rfl) ?_
      refine jo_ifp 14 rfl (fun h2 => ?_) (fun h2 => ?_)
      · refine jo_s 14 rfl rfl rfl (hd 15 rfl) ?_; refine jo_s 14 rfl rfl rfl (hd 16 rfl) ?_; refine jo_s 14 rfl rfl rfl (hd 17 rfl) ?_; refine jo_s 14 rfl rfl rfl (hd 18 rfl) ?_; refine jo_l (ly_pick_t rfl rfl) (hd 19 rfl) ?_; refine jo_nil ?_; refine jc_litt rfl ?_; refine jc_seq ?_; refine jc_region ?_; refine jo_l (ly_as rfl) (hd 2 rfl) ?_; refine jo_nil ?_; refine jc_ret ?_
        refine ⟨_, _, (.cons rfl .nil), .b, ?_⟩
        exact rfl
      · refine jo_g 14 rfl rfl (ly_mv rfl) (hd 15 rfl) ?_; refine jo_g 14 rfl rfl (ly_mv rfl) (hd 16 rfl) ?_; refine jo_g 14 rfl rfl (ly_ixs (i := i) und9 rfl rfl (by first | rfl | omega) (by omega)) (hd 17 rfl) ?_; refine jo_g 14 rfl rfl (ly_gt rfl rfl) (hd 18 rfl) ?_; refine jo_l (ly_pick_f rfl rfl) (hd 19 rfl) ?_; refine jo_nil ?_
        refine jc_if rfl (fun h4 => ?_) (fun h4 => ?_)
        · refine jc_seq ?_; refine jc_region ?_; refine jo_l (ly_as rfl) (hd 2 rfl) ?_; refine jo_nil ?_; refine jc_ret ?_
          refine ⟨_, _, (.cons rfl .nil), .b, ?_⟩
          exact rfl
        · have hik : i ≠ k := fun e => hbad (by rw [← e]; omega)
          refine jc_skip ?_; refine jc_region ?_; refine jo_l (ly_mv rfl) (hd 8 rfl) ?_; refine jo_l (ly_add rfl rfl (r := ((i + 1 : Nat) : Int)) (by rw [wrap_i64 (by omega) (by omega)]; omega)) (hd 9 rfl) ?_; refine jo_l (ly_as rfl) (hd 3 rfl) ?_; refine jo_nil ?_
          refine ⟨i + 1, ?_, ?_, rfl, cov_n 36 rfl rfl ?_⟩
          · omega
          · omega
          · exact (.cons rfl (.u (.u (.u (.u (.u (.u (.u (.u (.u (.u (.u (.u (.u (.u (.u (.u (.u .nil))))))))))))))))))
    · exfalso
      omega

set_option maxHeartbeats 4000000 in
theorem rD_e (s : ByteArray) (hs0 : s.size = 0) : Spec Try.prog 79 [.s s] (fun o => o = .ret (.b false)) := by
  refine spec_of' [(0, .s s)] rfl Try.func79 rfl (Nat.le_of_ble_eq_true rfl) fun Γ hN hds hL hR => ?_
  have hd : ∀ d, Nat.blt d 23 = true → d < Γ.N := fun d h => by rw [hN]; exact Nat.le_of_ble_eq_true h
  refine jc_seq ?_; refine jc_region ?_; refine jo_l (ly_as rfl) (hd 2 rfl) ?_; refine jo_nil ?_; refine jc_seq ?_; refine jc_seq ?_; refine jc_region ?_; refine jo_l (ly_as rfl) (hd 3 rfl) ?_; refine jo_nil ?_; refine jc_block ?_
  refine jc_loopF (G := Nat) (fun i => i ≤ s.size) (fun i => [(3, .i .i64 (i : Int)), (2, .u), (4, .u), (5, .u), (6, .u), (7, .u), (8, .u), (9, .u), (10, .u), (11, .u), (12, .u), (13, .u), (14, .u), (15, .u), (16, .u), (17, .u), (18, .u), (19, .u)]) (fun _ => _) (fun i => s.size - i) 0 ?_ ?_ rfl ?_
  · exact Nat.zero_le _
  · exact (.cons rfl (.u (.u (.u (.u (.u (.u (.u (.u (.u (.u (.u (.u (.u (.u (.u (.u (.u .nil))))))))))))))))))
  · rintro i hi; refine jc_seq ?_; refine jc_seq ?_; refine jc_region ?_; refine jo_l (ly_mv rfl) (hd 4 rfl) ?_; refine jo_l (ly_mv rfl) (hd 5 rfl) ?_; refine jo_l (ly_lens und9 rfl) (hd 6 rfl) ?_; refine jo_l (ly_lt rfl rfl) (hd 7 rfl) ?_; refine jo_nil ?_
    refine jc_if rfl (fun h1 => ?_) (fun h1 => ?_)
    · exfalso
      omega
    · refine jc_exit ?_; refine jc_seq ?_; refine jc_region ?_; refine jo_l (ly_mv rfl) (hd 20 rfl) ?_; refine jo_l (ly_lens und9 rfl) (hd 21 rfl) ?_; refine jo_l (ly_ff (ly_gt rfl rfl) (by omega)) (hd 22 rfl) ?_; refine jo_l (ly_as rfl) (hd 2 rfl) ?_; refine jo_nil ?_; refine jc_ret ?_
      refine ⟨_, _, (.cons rfl .nil), .b, ?_⟩
      exact rfl

set_option maxHeartbeats 4000000 in
theorem rNumber_s (s : ByteArray) (hr : rng 10 (dgs s)) (hs : s.size ≤ 2097152) : Spec Try.prog 81 [.s s] (fun o => o = .ret (.n false .u64 (dg (hv 10 (dgs s))))) := by
  refine spec_of' [(0, .s s)] rfl Try.func81 rfl (Nat.le_of_ble_eq_true rfl) fun Γ hN hds hL hR => ?_
  have hd : ∀ d, Nat.blt d 22 = true → d < Γ.N := fun d h => by rw [hN]; exact Nat.le_of_ble_eq_true h
  have hI : ∀ d : Int, 0 ≤ d → d ≤ 36 → Spec Try.prog 72 [.i .i64 d] (fun o => o = .ret (.n false .u64 (digs B32 d.toNat))) := fun d h1 h2 => by have h := rInt_s d (by omega) (by omega); rwa [show d = ((d.toNat : Nat) : Int) from (Int.toNat_of_nonneg h1).symm, rInt_v (by omega), ← show d = ((d.toNat : Nat) : Int) from (Int.toNat_of_nonneg h1).symm] at h
  have hln := dgs_len s
  have hdl : ∀ i, (digs B32 (hv 10 ((dgs s).take i)).toNat).length ≤ 16777216 := fun i => Nat.le_trans (digs_lenV (hv_nonneg (rng_take hr i))) (hv_fit (by decide) (by decide) (rng_take hr i) (by rw [List.length_take]; omega))
  have hbl1 : (digs B32 10).length ≤ 1 := digs_len (by decide) 1 10 (by decide)
  refine jc_seq ?_; refine jc_region ?_; refine jo_l (ly_as rfl) (hd 2 rfl) ?_; refine jo_nil ?_; refine jc_seq ?_; refine jc_region ?_; refine jo_l (ly_as rfl) (hd 3 rfl) ?_; refine jo_nil ?_; refine jc_seq ?_; refine jc_seq ?_; refine jc_region ?_; refine jo_l (ly_as rfl) (hd 4 rfl) ?_; refine jo_nil ?_; refine jc_block ?_; refine jc_nilN 3 (k := .u64) rfl ?_
  refine jc_loopF (G := Nat) (fun i => i ≤ s.size) (fun i => [(3, .n false .u64 (digs B32 (hv 10 ((dgs s).take i)).toNat)), (4, .i .i64 (i : Int)), (5, .u), (6, .u), (7, .u), (8, .u), (9, .u), (10, .u), (11, .u), (12, .u), (13, .u), (14, .u), (15, .u), (16, .u), (17, .u), (18, .u), (19, .u), (20, .u)]) (fun _ => _) (fun i => s.size - i) 0 ?_ ?_ rfl ?_
  · exact Nat.zero_le _
  · exact (.cons (by show some (V.n _ _ _) = some (V.n _ _ _); rw [List.take_zero, hv_nil, show (0 : Int).toNat = 0 from rfl, digs_0]) (.cons rfl (.u (.u (.u (.u (.u (.u (.u (.u (.u (.u (.u (.u (.u (.u (.u (.u .nil))))))))))))))))))
  · rintro i hi
    have hx := rng_getD (by decide) hr i
    have hdi := hdl i
    have hdj := hdl (i + 1)
    refine jc_seq ?_; refine jc_seq ?_; refine jc_region ?_; refine jo_l (ly_mv rfl) (hd 5 rfl) ?_; refine jo_l (ly_mv rfl) (hd 6 rfl) ?_; refine jo_l (ly_lens und9 rfl) (hd 7 rfl) ?_; refine jo_l (ly_lt rfl rfl) (hd 8 rfl) ?_; refine jo_nil ?_
    refine jc_if rfl (fun h1 => ?_) (fun h1 => ?_)
    · have hst := hv_nat (b := 10) hr (i := i) (by omega)
      have hmu : (digs B32 ((hv 10 ((dgs s).take i)).toNat * 10)).length ≤ 16777216 := Nat.le_trans (digs_mono (by decide) _ _ (by rw [hst]; omega)) hdj
      have hdd : (digs B32 ((dgs s).getD i 0).toNat).length ≤ 1 := digs_len (by decide) 1 _ (by show _ < 4294967296 ^ 1; omega)
      have hgd := dgs_getD (s := s) (i := i) (by omega)
      have hbr := byteAt_range s i
      have hb10 := dgv_10 hbr.1 hbr.2 (by omega)
      have hbv := dgv_of10 hb10.1 hb10.2
      refine jc_skip ?_; refine jc_seq ?_; refine jc_block ?_; refine jc_draw (n := 11) _ rfl mixed ?_; refine ja_l2 0 [2, 8, 9, 10] (lo_l (ly_mv rfl) (hd 11 rfl)) rfl (by kernel_rfl) (by kernel_rfl) (by kernel_rfl) (by kernel_rfl) (fun _ _ _ _ h => h) ?_; refine ja_l2 3 [5, 6, 7, 8, 9, 10] (lo_l (ly_mv rfl) (hd 14 rfl)) rfl (by kernel_rfl) (by kernel_rfl) (by kernel_rfl) (by kernel_rfl) (fun _ _ _ _ h => h) ?_; refine ja_l2 4 [5, 6, 7, 8, 9, 10] (lo_l (ly_mv rfl) (hd 15 rfl)) rfl (by kernel_rfl) (by kernel_rfl) (by kernel_rfl) (by kernel_rfl) (fun _ _ _ _ h => h) ?_; refine ja_l2 5 [6, 7, 8, 9, 10] (lo_l (ly_ixs (i := i) und9 rfl rfl (by first | rfl | omega) (by omega)) (hd 16 rfl)) rfl (by kernel_rfl) (by kernel_rfl) (by kernel_rfl) (by kernel_rfl) (fun _ _ _ _ h => h) ?_; refine ja_l2 6 [7, 8, 9, 10] (lo_l (ly_sub rfl rfl (r := (dgs s).getD i 0) (by rw [hgd, hbv]; exact wrap_u8 (by omega) (by omega))) (hd 17 rfl)) rfl (by kernel_rfl) (by kernel_rfl) (by kernel_rfl) (by kernel_rfl) (fun _ _ _ _ h => h) ?_; refine ja_l2 7 [8, 9, 10] (lo_l (ly_conv und5 und3 rfl (r := (dgs s).getD i 0) (wrap_i64 (by omega) (by omega))) (hd 18 rfl)) rfl (by kernel_rfl) (by kernel_rfl) (by kernel_rfl) (by kernel_rfl) (fun _ _ _ _ h => h) ?_
      refine ja_1 1 ?_ rfl (by kernel_rfl)
      refine js_call Try.f72 (hI 10 (by decide) (by decide)) rfl Try.func72 rfl rfl (ovL_cons rfl ovL_nil) (.cons .i .nil) (hd 12 rfl) ?_ (fun ch hp => by simp at hp)
      rintro y hy; injection hy with hy; subst hy
      refine ja_1 2 ?_ rfl (by kernel_rfl)
      refine js_call Try.f74 (rMul_s (hv 10 ((dgs s).take i)).toNat 10 (by omega) (by omega)) rfl Try.func74 rfl rfl (ovL_cons rfl (ovL_cons rfl ovL_nil)) (.cons .n (.cons .n .nil)) (hd 13 rfl) ?_ (fun ch hp => by simp at hp)
      rintro y hy; injection hy with hy; subst hy
      refine ja_1 8 ?_ rfl (by kernel_rfl)
      refine js_call Try.f72 (hI ((dgs s).getD i 0) hx.1 (by omega)) rfl Try.func72 rfl rfl (ovL_cons rfl ovL_nil) (.cons .i .nil) (hd 19 rfl) ?_ (fun ch hp => by simp at hp)
      rintro y hy; injection hy with hy; subst hy
      refine ja_1 9 ?_ rfl (by kernel_rfl)
      refine js_call Try.f73 (rAdd_s ((hv 10 ((dgs s).take i)).toNat * 10) ((dgs s).getD i 0).toNat (by omega) (by omega)) rfl Try.func73 rfl rfl (ovL_cons rfl (ovL_cons rfl ovL_nil)) (.cons .n (.cons .n .nil)) (hd 20 rfl) ?_ (fun ch hp => by simp at hp)
      rintro y hy; injection hy with hy; subst hy; refine ja_l 10 (lo_l (ly_as rfl) (hd 3 rfl)) rfl (by kernel_rfl) (by kernel_rfl) (by kernel_rfl) (fun _ _ _ _ h => h) ?_; refine ja_nil (by kernel_rfl) ?_; refine jc_region ?_; refine jo_l (ly_mv rfl) (hd 9 rfl) ?_; refine jo_l (ly_add rfl rfl (r := ((i + 1 : Nat) : Int)) (by rw [wrap_i64 (by omega) (by omega)]; omega)) (hd 10 rfl) ?_; refine jo_l (ly_as rfl) (hd 4 rfl) ?_; refine jo_nil ?_
      refine ⟨i + 1, ?_, ?_, rfl, cov_n 36 rfl rfl ?_⟩
      · omega
      · omega
      · exact (.cons (by show some (V.n _ _ _) = some (V.n _ _ _); rw [hst]) (.cons rfl (.u (.u (.u (.u (.u (.u (.u (.u (.u (.u (.u (.u (.u (.u (.u (.u .nil))))))))))))))))))
    · refine jc_exit ?_; refine jc_seq ?_; refine jc_region ?_; refine jo_l (ly_mv rfl) (hd 21 rfl) ?_; refine jo_l (ly_as rfl) (hd 2 rfl) ?_; refine jo_nil ?_; refine jc_ret ?_
      refine ⟨_, _, (.cons rfl .nil), .nn, ?_⟩
      rw [List.take_of_length_le (by omega), digs_dg (hv_nonneg hr)]
end Go.Proofs.Ytcfdclehmpfkcaa.Vc

/- Contract of surdref06.Parse. -/
namespace Go.Proofs.Ytcfdclehmpfkcaa.Vc
open Go Go.RowKit
set_option maxHeartbeats 4000000 in
theorem rParse6_mk (t : ByteArray) (hsz : ((⟨#[45]⟩ : ByteArray) ++ t).size ≤ 1048576) (hD : Spec Try.prog 79 [.s t] (fun o => o = .ret (.b true))) (n : Nat) (hNum : Spec Try.prog 81 [.s t] (fun o => o = .ret (.n false .u64 (digs B32 n)))) : Spec Try.prog 37 [.s ((⟨#[45]⟩ : ByteArray) ++ t)] (fun o => o = .ret (.t [.a [.b (decide ((zs true n) < 0)), .n false .u64 (dg (zs true n))], .i .i64 0])) := by
  refine spec_of' [(0, .s ((⟨#[45]⟩ : ByteArray) ++ t))] rfl Try.func37 rfl (Nat.le_of_ble_eq_true rfl) fun Γ hN hds hL hR => ?_
  have hd : ∀ d, Nat.blt d 38 = true → d < Γ.N := fun d h => by rw [hN]; exact Nat.le_of_ble_eq_true h
  have hone := one_size 45 t
  have hb0' : byteAt ((⟨#[45]⟩ : ByteArray) ++ t) 0 = 45 := byte0 45 t
  refine jc_seq ?_; refine jc_region ?_; refine jo_h (hy_alloc (id := 0) zero35 (by decide) rfl (by decide) rfl) (hd 2 rfl) ?_; refine jo_l (ly_as rfl) (hd 3 rfl) ?_; refine jo_nil ?_; refine jc_seq ?_; refine jc_seq ?_; refine jc_region ?_; refine jo_l (ly_mv rfl) (hd 5 rfl) ?_; refine jo_l (ly_lens und9 rfl) (hd 6 rfl) ?_; refine jo_l (ly_ff (ly_gt rfl rfl) (by have := hsz; omega)) (hd 7 rfl) ?_; refine jo_nil ?_; refine jc_litf rfl ?_; refine jc_skip ?_; refine jc_seq ?_; refine jc_region ?_; refine jo_l (ly_mv rfl) (hd 9 rfl) ?_; refine jo_l (ly_lens und9 rfl) (hd 10 rfl) ?_; refine jo_l (ly_tt (ly_gt rfl rfl) (by omega)) (hd 11 rfl) ?_; refine jo_l (ly_mv rfl) (hd 12 rfl) ?_; refine jo_g 12 rfl rfl (ly_mv rfl) (hd 13 rfl) ?_; refine jo_g 12 rfl rfl (ly_ixs (i := 0) und9 rfl rfl (by first | rfl | omega) (by omega)) (hd 14 rfl) ?_; refine jo_g 12 rfl rfl (ly_tt (ly_eq rfl rfl) (by omega)) (hd 15 rfl) ?_; refine jo_l (ly_pick_t rfl rfl) (hd 16 rfl) ?_; refine jo_l (ly_as rfl) (hd 4 rfl) ?_; refine jo_nil ?_; refine jc_seq ?_; refine jc_seq ?_; refine jc_region ?_; refine jo_l (ly_mv rfl) (hd 17 rfl) ?_; refine jo_l (ly_mv rfl) (hd 18 rfl) ?_; refine jo_s 18 rfl rfl rfl (hd 19 rfl) ?_; refine jo_s 18 rfl rfl rfl (hd 20 rfl) ?_; refine jo_s 18 rfl rfl rfl (hd 21 rfl) ?_; refine jo_s 18 rfl rfl rfl (hd 22 rfl) ?_; refine jo_s' 22 rfl rfl (hd 23 rfl) ?_; refine jo_s' 22 rfl rfl (hd 24 rfl) ?_; refine jo_s' 22 rfl rfl (hd 25 rfl) ?_; refine jo_s 18 rfl rfl rfl (hd 26 rfl) ?_; refine jo_l (ly_pick_t rfl rfl) (hd 27 rfl) ?_; refine jo_nil ?_; refine jc_litt rfl ?_; refine jc_region ?_; refine jo_l (ly_mv rfl) (hd 28 rfl) ?_; refine jo_l (ly_is (ly_sls und9 rfl (bnd_some' (n := 1) rfl rfl) bnd_none (by omega) (by omega)) (show V.s _ = V.s t from congrArg V.s (ext1 45 t))) (hd 29 rfl) ?_; refine jo_l (ly_as rfl) (hd 0 rfl) ?_; refine jo_nil ?_; refine jc_seq ?_; refine jc_seq ?_; refine jc_region ?_; refine jo_l (ly_mv rfl) (hd 30 rfl) ?_
  refine jo_call Try.f79 (hD) rfl Try.func79 rfl rfl (ovL_cons rfl ovL_nil) (.cons .s .nil) (hd 31 rfl) ?_ (fun ch hp => by simp at hp)
  rintro y hy; injection hy with hy; subst hy; refine jo_l (ly_not rfl) (hd 32 rfl) ?_; refine jo_nil ?_; refine jc_litf rfl ?_; refine jc_skip ?_; refine jc_seq ?_; refine jc_region ?_; refine jo_l (ly_mv rfl) (hd 34 rfl) ?_; refine jo_l (ly_mv rfl) (hd 35 rfl) ?_
  refine jo_call Try.f81 (hNum) rfl Try.func81 rfl rfl (ovL_cons rfl ovL_nil) (.cons .s .nil) (hd 36 rfl) ?_ (fun ch hp => by simp at hp)
  rintro y hy; injection hy with hy; subst hy
  refine jo_call Try.f80 (make1_z true n) rfl Try.func80 rfl rfl (ovL_cons rfl (ovL_cons rfl ovL_nil)) (.cons .b (.cons .n .nil)) (hd 37 rfl) ?_ (fun ch hp => by simp at hp)
  rintro y hy; injection hy with hy; subst hy; refine jo_st (sy_store rfl rfl rfl siz35 rfl rfl (Nat.le_of_ble_eq_true rfl)) ?_; refine jo_l (ly_as rfl) (hd 3 rfl) ?_; refine jo_nil ?_; refine jc_ret ?_
  refine ⟨_, _, (.cons (ResV.cell agg35 rfl rfl rfl rfl) (.cons rfl .nil)), (.t1 (.a1 .b (.a1 .n .a0)) (.t1 .i .t0)), ?_⟩
  exact rfl

set_option maxHeartbeats 4000000 in
theorem rParse6_pk (t : ByteArray) (hsz : ((⟨#[43]⟩ : ByteArray) ++ t).size ≤ 1048576) (hD : Spec Try.prog 79 [.s t] (fun o => o = .ret (.b true))) (n : Nat) (hNum : Spec Try.prog 81 [.s t] (fun o => o = .ret (.n false .u64 (digs B32 n)))) : Spec Try.prog 37 [.s ((⟨#[43]⟩ : ByteArray) ++ t)] (fun o => o = .ret (.t [.a [.b (decide ((zs false n) < 0)), .n false .u64 (dg (zs false n))], .i .i64 0])) := by
  refine spec_of' [(0, .s ((⟨#[43]⟩ : ByteArray) ++ t))] rfl Try.func37 rfl (Nat.le_of_ble_eq_true rfl) fun Γ hN hds hL hR => ?_
  have hd : ∀ d, Nat.blt d 38 = true → d < Γ.N := fun d h => by rw [hN]; exact Nat.le_of_ble_eq_true h
  have hone := one_size 43 t
  have hb0' : byteAt ((⟨#[43]⟩ : ByteArray) ++ t) 0 = 43 := byte0 43 t
  refine jc_seq ?_; refine jc_region ?_; refine jo_h (hy_alloc (id := 0) zero35 (by decide) rfl (by decide) rfl) (hd 2 rfl) ?_; refine jo_l (ly_as rfl) (hd 3 rfl) ?_; refine jo_nil ?_; refine jc_seq ?_; refine jc_seq ?_; refine jc_region ?_; refine jo_l (ly_mv rfl) (hd 5 rfl) ?_; refine jo_l (ly_lens und9 rfl) (hd 6 rfl) ?_; refine jo_l (ly_ff (ly_gt rfl rfl) (by have := hsz; omega)) (hd 7 rfl) ?_; refine jo_nil ?_; refine jc_litf rfl ?_; refine jc_skip ?_; refine jc_seq ?_; refine jc_region ?_; refine jo_l (ly_mv rfl) (hd 9 rfl) ?_; refine jo_l (ly_lens und9 rfl) (hd 10 rfl) ?_; refine jo_l (ly_tt (ly_gt rfl rfl) (by omega)) (hd 11 rfl) ?_; refine jo_l (ly_mv rfl) (hd 12 rfl) ?_; refine jo_g 12 rfl rfl (ly_mv rfl) (hd 13 rfl) ?_; refine jo_g 12 rfl rfl (ly_ixs (i := 0) und9 rfl rfl (by first | rfl | omega) (by omega)) (hd 14 rfl) ?_; refine jo_g 12 rfl rfl (ly_ff (ly_eq rfl rfl) (by omega)) (hd 15 rfl) ?_; refine jo_l (ly_pick_t rfl rfl) (hd 16 rfl) ?_; refine jo_l (ly_as rfl) (hd 4 rfl) ?_; refine jo_nil ?_; refine jc_seq ?_; refine jc_seq ?_; refine jc_region ?_; refine jo_l (ly_mv rfl) (hd 17 rfl) ?_; refine jo_l (ly_mv rfl) (hd 18 rfl) ?_; refine jo_g 18 rfl rfl (ly_mv rfl) (hd 19 rfl) ?_; refine jo_g 18 rfl rfl (ly_lens und9 rfl) (hd 20 rfl) ?_; refine jo_g 18 rfl rfl (ly_tt (ly_gt rfl rfl) (by omega)) (hd 21 rfl) ?_; refine jo_g 18 rfl rfl (ly_mv rfl) (hd 22 rfl) ?_; refine jo_g 22 rfl rfl (ly_mv rfl) (hd 23 rfl) ?_; refine jo_g 22 rfl rfl (ly_ixs (i := 0) und9 rfl rfl (by first | rfl | omega) (by omega)) (hd 24 rfl) ?_; refine jo_g 22 rfl rfl (ly_tt (ly_eq rfl rfl) (by omega)) (hd 25 rfl) ?_; refine jo_g 18 rfl rfl (ly_pick_t rfl rfl) (hd 26 rfl) ?_; refine jo_l (ly_pick_f rfl rfl) (hd 27 rfl) ?_; refine jo_nil ?_; refine jc_litt rfl ?_; refine jc_region ?_; refine jo_l (ly_mv rfl) (hd 28 rfl) ?_; refine jo_l (ly_is (ly_sls und9 rfl (bnd_some' (n := 1) rfl rfl) bnd_none (by omega) (by omega)) (show V.s _ = V.s t from congrArg V.s (ext1 43 t))) (hd 29 rfl) ?_; refine jo_l (ly_as rfl) (hd 0 rfl) ?_; refine jo_nil ?_; refine jc_seq ?_; refine jc_seq ?_; refine jc_region ?_; refine jo_l (ly_mv rfl) (hd 30 rfl) ?_
  refine jo_call Try.f79 (hD) rfl Try.func79 rfl rfl (ovL_cons rfl ovL_nil) (.cons .s .nil) (hd 31 rfl) ?_ (fun ch hp => by simp at hp)
  rintro y hy; injection hy with hy; subst hy; refine jo_l (ly_not rfl) (hd 32 rfl) ?_; refine jo_nil ?_; refine jc_litf rfl ?_; refine jc_skip ?_; refine jc_seq ?_; refine jc_region ?_; refine jo_l (ly_mv rfl) (hd 34 rfl) ?_; refine jo_l (ly_mv rfl) (hd 35 rfl) ?_
  refine jo_call Try.f81 (hNum) rfl Try.func81 rfl rfl (ovL_cons rfl ovL_nil) (.cons .s .nil) (hd 36 rfl) ?_ (fun ch hp => by simp at hp)
  rintro y hy; injection hy with hy; subst hy
  refine jo_call Try.f80 (make1_z false n) rfl Try.func80 rfl rfl (ovL_cons rfl (ovL_cons rfl ovL_nil)) (.cons .b (.cons .n .nil)) (hd 37 rfl) ?_ (fun ch hp => by simp at hp)
  rintro y hy; injection hy with hy; subst hy; refine jo_st (sy_store rfl rfl rfl siz35 rfl rfl (Nat.le_of_ble_eq_true rfl)) ?_; refine jo_l (ly_as rfl) (hd 3 rfl) ?_; refine jo_nil ?_; refine jc_ret ?_
  refine ⟨_, _, (.cons (ResV.cell agg35 rfl rfl rfl rfl) (.cons rfl .nil)), (.t1 (.a1 .b (.a1 .n .a0)) (.t1 .i .t0)), ?_⟩
  exact rfl

set_option maxHeartbeats 4000000 in
theorem rParse6_nk (t : ByteArray) (hs0 : t.size ≠ 0) (hc1 : byteAt t 0 ≠ 45) (hc2 : byteAt t 0 ≠ 43) (hsz : t.size ≤ 1048576) (hD : Spec Try.prog 79 [.s t] (fun o => o = .ret (.b true))) (n : Nat) (hNum : Spec Try.prog 81 [.s t] (fun o => o = .ret (.n false .u64 (digs B32 n)))) : Spec Try.prog 37 [.s t] (fun o => o = .ret (.t [.a [.b (decide ((zs false n) < 0)), .n false .u64 (dg (zs false n))], .i .i64 0])) := by
  refine spec_of' [(0, .s t)] rfl Try.func37 rfl (Nat.le_of_ble_eq_true rfl) fun Γ hN hds hL hR => ?_
  have hd : ∀ d, Nat.blt d 38 = true → d < Γ.N := fun d h => by rw [hN]; exact Nat.le_of_ble_eq_true h
  refine jc_seq ?_; refine jc_region ?_; refine jo_h (hy_alloc (id := 0) zero35 (by decide) rfl (by decide) rfl) (hd 2 rfl) ?_; refine jo_l (ly_as rfl) (hd 3 rfl) ?_; refine jo_nil ?_; refine jc_seq ?_; refine jc_seq ?_; refine jc_region ?_; refine jo_l (ly_mv rfl) (hd 5 rfl) ?_; refine jo_l (ly_lens und9 rfl) (hd 6 rfl) ?_; refine jo_l (ly_ff (ly_gt rfl rfl) (by have := hsz; omega)) (hd 7 rfl) ?_; refine jo_nil ?_; refine jc_litf rfl ?_; refine jc_skip ?_; refine jc_seq ?_; refine jc_region ?_; refine jo_l (ly_mv rfl) (hd 9 rfl) ?_; refine jo_l (ly_lens und9 rfl) (hd 10 rfl) ?_; refine jo_l (ly_tt (ly_gt rfl rfl) (by omega)) (hd 11 rfl) ?_; refine jo_l (ly_mv rfl) (hd 12 rfl) ?_; refine jo_g 12 rfl rfl (ly_mv rfl) (hd 13 rfl) ?_; refine jo_g 12 rfl rfl (ly_ixs (i := 0) und9 rfl rfl (by first | rfl | omega) (by omega)) (hd 14 rfl) ?_; refine jo_g 12 rfl rfl (ly_ff (ly_eq rfl rfl) (by omega)) (hd 15 rfl) ?_; refine jo_l (ly_pick_t rfl rfl) (hd 16 rfl) ?_; refine jo_l (ly_as rfl) (hd 4 rfl) ?_; refine jo_nil ?_; refine jc_seq ?_; refine jc_seq ?_; refine jc_region ?_; refine jo_l (ly_mv rfl) (hd 17 rfl) ?_; refine jo_l (ly_mv rfl) (hd 18 rfl) ?_; refine jo_g 18 rfl rfl (ly_mv rfl) (hd 19 rfl) ?_; refine jo_g 18 rfl rfl (ly_lens und9 rfl) (hd 20 rfl) ?_; refine jo_g 18 rfl rfl (ly_tt (ly_gt rfl rfl) (by omega)) (hd 21 rfl) ?_; refine jo_g 18 rfl rfl (ly_mv rfl) (hd 22 rfl) ?_; refine jo_g 22 rfl rfl (ly_mv rfl) (hd 23 rfl) ?_; refine jo_g 22 rfl rfl (ly_ixs (i := 0) und9 rfl rfl (by first | rfl | omega) (by omega)) (hd 24 rfl) ?_; refine jo_g 22 rfl rfl (ly_ff (ly_eq rfl rfl) (by omega)) (hd 25 rfl) ?_; refine jo_g 18 rfl rfl (ly_pick_t rfl rfl) (hd 26 rfl) ?_; refine jo_l (ly_pick_f rfl rfl) (hd 27 rfl) ?_; refine jo_nil ?_; refine jc_litf rfl ?_; refine jc_skip ?_; refine jc_seq ?_; refine jc_seq ?_; refine jc_region ?_; refine jo_l (ly_mv rfl) (hd 30 rfl) ?_
  refine jo_call Try.f79 (hD) rfl Try.func79 rfl rfl (ovL_cons rfl ovL_nil) (.cons .s .nil) (hd 31 rfl) ?_ (fun ch hp => by simp at hp)
  rintro y hy; injection hy with hy; subst hy; refine jo_l (ly_not rfl) (hd 32 rfl) ?_; refine jo_nil ?_; refine jc_litf rfl ?_; refine jc_skip ?_; refine jc_seq ?_; refine jc_region ?_; refine jo_l (ly_mv rfl) (hd 34 rfl) ?_; refine jo_l (ly_mv rfl) (hd 35 rfl) ?_
  refine jo_call Try.f81 (hNum) rfl Try.func81 rfl rfl (ovL_cons rfl ovL_nil) (.cons .s .nil) (hd 36 rfl) ?_ (fun ch hp => by simp at hp)
  rintro y hy; injection hy with hy; subst hy
  refine jo_call Try.f80 (make1_z false n) rfl Try.func80 rfl rfl (ovL_cons rfl (ovL_cons rfl ovL_nil)) (.cons .b (.cons .n .nil)) (hd 37 rfl) ?_ (fun ch hp => by simp at hp)
  rintro y hy; injection hy with hy; subst hy; refine jo_st (sy_store rfl rfl rfl siz35 rfl rfl (Nat.le_of_ble_eq_true rfl)) ?_; refine jo_l (ly_as rfl) (hd 3 rfl) ?_; refine jo_nil ?_; refine jc_ret ?_
  refine ⟨_, _, (.cons (ResV.cell agg35 rfl rfl rfl rfl) (.cons rfl .nil)), (.t1 (.a1 .b (.a1 .n .a0)) (.t1 .i .t0)), ?_⟩
  exact rfl

set_option maxHeartbeats 4000000 in
theorem rParse6_mb (t : ByteArray) (hsz : ((⟨#[45]⟩ : ByteArray) ++ t).size ≤ 1048576) (hD : Spec Try.prog 79 [.s t] (fun o => o = .ret (.b false)))  : Spec Try.prog 37 [.s ((⟨#[45]⟩ : ByteArray) ++ t)] (fun o => o = .ret (.t [.a [.b false, .n false .u64 []], .i .i64 62])) := by
  refine spec_of' [(0, .s ((⟨#[45]⟩ : ByteArray) ++ t))] rfl Try.func37 rfl (Nat.le_of_ble_eq_true rfl) fun Γ hN hds hL hR => ?_
  have hd : ∀ d, Nat.blt d 38 = true → d < Γ.N := fun d h => by rw [hN]; exact Nat.le_of_ble_eq_true h
  have hone := one_size 45 t
  have hb0' : byteAt ((⟨#[45]⟩ : ByteArray) ++ t) 0 = 45 := byte0 45 t
  refine jc_seq ?_; refine jc_region ?_; refine jo_h (hy_alloc (id := 0) zero35 (by decide) rfl (by decide) rfl) (hd 2 rfl) ?_; refine jo_l (ly_as rfl) (hd 3 rfl) ?_; refine jo_nil ?_; refine jc_seq ?_; refine jc_seq ?_; refine jc_region ?_; refine jo_l (ly_mv rfl) (hd 5 rfl) ?_; refine jo_l (ly_lens und9 rfl) (hd 6 rfl) ?_; refine jo_l (ly_ff (ly_gt rfl rfl) (by have := hsz; omega)) (hd 7 rfl) ?_; refine jo_nil ?_; refine jc_litf rfl ?_; refine jc_skip ?_; refine jc_seq ?_; refine jc_region ?_; refine jo_l (ly_mv rfl) (hd 9 rfl) ?_; refine jo_l (ly_lens und9 rfl) (hd 10 rfl) ?_; refine jo_l (ly_tt (ly_gt rfl rfl) (by omega)) (hd 11 rfl) ?_; refine jo_l (ly_mv rfl) (hd 12 rfl) ?_; refine jo_g 12 rfl rfl (ly_mv rfl) (hd 13 rfl) ?_; refine jo_g 12 rfl rfl (ly_ixs (i := 0) und9 rfl rfl (by first | rfl | omega) (by omega)) (hd 14 rfl) ?_; refine jo_g 12 rfl rfl (ly_tt (ly_eq rfl rfl) (by omega)) (hd 15 rfl) ?_; refine jo_l (ly_pick_t rfl rfl) (hd 16 rfl) ?_; refine jo_l (ly_as rfl) (hd 4 rfl) ?_; refine jo_nil ?_; refine jc_seq ?_; refine jc_seq ?_; refine jc_region ?_; refine jo_l (ly_mv rfl) (hd 17 rfl) ?_; refine jo_l (ly_mv rfl) (hd 18 rfl) ?_; refine jo_s 18 rfl rfl rfl (hd 19 rfl) ?_; refine jo_s 18 rfl rfl rfl (hd 20 rfl) ?_; refine jo_s 18 rfl rfl rfl (hd 21 rfl) ?_; refine jo_s 18 rfl rfl rfl (hd 22 rfl) ?_; refine jo_s' 22 rfl rfl (hd 23 rfl) ?_; refine jo_s' 22 rfl rfl (hd 24 rfl) ?_; refine jo_s' 22 rfl rfl (hd 25 rfl) ?_; refine jo_s 18 rfl rfl rfl (hd 26 rfl) ?_; refine jo_l (ly_pick_t rfl rfl) (hd 27 rfl) ?_; refine jo_nil ?_; refine jc_litt rfl ?_; refine jc_region ?_; refine jo_l (ly_mv rfl) (hd 28 rfl) ?_; refine jo_l (ly_is (ly_sls und9 rfl (bnd_some' (n := 1) rfl rfl) bnd_none (by omega) (by omega)) (show V.s _ = V.s t from congrArg V.s (ext1 45 t))) (hd 29 rfl) ?_; refine jo_l (ly_as rfl) (hd 0 rfl) ?_; refine jo_nil ?_; refine jc_seq ?_; refine jc_seq ?_; refine jc_region ?_; refine jo_l (ly_mv rfl) (hd 30 rfl) ?_
  refine jo_call Try.f79 (hD) rfl Try.func79 rfl rfl (ovL_cons rfl ovL_nil) (.cons .s .nil) (hd 31 rfl) ?_ (fun ch hp => by simp at hp)
  rintro y hy; injection hy with hy; subst hy; refine jo_l (ly_not rfl) (hd 32 rfl) ?_; refine jo_nil ?_; refine jc_litt rfl ?_; refine jc_seq ?_; refine jc_region ?_; refine jo_l (ly_build (is := []) (xs := []) (pls := []) zero35 pls35_ rfl ovL_nil rfl trivial (all_of rfl) rfl) (hd 33 rfl) ?_; refine jo_st (sy_store rfl rfl rfl siz35 rfl rfl (Nat.le_of_ble_eq_true rfl)) ?_; refine jo_l (ly_as rfl) (hd 3 rfl) ?_; refine jo_nil ?_; refine jc_ret ?_
  refine ⟨_, _, (.cons (ResV.cell agg35 rfl rfl rfl rfl) (.cons rfl .nil)), (.t1 (.a1 .b (.a1 (.nil (fr := false) (k := .u64)) .a0)) (.t1 .i .t0)), ?_⟩
  exact rfl

set_option maxHeartbeats 4000000 in
theorem rParse6_pb (t : ByteArray) (hsz : ((⟨#[43]⟩ : ByteArray) ++ t).size ≤ 1048576) (hD : Spec Try.prog 79 [.s t] (fun o => o = .ret (.b false)))  : Spec Try.prog 37 [.s ((⟨#[43]⟩ : ByteArray) ++ t)] (fun o => o = .ret (.t [.a [.b false, .n false .u64 []], .i .i64 62])) := by
  refine spec_of' [(0, .s ((⟨#[43]⟩ : ByteArray) ++ t))] rfl Try.func37 rfl (Nat.le_of_ble_eq_true rfl) fun Γ hN hds hL hR => ?_
  have hd : ∀ d, Nat.blt d 38 = true → d < Γ.N := fun d h => by rw [hN]; exact Nat.le_of_ble_eq_true h
  have hone := one_size 43 t
  have hb0' : byteAt ((⟨#[43]⟩ : ByteArray) ++ t) 0 = 43 := byte0 43 t
  refine jc_seq ?_; refine jc_region ?_; refine jo_h (hy_alloc (id := 0) zero35 (by decide) rfl (by decide) rfl) (hd 2 rfl) ?_; refine jo_l (ly_as rfl) (hd 3 rfl) ?_; refine jo_nil ?_; refine jc_seq ?_; refine jc_seq ?_; refine jc_region ?_; refine jo_l (ly_mv rfl) (hd 5 rfl) ?_; refine jo_l (ly_lens und9 rfl) (hd 6 rfl) ?_; refine jo_l (ly_ff (ly_gt rfl rfl) (by have := hsz; omega)) (hd 7 rfl) ?_; refine jo_nil ?_; refine jc_litf rfl ?_; refine jc_skip ?_; refine jc_seq ?_; refine jc_region ?_; refine jo_l (ly_mv rfl) (hd 9 rfl) ?_; refine jo_l (ly_lens und9 rfl) (hd 10 rfl) ?_; refine jo_l (ly_tt (ly_gt rfl rfl) (by omega)) (hd 11 rfl) ?_; refine jo_l (ly_mv rfl) (hd 12 rfl) ?_; refine jo_g 12 rfl rfl (ly_mv rfl) (hd 13 rfl) ?_; refine jo_g 12 rfl rfl (ly_ixs (i := 0) und9 rfl rfl (by first | rfl | omega) (by omega)) (hd 14 rfl) ?_; refine jo_g 12 rfl rfl (ly_ff (ly_eq rfl rfl) (by omega)) (hd 15 rfl) ?_; refine jo_l (ly_pick_t rfl rfl) (hd 16 rfl) ?_; refine jo_l (ly_as rfl) (hd 4 rfl) ?_; refine jo_nil ?_; refine jc_seq ?_; refine jc_seq ?_; refine jc_region ?_; refine jo_l (ly_mv rfl) (hd 17 rfl) ?_; refine jo_l (ly_mv rfl) (hd 18 rfl) ?_; refine jo_g 18 rfl rfl (ly_mv rfl) (hd 19 rfl) ?_; refine jo_g 18 rfl rfl (ly_lens und9 rfl) (hd 20 rfl) ?_; refine jo_g 18 rfl rfl (ly_tt (ly_gt rfl rfl) (by omega)) (hd 21 rfl) ?_; refine jo_g 18 rfl rfl (ly_mv rfl) (hd 22 rfl) ?_; refine jo_g 22 rfl rfl (ly_mv rfl) (hd 23 rfl) ?_; refine jo_g 22 rfl rfl (ly_ixs (i := 0) und9 rfl rfl (by first | rfl | omega) (by omega)) (hd 24 rfl) ?_; refine jo_g 22 rfl rfl (ly_tt (ly_eq rfl rfl) (by omega)) (hd 25 rfl) ?_; refine jo_g 18 rfl rfl (ly_pick_t rfl rfl) (hd 26 rfl) ?_; refine jo_l (ly_pick_f rfl rfl) (hd 27 rfl) ?_; refine jo_nil ?_; refine jc_litt rfl ?_; refine jc_region ?_; refine jo_l (ly_mv rfl) (hd 28 rfl) ?_; refine jo_l (ly_is (ly_sls und9 rfl (bnd_some' (n := 1) rfl rfl) bnd_none (by omega) (by omega)) (show V.s _ = V.s t from congrArg V.s (ext1 43 t))) (hd 29 rfl) ?_; refine jo_l (ly_as rfl) (hd 0 rfl) ?_; refine jo_nil ?_; refine jc_seq ?_; refine jc_seq ?_; refine jc_region ?_; refine jo_l (ly_mv rfl) (hd 30 rfl) ?_
  refine jo_call Try.f79 (hD) rfl Try.func79 rfl rfl (ovL_cons rfl ovL_nil) (.cons .s .nil) (hd 31 rfl) ?_ (fun ch hp => by simp at hp)
  rintro y hy; injection hy with hy; subst hy; refine jo_l (ly_not rfl) (hd 32 rfl) ?_; refine jo_nil ?_; refine jc_litt rfl ?_; refine jc_seq ?_; refine jc_region ?_; refine jo_l (ly_build (is := []) (xs := []) (pls := []) zero35 pls35_ rfl ovL_nil rfl trivial (all_of rfl) rfl) (hd 33 rfl) ?_; refine jo_st (sy_store rfl rfl rfl siz35 rfl rfl (Nat.le_of_ble_eq_true rfl)) ?_; refine jo_l (ly_as rfl) (hd 3 rfl) ?_; refine jo_nil ?_; refine jc_ret ?_
  refine ⟨_, _, (.cons (ResV.cell agg35 rfl rfl rfl rfl) (.cons rfl .nil)), (.t1 (.a1 .b (.a1 (.nil (fr := false) (k := .u64)) .a0)) (.t1 .i .t0)), ?_⟩
  exact rfl

set_option maxHeartbeats 4000000 in
theorem rParse6_nb (t : ByteArray) (hs0 : t.size ≠ 0) (hc1 : byteAt t 0 ≠ 45) (hc2 : byteAt t 0 ≠ 43) (hsz : t.size ≤ 1048576) (hD : Spec Try.prog 79 [.s t] (fun o => o = .ret (.b false)))  : Spec Try.prog 37 [.s t] (fun o => o = .ret (.t [.a [.b false, .n false .u64 []], .i .i64 62])) := by
  refine spec_of' [(0, .s t)] rfl Try.func37 rfl (Nat.le_of_ble_eq_true rfl) fun Γ hN hds hL hR => ?_
  have hd : ∀ d, Nat.blt d 38 = true → d < Γ.N := fun d h => by rw [hN]; exact Nat.le_of_ble_eq_true h
  refine jc_seq ?_; refine jc_region ?_; refine jo_h (hy_alloc (id := 0) zero35 (by decide) rfl (by decide) rfl) (hd 2 rfl) ?_; refine jo_l (ly_as rfl) (hd 3 rfl) ?_; refine jo_nil ?_; refine jc_seq ?_; refine jc_seq ?_; refine jc_region ?_; refine jo_l (ly_mv rfl) (hd 5 rfl) ?_; refine jo_l (ly_lens und9 rfl) (hd 6 rfl) ?_; refine jo_l (ly_ff (ly_gt rfl rfl) (by have := hsz; omega)) (hd 7 rfl) ?_; refine jo_nil ?_; refine jc_litf rfl ?_; refine jc_skip ?_; refine jc_seq ?_; refine jc_region ?_; refine jo_l (ly_mv rfl) (hd 9 rfl) ?_; refine jo_l (ly_lens und9 rfl) (hd 10 rfl) ?_; refine jo_l (ly_tt (ly_gt rfl rfl) (by omega)) (hd 11 rfl) ?_; refine jo_l (ly_mv rfl) (hd 12 rfl) ?_; refine jo_g 12 rfl rfl (ly_mv rfl) (hd 13 rfl) ?_; refine jo_g 12 rfl rfl (ly_ixs (i := 0) und9 rfl rfl (by first | rfl | omega) (by omega)) (hd 14 rfl) ?_; refine jo_g 12 rfl rfl (ly_ff (ly_eq rfl rfl) (by omega)) (hd 15 rfl) ?_; refine jo_l (ly_pick_t rfl rfl) (hd 16 rfl) ?_; refine jo_l (ly_as rfl) (hd 4 rfl) ?_; refine jo_nil ?_; refine jc_seq ?_; refine jc_seq ?_; refine jc_region ?_; refine jo_l (ly_mv rfl) (hd 17 rfl) ?_; refine jo_l (ly_mv rfl) (hd 18 rfl) ?_; refine jo_g 18 rfl rfl (ly_mv rfl) (hd 19 rfl) ?_; refine jo_g 18 rfl rfl (ly_lens und9 rfl) (hd 20 rfl) ?_; refine jo_g 18 rfl rfl (ly_tt (ly_gt rfl rfl) (by omega)) (hd 21 rfl) ?_; refine jo_g 18 rfl rfl (ly_mv rfl) (hd 22 rfl) ?_; refine jo_g 22 rfl rfl (ly_mv rfl) (hd 23 rfl) ?_; refine jo_g 22 rfl rfl (ly_ixs (i := 0) und9 rfl rfl (by first | rfl | omega) (by omega)) (hd 24 rfl) ?_; refine jo_g 22 rfl rfl (ly_ff (ly_eq rfl rfl) (by omega)) (hd 25 rfl) ?_; refine jo_g 18 rfl rfl (ly_pick_t rfl rfl) (hd 26 rfl) ?_; refine jo_l (ly_pick_f rfl rfl) (hd 27 rfl) ?_; refine jo_nil ?_; refine jc_litf rfl ?_; refine jc_skip ?_; refine jc_seq ?_; refine jc_seq ?_; refine jc_region ?_; refine jo_l (ly_mv rfl) (hd 30 rfl) ?_
  refine jo_call Try.f79 (hD) rfl Try.func79 rfl rfl (ovL_cons rfl ovL_nil) (.cons .s .nil) (hd 31 rfl) ?_ (fun ch hp => by simp at hp)
  rintro y hy; injection hy with hy; subst hy; refine jo_l (ly_not rfl) (hd 32 rfl) ?_; refine jo_nil ?_; refine jc_litt rfl ?_; refine jc_seq ?_; refine jc_region ?_; refine jo_l (ly_build (is := []) (xs := []) (pls := []) zero35 pls35_ rfl ovL_nil rfl trivial (all_of rfl) rfl) (hd 33 rfl) ?_; refine jo_st (sy_store rfl rfl rfl siz35 rfl rfl (Nat.le_of_ble_eq_true rfl)) ?_; refine jo_l (ly_as rfl) (hd 3 rfl) ?_; refine jo_nil ?_; refine jc_ret ?_
  refine ⟨_, _, (.cons (ResV.cell agg35 rfl rfl rfl rfl) (.cons rfl .nil)), (.t1 (.a1 .b (.a1 (.nil (fr := false) (k := .u64)) .a0)) (.t1 .i .t0)), ?_⟩
  exact rfl

set_option maxHeartbeats 4000000 in
theorem rParse6_eb (hsz : ByteArray.empty.size ≤ 1048576) (hD : Spec Try.prog 79 [.s .empty] (fun o => o = .ret (.b false)))  : Spec Try.prog 37 [.s .empty] (fun o => o = .ret (.t [.a [.b false, .n false .u64 []], .i .i64 62])) := by
  refine spec_of' [(0, .s .empty)] rfl Try.func37 rfl (Nat.le_of_ble_eq_true rfl) fun Γ hN hds hL hR => ?_
  have hd : ∀ d, Nat.blt d 38 = true → d < Γ.N := fun d h => by rw [hN]; exact Nat.le_of_ble_eq_true h
  refine jc_seq ?_; refine jc_region ?_; refine jo_h (hy_alloc (id := 0) zero35 (by decide) rfl (by decide) rfl) (hd 2 rfl) ?_; refine jo_l (ly_as rfl) (hd 3 rfl) ?_; refine jo_nil ?_; refine jc_seq ?_; refine jc_seq ?_; refine jc_region ?_; refine jo_l (ly_mv rfl) (hd 5 rfl) ?_; refine jo_l (ly_lens und9 rfl) (hd 6 rfl) ?_; refine jo_l (ly_ff (ly_gt rfl rfl) (by have := hsz; omega)) (hd 7 rfl) ?_; refine jo_nil ?_; refine jc_litf rfl ?_; refine jc_skip ?_; refine jc_seq ?_; refine jc_region ?_; refine jo_l (ly_mv rfl) (hd 9 rfl) ?_; refine jo_l (ly_lens und9 rfl) (hd 10 rfl) ?_; refine jo_l (ly_ff (ly_gt rfl rfl) (by decide)) (hd 11 rfl) ?_; refine jo_l (ly_mv rfl) (hd 12 rfl) ?_; refine jo_s 12 rfl rfl rfl (hd 13 rfl) ?_; refine jo_s 12 rfl rfl rfl (hd 14 rfl) ?_; refine jo_s 12 rfl rfl rfl (hd 15 rfl) ?_; refine jo_l (ly_pick_f rfl rfl) (hd 16 rfl) ?_; refine jo_l (ly_as rfl) (hd 4 rfl) ?_; refine jo_nil ?_; refine jc_seq ?_; refine jc_seq ?_; refine jc_region ?_; refine jo_l (ly_mv rfl) (hd 17 rfl) ?_; refine jo_l (ly_mv rfl) (hd 18 rfl) ?_; refine jo_g 18 rfl rfl (ly_mv rfl) (hd 19 rfl) ?_; refine jo_g 18 rfl rfl (ly_lens und9 rfl) (hd 20 rfl) ?_; refine jo_g 18 rfl rfl (ly_ff (ly_gt rfl rfl) (by decide)) (hd 21 rfl) ?_; refine jo_g 18 rfl rfl (ly_mv rfl) (hd 22 rfl) ?_; refine jo_s 22 rfl rfl rfl (hd 23 rfl) ?_; refine jo_s 22 rfl rfl rfl (hd 24 rfl) ?_; refine jo_s 22 rfl rfl rfl (hd 25 rfl) ?_; refine jo_g 18 rfl rfl (ly_pick_f rfl rfl) (hd 26 rfl) ?_; refine jo_l (ly_pick_f rfl rfl) (hd 27 rfl) ?_; refine jo_nil ?_; refine jc_litf rfl ?_; refine jc_skip ?_; refine jc_seq ?_; refine jc_seq ?_; refine jc_region ?_; refine jo_l (ly_mv rfl) (hd 30 rfl) ?_
  refine jo_call Try.f79 (hD) rfl Try.func79 rfl rfl (ovL_cons rfl ovL_nil) (.cons .s .nil) (hd 31 rfl) ?_ (fun ch hp => by simp at hp)
  rintro y hy; injection hy with hy; subst hy; refine jo_l (ly_not rfl) (hd 32 rfl) ?_; refine jo_nil ?_; refine jc_litt rfl ?_; refine jc_seq ?_; refine jc_region ?_; refine jo_l (ly_build (is := []) (xs := []) (pls := []) zero35 pls35_ rfl ovL_nil rfl trivial (all_of rfl) rfl) (hd 33 rfl) ?_; refine jo_st (sy_store rfl rfl rfl siz35 rfl rfl (Nat.le_of_ble_eq_true rfl)) ?_; refine jo_l (ly_as rfl) (hd 3 rfl) ?_; refine jo_nil ?_; refine jc_ret ?_
  refine ⟨_, _, (.cons (ResV.cell agg35 rfl rfl rfl rfl) (.cons rfl .nil)), (.t1 (.a1 .b (.a1 (.nil (fr := false) (k := .u64)) .a0)) (.t1 .i .t0)), ?_⟩
  exact rfl
end Go.Proofs.Ytcfdclehmpfkcaa.Vc

/- Contract of surdref06.Print. -/
namespace Go.Proofs.Ytcfdclehmpfkcaa.Vc
open Go Go.RowKit
set_option maxHeartbeats 4000000 in
theorem rPrint6_s (v : Int) (hl : (dg v).length < 4294967296) (hx9 : (digs 10 v.natAbs).length ≤ 67108864) : Spec Try.prog 40 [.a [.b (decide (v < 0)), .n false .u64 (dg v)]] (fun o => o = .ret (.s (wtxt v))) := by
  refine spec_of' [(0, .a [.b (decide (v < 0)), .n false .u64 (dg v)])] rfl Try.func40 rfl (Nat.le_of_ble_eq_true rfl) fun Γ hN hds hL hR => ?_
  have hd : ∀ d, Nat.blt d 66 = true → d < Γ.N := fun d h => by rw [hN]; exact Nat.le_of_ble_eq_true h
  have hO : Spec Try.prog 27 [.n false .u64 [1000000000]] (fun o => o = .ret (.n false .u64 (digs B32 (10 ^ 9)))) := by have h := rOf_s [1000000000] (by decide) (u64s1 (by decide) (by decide)); rwa [rOf_v (u64s1 (by decide) (by decide)), show (vl [1000000000]).toNat = 10 ^ 9 by decide] at h
  have hdg0 : (dg v).length = (digs B32 v.natAbs).length := rfl
  have hb9 : (digs B32 (10 ^ 9)).length ≤ 1 := digs_len (by decide) 1 _ (by decide)
  refine jc_seq ?_; refine jc_region ?_; refine jo_h (hy_box (id := 0) (n := 2) rfl rfl rfl (by decide) rfl) (hd 1 rfl) ?_; refine jo_l (ly_as rfl) (hd 2 rfl) ?_; refine jo_nil ?_; refine jc_seq ?_; refine jc_seq ?_; refine jc_region ?_; refine jo_l (ly_fa fld35_1 rfl rfl rfl) (hd 11 rfl) ?_; refine jo_l (ly_ld one33 rfl rfl rfl) (hd 12 rfl) ?_
  refine jo_call Try.f76 (Zero_s (dg v)) rfl Try.func76 rfl rfl (ovL_cons rfl ovL_nil) (.cons .n .nil) (hd 13 rfl) ?_ (fun ch hp => by simp at hp)
  rintro y hy; injection hy with hy; subst hy; refine jo_nil ?_
  refine jc_if rfl (fun h1 => ?_) (fun h1 => ?_)
  · have hv00 : v = 0 := (by have h1 : ((digs B32 v.natAbs).length : Int) = 0 := h1; have h2 := digs_len0.1 h1; omega)
    refine jc_seq ?_; refine jc_region ?_; refine jo_l (ly_as rfl) (hd 2 rfl) ?_; refine jo_nil ?_; refine jc_ret ?_
    refine ⟨_, _, (.cons rfl .nil), .s, ?_⟩
    rw [hv00]
    exact congrArg (fun z => Out.ret (V.s z)) (by decide +kernel)
  · have hx0 : v.natAbs ≠ 0 := fun h0 => h1 (digs_len0.2 h0)
    refine jc_skip ?_; refine jc_seq ?_; refine jc_region ?_; refine jo_l (ly_as rfl) (hd 3 rfl) ?_; refine jo_nil ?_; refine jc_seq ?_; refine jc_region ?_; refine jo_h (hy_lit (id := 1) (xs := [.const (.int .u64 1000000000)]) el25 rfl (ovL_cons rfl ovL_nil) rfl (all2_of rfl) (by decide) rfl) (hd 14 rfl) ?_; refine jo_frz (k := .u64) (l := [1000000000]) (l' := [1000000000]) 14 rfl rfl (Nat.le_refl _) rfl hL ?_
    refine jo_call Try.f27 (hO) rfl Try.func27 rfl rfl (ovL_cons rfl ovL_nil) (.cons .n .nil) (hd 15 rfl) ?_ (fun ch hp => by simp at hp)
    rintro y hy; injection hy with hy; subst hy; refine jo_l (ly_as rfl) (hd 4 rfl) ?_; refine jo_nil ?_; refine jc_seq ?_; refine jc_region ?_; refine jo_l (ly_fa fld35_1 rfl rfl rfl) (hd 16 rfl) ?_; refine jo_l (ly_ld one33 rfl rfl rfl) (hd 17 rfl) ?_; refine jo_l (ly_as rfl) (hd 5 rfl) ?_; refine jo_nil ?_; refine jc_seq ?_; refine jc_block ?_
    refine jc_loopD (G := Nat) 2 (fun k => True) (fun k => [(3, .s (txt ((digs 10 v.natAbs).take (9 * k)).reverse)), (5, .n false .u64 (digs B32 (v.natAbs / 10 ^ (9 * k)))), (6, .u), (7, .u), (8, .u), (9, .u), (10, .u), (18, .u), (19, .u), (20, .u), (21, .u), (22, .u), (23, .u), (24, .u), (25, .u), (26, .u), (27, .u), (28, .u), (29, .u), (30, .u), (31, .u), (32, .u), (33, .u), (34, .u), (35, .u), (36, .u), (37, .u), (38, .u), (39, .u), (40, .u), (41, .u), (42, .u), (43, .u), (44, .u), (45, .u), (46, .u), (47, .u), (48, .u), (49, .u), (50, .u), (51, .u), (52, .u), (53, .u), (54, .u), (55, .u), (56, .u), (57, .u), (58, .u), (59, .u), (60, .u)]) (fun k => [⟨70, 2, 0, true, [.b (decide (v < 0)), .n false .u64 (dg v)]⟩, ⟨90, 1, 0, false, []⟩]) (fun k => (digs 10 v.natAbs).length - 9 * k) 0 ?_ ?_ rfl hR rfl (fun _ _ => rfl) (fun _ _ => .cons rfl (.cons rfl .nil)) ?_
    · trivial
    · exact (.cons (by show some (V.s _) = some (V.s _); rfl) (.cons (by show some (V.n _ _ _) = some (V.n _ _ _); rw [Nat.mul_zero, Nat.pow_zero, Nat.div_one]; rfl) (.u (.u (.u (.u (.u (.u (.u (.u (.u (.u (.u (.u (.u (.u (.u (.u (.u (.u (.u (.u (.u (.u (.u (.u (.u (.u (.u (.u (.u (.u (.u (.u (.u (.u (.u (.u (.u (.u (.u (.u (.u (.u (.u (.u (.u (.u (.u (.u .nil))))))))))))))))))))))))))))))))))))))))))))))))))
    · rintro k _
      have hdk : (digs B32 (v.natAbs / 10 ^ (9 * k))).length ≤ (digs B32 v.natAbs).length := digs_mono (by decide) _ _ (Nat.div_le_self _ _)
      have hrm : (v.natAbs / 10 ^ (9 * k)) % 10 ^ 9 < 10 ^ 9 := Nat.mod_lt _ (by decide)
      have hts := txt_size ((digs 10 v.natAbs).take (9 * k)).reverse
      rw [List.length_reverse, List.length_take] at hts
      refine jc_seq ?_; refine jc_seq ?_; refine jc_region ?_; refine jo_l (ly_mv rfl) (hd 18 rfl) ?_
      refine jo_call Try.f76 (Zero_s (digs B32 (v.natAbs / 10 ^ (9 * k)))) rfl Try.func76 rfl rfl (ovL_cons rfl ovL_nil) (.cons .n .nil) (hd 19 rfl) ?_ (fun ch hp => by simp at hp)
      rintro y hy; injection hy with hy; subst hy; refine jo_l (ly_not rfl) (hd 20 rfl) ?_; refine jo_nil ?_
      refine jc_ifn rfl (fun h2 => ?_) (fun h2 => ?_)
      · have hn0 : (v.natAbs / 10 ^ (9 * k)) ≠ 0 := fun h0 => by simp [h0, digs_0] at h2
        refine jc_skip ?_; refine jc_block ?_; refine jc_seq ?_; refine jc_region ?_; refine jo_l (ly_mv rfl) (hd 22 rfl) ?_; refine jo_l (ly_mv rfl) (hd 23 rfl) ?_
        refine jo_call Try.f77 (rDiv_s (v.natAbs / 10 ^ (9 * k)) (10 ^ 9) (by omega) (by omega) (by decide)) rfl Try.func77 rfl rfl (ovL_cons rfl (ovL_cons rfl ovL_nil)) (.cons .n (.cons .n .nil)) (hd 24 rfl) ?_ (fun ch hp => by simp at hp)
        rintro y hy; injection hy with hy; subst hy; refine jo_l (ly_mv rfl) (hd 21 rfl) ?_; refine jo_l (ly_ext rfl rfl) (hd 25 rfl) ?_; refine jo_l (ly_ext rfl rfl) (hd 26 rfl) ?_; refine jo_l (ly_as rfl) (hd 6 rfl) ?_; refine jo_l (ly_as rfl) (hd 7 rfl) ?_; refine jo_nil ?_; refine jc_seq ?_; refine jc_region ?_; refine jo_l (ly_as rfl) (hd 8 rfl) ?_; refine jo_nil ?_
        refine jc_meetH (G := Unit) (fun _ => True) (fun _ => [(8, .i .i64 (((v.natAbs / 10 ^ (9 * k)) % 10 ^ 9 : Nat) : Int)), (27, .u), (28, .u), (29, .u), (30, .u), (31, .u), (32, .u), (33, .u)]) ?_ ?_
        · refine jc_seq ?_; refine jc_region ?_; refine jo_l (ly_mv rfl) (hd 27 rfl) ?_
          refine jo_call Try.f76 (Zero_s (digs B32 ((v.natAbs / 10 ^ (9 * k)) % 10 ^ 9))) rfl Try.func76 rfl rfl (ovL_cons rfl ovL_nil) (.cons .n .nil) (hd 28 rfl) ?_ (fun ch hp => by simp at hp)
          rintro y hy; injection hy with hy; subst hy; refine jo_l (ly_not rfl) (hd 29 rfl) ?_; refine jo_nil ?_
          refine jc_ifn rfl (fun h3 => ?_) (fun h3 => ?_)
          · have hr0 : (v.natAbs / 10 ^ (9 * k)) % 10 ^ 9 ≠ 0 := fun h0 => by simp [h0, digs_0] at h3
            have hr1 := digs_one hr0 (by show _ < 4294967296; omega)
            refine jc_region ?_; refine jo_l (ly_mv rfl) (hd 30 rfl) ?_; refine jo_l (ly_ian (i := 0) sl33 rfl rfl rfl (by omega)) (hd 31 rfl) ?_; refine jo_l (ly_is (ly_ldq one82 rfl rfl) (show V.i .u64 _ = V.i .u64 (((v.natAbs / 10 ^ (9 * k)) % 10 ^ 9 : Nat) : Int) by rw [hr1]; rfl)) (hd 32 rfl) ?_; refine jo_l (ly_conv und82 und3 rfl (r := (((v.natAbs / 10 ^ (9 * k)) % 10 ^ 9 : Nat) : Int)) (wrap_i64 (by omega) (by omega))) (hd 33 rfl) ?_; refine jo_l (ly_as rfl) (hd 8 rfl) ?_; refine jo_nil ?_
            refine ⟨(), ?_, rfl, cov_n 8 rfl rfl ?_⟩
            · trivial
            · exact (.cons (by show some (V.i _ _) = some (V.i _ _); first | rfl | (rw [hr0]; rfl)) (.u (.u (.u (.u (.u (.u (.u .nil))))))))
          · have hr0 : (v.natAbs / 10 ^ (9 * k)) % 10 ^ 9 = 0 := by have h1 := h3; exact digs_nil.1 (List.eq_nil_of_length_eq_zero (by omega))
            refine jc_skip ?_
            refine ⟨(), ?_, rfl, cov_n 3 rfl rfl ?_⟩
            · trivial
            · exact (.cons (by show some (V.i _ _) = some (V.i _ _); first | rfl | (rw [hr0]; rfl)) (.u (.u (.u (.u (.u (.u (.u .nil))))))))
        · rintro _ _; refine jc_seq ?_; refine jc_region ?_; refine jo_l (ly_as rfl) (hd 9 rfl) ?_; refine jo_nil ?_
          refine jc_meetH (G := Nat) (fun j => j ≤ 9 ∧ (j = 9 ∨ v.natAbs / 10 ^ (9 * k + j) = 0)) (fun j => [(9, .s (txt (((digs 10 v.natAbs).drop (9 * k)).take j).reverse)), (8, .u), (10, .u), (34, .u), (35, .u), (36, .u), (37, .u), (38, .u), (39, .u), (40, .u), (41, .u), (42, .u), (43, .u), (44, .u), (45, .u), (46, .u), (47, .u), (48, .u), (49, .u), (50, .u), (51, .u), (52, .u), (53, .u), (54, .u), (55, .u), (56, .u)]) ?_ ?_
          · refine jc_seq ?_; refine jc_region ?_; refine jo_l (ly_as rfl) (hd 10 rfl) ?_; refine jo_nil ?_; refine jc_block ?_
            refine jc_loopF (G := Nat) (fun j => j ≤ 9) (fun j => [(8, .i .i64 ((((v.natAbs / 10 ^ (9 * k)) % 10 ^ 9 / 10 ^ j) : Nat) : Int)), (9, .s (txt (((digs 10 v.natAbs).drop (9 * k)).take j).reverse)), (10, .i .i64 (j : Int)), (34, .u), (35, .u), (36, .u), (37, .u), (38, .u), (39, .u), (40, .u), (41, .u), (42, .u), (43, .u), (44, .u), (45, .u), (46, .u), (47, .u), (48, .u), (49, .u), (50, .u), (51, .u), (52, .u), (53, .u), (54, .u), (55, .u), (56, .u)]) (fun j => [⟨70, 2, 0, true, [.b (decide (v < 0)), .n false .u64 (dg v)]⟩, ⟨90, 1, 0, false, []⟩]) (fun j => 9 - j) 0 ?_ ?_ rfl ?_
            · exact Nat.zero_le _
            · exact (.cons (by show some (V.i _ _) = some (V.i _ _); rw [Nat.pow_zero, Nat.div_one]) (.cons rfl (.cons rfl (.u (.u (.u (.u (.u (.u (.u (.u (.u (.u (.u (.u (.u (.u (.u (.u (.u (.u (.u (.u (.u (.u (.u .nil))))))))))))))))))))))))))
            · rintro j hj
              have hrj : ((v.natAbs / 10 ^ (9 * k)) % 10 ^ 9 / 10 ^ j) ≤ (v.natAbs / 10 ^ (9 * k)) % 10 ^ 9 := Nat.div_le_self _ _
              have htj := txt_size (((digs 10 v.natAbs).drop (9 * k)).take j).reverse
              rw [List.length_reverse, List.length_take] at htj
              refine jc_seq ?_; refine jc_seq ?_; refine jc_region ?_; refine jo_l (ly_mv rfl) (hd 34 rfl) ?_; refine jo_l (ly_lt rfl rfl) (hd 35 rfl) ?_; refine jo_l (ly_mv rfl) (hd 36 rfl) ?_
              refine jo_ifp 36 rfl (fun h4 => ?_) (fun h4 => ?_)
              · refine jo_g 36 rfl rfl (ly_mv rfl) (hd 37 rfl) ?_; refine jo_g 36 rfl rfl (ly_gt rfl rfl) (hd 38 rfl) ?_; refine jo_g 36 rfl rfl (ly_mv rfl) (hd 39 rfl) ?_
                refine jo_ifp 39 rfl (fun h5 => ?_) (fun h5 => ?_)
                · refine jo_s 39 rfl rfl rfl (hd 40 rfl) ?_; refine jo_s 39 rfl rfl rfl (hd 41 rfl) ?_; refine jo_s 39 rfl rfl rfl (hd 42 rfl) ?_; refine jo_g 36 rfl rfl (ly_pick_t rfl rfl) (hd 43 rfl) ?_; refine jo_l (ly_pick_t rfl rfl) (hd 44 rfl) ?_; refine jo_nil ?_; refine jc_litt rfl ?_; refine jc_skip ?_; refine jc_seq ?_; refine jc_block ?_; refine jc_seq ?_; refine jc_region ?_; refine jo_l (ly_mv rfl) (hd 47 rfl) ?_; refine jo_l (ly_is (ly_rem rfl rfl (by decide) rfl) (show V.i .i64 _ = V.i .i64 (((v.natAbs / 10 ^ (9 * k + j) % 10) : Nat) : Int) by rw [← nine_pow, ← nine_dig (by omega)]; rfl)) (hd 48 rfl) ?_; refine jo_l (ly_mv rfl) (hd 49 rfl) ?_; refine jo_l (ly_is (ly_rem rfl rfl (by decide) rfl) (show V.i .i64 _ = V.i .i64 (((v.natAbs / 10 ^ (9 * k + j) % 10) : Nat) : Int) by rw [← nine_pow, ← nine_dig (by omega)]; rfl)) (hd 50 rfl) ?_; refine jo_l (ly_add rfl rfl (r := (((v.natAbs / 10 ^ (9 * k + j) % 10) + 1 : Nat) : Int)) (by rw [show ((((v.natAbs / 10 ^ (9 * k + j) % 10) : Nat) : Int) + 1) = (((v.natAbs / 10 ^ (9 * k + j) % 10) + 1 : Nat) : Int) from rfl]; exact wrap_i64 (by omega) (by omega))) (hd 51 rfl) ?_; refine jo_l (ly_sls (l := (v.natAbs / 10 ^ (9 * k + j) % 10)) (h := (v.natAbs / 10 ^ (9 * k + j) % 10) + 1) und9 rfl (bnd_some' rfl rfl) (bnd_some' rfl rfl) (by omega) (by show _ ≤ 10; omega)) (hd 52 rfl) ?_; refine jo_l (ly_mv rfl) (hd 53 rfl) ?_; refine jo_l (ly_adds rfl rfl (by rw [htj]; show ((( tab10.extract (v.natAbs / 10 ^ (9 * k + j) % 10) ((v.natAbs / 10 ^ (9 * k + j) % 10) + 1)).size + _ : Nat) : Int) ≤ 9223372036854775807; rw [tab10_ext (by omega), txt_size]; simp; omega)) (hd 54 rfl) ?_; refine jo_l (ly_as rfl) (hd 9 rfl) ?_; refine jo_nil ?_; refine jc_region ?_; refine jo_l (ly_mv rfl) (hd 55 rfl) ?_; refine jo_l (ly_quo rfl rfl (by decide) (r := (((v.natAbs / 10 ^ (9 * k)) % 10 ^ 9 / 10 ^ (j + 1) : Nat) : Int)) (by rw [show (((((v.natAbs / 10 ^ (9 * k)) % 10 ^ 9 / 10 ^ j) : Nat) : Int).tdiv 10) = ((((v.natAbs / 10 ^ (9 * k)) % 10 ^ 9 / 10 ^ j) / 10 : Nat) : Int) from rfl, Nat.div_div_eq_div_mul, ← Nat.pow_succ]; exact wrapN (Nat.lt_of_le_of_lt (Nat.div_le_self _ _) (Nat.lt_of_lt_of_le (Nat.mod_lt _ (by decide)) (by decide))))) (hd 56 rfl) ?_; refine jo_l (ly_as rfl) (hd 8 rfl) ?_; refine jo_nil ?_; refine jc_region ?_; refine jo_l (ly_mv rfl) (hd 45 rfl) ?_; refine jo_l (ly_add rfl rfl (r := ((j + 1 : Nat) : Int)) (by rw [wrap_i64 (by omega) (by omega)]; omega)) (hd 46 rfl) ?_; refine jo_l (ly_as rfl) (hd 10 rfl) ?_; refine jo_nil ?_
                  refine ⟨j + 1, ?_, ?_, rfl, cov_n 54 rfl rfl ?_⟩
                  · omega
                  · omega
                  · exact (.cons rfl (.cons (by show some (V.s _) = some (V.s _); rw [← dig_ahead_t (by rw [← nine_pow]; exact (nine_more (by omega)).1 (by first | (left; omega) | (right; intro h0; simp_all [digs_0])))]; rfl) (.cons rfl (.u (.u (.u (.u (.u (.u (.u (.u (.u (.u (.u (.u (.u (.u (.u (.u (.u (.u (.u (.u (.u (.u (.u .nil))))))))))))))))))))))))))
                · refine jo_g 39 rfl rfl (ly_mv rfl) (hd 40 rfl) ?_
                  refine jo_callg Try.f76 39 rfl rfl (Zero_s (digs B32 ((v.natAbs / 10 ^ (9 * k)) / 10 ^ 9))) rfl Try.func76 rfl rfl (ovL_cons rfl ovL_nil) (.cons .n .nil) (hd 41 rfl) ?_ (fun ch hp => by simp at hp)
                  rintro y hy; injection hy with hy; subst hy; refine jo_g 39 rfl rfl (ly_not rfl) (hd 42 rfl) ?_; refine jo_g 36 rfl rfl (ly_pick_f rfl rfl) (hd 43 rfl) ?_; refine jo_l (ly_pick_t rfl rfl) (hd 44 rfl) ?_; refine jo_nil ?_
                  refine jc_ifn rfl (fun h7 => ?_) (fun h7 => ?_)
                  · have hne : v.natAbs / 10 ^ (9 * k + j) ≠ 0 := by rw [← nine_pow]; exact (nine_more (by omega)).1 (by first | (left; omega) | (right; intro h0; simp_all [digs_0]))
                    refine jc_skip ?_; refine jc_seq ?_; refine jc_block ?_; refine jc_seq ?_; refine jc_region ?_; refine jo_l (ly_mv rfl) (hd 47 rfl) ?_; refine jo_l (ly_is (ly_rem rfl rfl (by decide) rfl) (show V.i .i64 _ = V.i .i64 (((v.natAbs / 10 ^ (9 * k + j) % 10) : Nat) : Int) by rw [← nine_pow, ← nine_dig (by omega)]; rfl)) (hd 48 rfl) ?_; refine jo_l (ly_mv rfl) (hd 49 rfl) ?_; refine jo_l (ly_is (ly_rem rfl rfl (by decide) rfl) (show V.i .i64 _ = V.i .i64 (((v.natAbs / 10 ^ (9 * k + j) % 10) : Nat) : Int) by rw [← nine_pow, ← nine_dig (by omega)]; rfl)) (hd 50 rfl) ?_; refine jo_l (ly_add rfl rfl (r := (((v.natAbs / 10 ^ (9 * k + j) % 10) + 1 : Nat) : Int)) (by rw [show ((((v.natAbs / 10 ^ (9 * k + j) % 10) : Nat) : Int) + 1) = (((v.natAbs / 10 ^ (9 * k + j) % 10) + 1 : Nat) : Int) from rfl]; exact wrap_i64 (by omega) (by omega))) (hd 51 rfl) ?_; refine jo_l (ly_sls (l := (v.natAbs / 10 ^ (9 * k + j) % 10)) (h := (v.natAbs / 10 ^ (9 * k + j) % 10) + 1) und9 rfl (bnd_some' rfl rfl) (bnd_some' rfl rfl) (by omega) (by show _ ≤ 10; omega)) (hd 52 rfl) ?_; refine jo_l (ly_mv rfl) (hd 53 rfl) ?_; refine jo_l (ly_adds rfl rfl (by rw [htj]; show ((( tab10.extract (v.natAbs / 10 ^ (9 * k + j) % 10) ((v.natAbs / 10 ^ (9 * k + j) % 10) + 1)).size + _ : Nat) : Int) ≤ 9223372036854775807; rw [tab10_ext (by omega), txt_size]; simp; omega)) (hd 54 rfl) ?_; refine jo_l (ly_as rfl) (hd 9 rfl) ?_; refine jo_nil ?_; refine jc_region ?_; refine jo_l (ly_mv rfl) (hd 55 rfl) ?_; refine jo_l (ly_quo rfl rfl (by decide) (r := (((v.natAbs / 10 ^ (9 * k)) % 10 ^ 9 / 10 ^ (j + 1) : Nat) : Int)) (by rw [show (((((v.natAbs / 10 ^ (9 * k)) % 10 ^ 9 / 10 ^ j) : Nat) : Int).tdiv 10) = ((((v.natAbs / 10 ^ (9 * k)) % 10 ^ 9 / 10 ^ j) / 10 : Nat) : Int) from rfl, Nat.div_div_eq_div_mul, ← Nat.pow_succ]; exact wrapN (Nat.lt_of_le_of_lt (Nat.div_le_self _ _) (Nat.lt_of_lt_of_le (Nat.mod_lt _ (by decide)) (by decide))))) (hd 56 rfl) ?_; refine jo_l (ly_as rfl) (hd 8 rfl) ?_; refine jo_nil ?_; refine jc_region ?_; refine jo_l (ly_mv rfl) (hd 45 rfl) ?_; refine jo_l (ly_add rfl rfl (r := ((j + 1 : Nat) : Int)) (by rw [wrap_i64 (by omega) (by omega)]; omega)) (hd 46 rfl) ?_; refine jo_l (ly_as rfl) (hd 10 rfl) ?_; refine jo_nil ?_
                    refine ⟨j + 1, ?_, ?_, rfl, cov_n 54 rfl rfl ?_⟩
                    · omega
                    · omega
                    · exact (.cons rfl (.cons (by show some (V.s _) = some (V.s _); rw [← dig_ahead_t (by rw [← nine_pow]; exact (nine_more (by omega)).1 (by first | (left; omega) | (right; intro h0; simp_all [digs_0])))]; rfl) (.cons rfl (.u (.u (.u (.u (.u (.u (.u (.u (.u (.u (.u (.u (.u (.u (.u (.u (.u (.u (.u (.u (.u (.u (.u .nil))))))))))))))))))))))))))
                  · refine jc_exit ?_
                    refine ⟨j, ?_, rfl, cov_n 40 rfl rfl ?_⟩
                    · exact ⟨hj, by by_cases h9 : j = 9; exact .inl h9; refine .inr (Classical.byContradiction fun hc => ?_); rw [← nine_pow] at hc; rcases (nine_more (by omega)).2 hc with h | h <;> first | omega | (have h7 : (digs B32 ((v.natAbs / 10 ^ (9 * k)) / 10 ^ 9)).length ≠ 0 := fun h8 => h (digs_nil.1 (List.eq_nil_of_length_eq_zero h8)); first | omega | simp_all)⟩
                    · exact (.cons rfl (.u (.u (.u (.u (.u (.u (.u (.u (.u (.u (.u (.u (.u (.u (.u (.u (.u (.u (.u (.u (.u (.u (.u (.u (.u .nil))))))))))))))))))))))))))
              · refine jo_s 36 rfl rfl rfl (hd 37 rfl) ?_; refine jo_s 36 rfl rfl rfl (hd 38 rfl) ?_; refine jo_s 36 rfl rfl rfl (hd 39 rfl) ?_; refine jo_s' 39 rfl rfl (hd 40 rfl) ?_; refine jo_s' 39 rfl rfl (hd 41 rfl) ?_; refine jo_s' 39 rfl rfl (hd 42 rfl) ?_; refine jo_s 36 rfl rfl rfl (hd 43 rfl) ?_; refine jo_l (ly_pick_f rfl rfl) (hd 44 rfl) ?_; refine jo_nil ?_; refine jc_litf rfl ?_; refine jc_exit ?_
                refine ⟨j, ?_, rfl, cov_n 39 rfl rfl ?_⟩
                · exact ⟨hj, by by_cases h9 : j = 9; exact .inl h9; refine .inr (Classical.byContradiction fun hc => ?_); rw [← nine_pow] at hc; rcases (nine_more (by omega)).2 hc with h | h <;> first | omega | (have h7 : (digs B32 ((v.natAbs / 10 ^ (9 * k)) / 10 ^ 9)).length ≠ 0 := fun h8 => h (digs_nil.1 (List.eq_nil_of_length_eq_zero h8)); first | omega | simp_all)⟩
                · exact (.cons rfl (.u (.u (.u (.u (.u (.u (.u (.u (.u (.u (.u (.u (.u (.u (.u (.u (.u (.u (.u (.u (.u (.u (.u (.u (.u .nil))))))))))))))))))))))))))
          · rintro j ⟨hj, hje⟩
            have htj := txt_size (((digs 10 v.natAbs).drop (9 * k)).take j).reverse
            rw [List.length_reverse, List.length_take] at htj
            refine jc_seq ?_; refine jc_region ?_; refine jo_l (ly_mv rfl) (hd 57 rfl) ?_; refine jo_l (ly_mv rfl) (hd 58 rfl) ?_; refine jo_l (ly_adds rfl rfl (by rw [htj, hts]; show _ ≤ (9223372036854775807 : Int); omega)) (hd 59 rfl) ?_; refine jo_l (ly_as rfl) (hd 3 rfl) ?_; refine jo_nil ?_; refine jc_region ?_; refine jo_l (ly_mv rfl) (hd 60 rfl) ?_; refine jo_l (ly_as rfl) (hd 5 rfl) ?_; refine jo_nil ?_
            refine ⟨k + 1, ?_, ?_, rfl, cov_n 103 (by kernel_rfl) (by kernel_rfl) ?_⟩
            · trivial
            · have := dgk_pos (b := 10) (by decide) hn0
              omega
            · exact (.cons (by show some (V.s _) = some (V.s _); rw [dig_round hj hje]) (.cons (by show some (V.n _ _ _) = some (V.n _ _ _); rw [nine_pow, show 9 * k + 9 = 9 * (k + 1) by omega]) (.u (.u (.u (.u (.u (.u (.u (.u (.u (.u (.u (.u (.u (.u (.u (.u (.u (.u (.u (.u (.u (.u (.u (.u (.u (.u (.u (.u (.u (.u (.u (.u (.u (.u (.u (.u (.u (.u (.u (.u (.u (.u (.u (.u (.u (.u (.u (.u .nil))))))))))))))))))))))))))))))))))))))))))))))))))
      · have hn0 : (v.natAbs / 10 ^ (9 * k)) = 0 := by have h1 := h2; exact digs_nil.1 (List.eq_nil_of_length_eq_zero (by omega))
        refine jc_exit ?_; refine jc_seq ?_; refine jc_seq ?_; refine jc_region ?_; refine jo_l (ly_fa fld35_0 rfl rfl rfl) (hd 61 rfl) ?_; refine jo_l (ly_ld one4 rfl rfl rfl) (hd 62 rfl) ?_; refine jo_nil ?_
        refine jc_if rfl (fun h9 => ?_) (fun h9 => ?_)
        · refine jc_seq ?_; refine jc_region ?_; refine jo_l (ly_mv rfl) (hd 63 rfl) ?_; refine jo_l (ly_adds rfl rfl (by rw [hts]; show ((1 + _ : Nat) : Int) ≤ 9223372036854775807; omega)) (hd 64 rfl) ?_; refine jo_l (ly_as rfl) (hd 2 rfl) ?_; refine jo_nil ?_; refine jc_ret ?_
          refine ⟨_, _, (.cons rfl .nil), .s, ?_⟩
          rw [dig_all hx0 hn0]
          exact congrArg (fun z => Out.ret (V.s z)) (by unfold wtxt; rw [if_pos (by assumption)])
        · refine jc_skip ?_; refine jc_seq ?_; refine jc_region ?_; refine jo_l (ly_mv rfl) (hd 65 rfl) ?_; refine jo_l (ly_as rfl) (hd 2 rfl) ?_; refine jo_nil ?_; refine jc_ret ?_
          refine ⟨_, _, (.cons rfl .nil), .s, ?_⟩
          rw [dig_all hx0 hn0]
          exact congrArg (fun z => Out.ret (V.s z)) (by unfold wtxt; rw [if_neg (by assumption)])
end Go.Proofs.Ytcfdclehmpfkcaa.Vc

/- Contracts of whole.Parse with an own row. -/
namespace Go.Proofs.Ytcfdclehmpfkcaa.Vc
open Go Go.RowKit
set_option maxHeartbeats 4000000 in
theorem WParseN_mk (t : ByteArray) (hsz : ((⟨#[45]⟩ : ByteArray) ++ t).size ≤ 1048576) (v : Int) (hv0 : 0 ≤ v) (hv9 : lenV v ≤ 67108864) (hP : Spec Try.prog 16 [.s t, .i .i64 10] (fun o => o = .ret (.t [.n false .u64 (lm v), .i .i64 0]))) : SpecM Try.prog 38 [.s ((⟨#[45]⟩ : ByteArray) ++ t)] [] (fun o G => o = .ret (.t [.a [.b (decide ((-v) < 0)), .o 0 0 0 (lm (-v)).length], .i .i64 0]) ∧ G = [⟨90, 1, 0, true, ints .u64 (lm (-v))⟩]) := by
  refine specS_of [(0, .s ((⟨#[45]⟩ : ByteArray) ++ t))] rfl Try.func38 rfl (Nat.le_of_ble_eq_true rfl) fun Γ hN hds hL hR => ?_
  have hd : ∀ d, Nat.blt d 42 = true → d < Γ.N := fun d h => by rw [hN]; exact Nat.le_of_ble_eq_true h
  have hone := one_size 45 t
  have hb0 := byte0 45 t
  have hb0' : byteAt ((⟨#[45]⟩ : ByteArray) ++ t) 0 = 45 := hb0
  refine jc_seq ?_; refine jc_region ?_; refine jo_h (hy_alloc (id := 0) zero30 (by decide) rfl (by decide) rfl) (hd 2 rfl) ?_; refine jo_l (ly_as rfl) (hd 3 rfl) ?_; refine jo_nil ?_; refine jc_seq ?_; refine jc_seq ?_; refine jc_region ?_; refine jo_l (ly_mv rfl) (hd 7 rfl) ?_; refine jo_l (ly_lens und9 rfl) (hd 8 rfl) ?_; refine jo_l (ly_ff (ly_gt rfl rfl) (by have := hsz; omega)) (hd 9 rfl) ?_; refine jo_nil ?_; refine jc_litf rfl ?_; refine jc_skip ?_; refine jc_seq ?_; refine jc_region ?_; refine jo_l (ly_as rfl) (hd 4 rfl) ?_; refine jo_nil ?_; refine jc_seq ?_; refine jc_seq ?_; refine jc_region ?_; refine jo_l (ly_mv rfl) (hd 11 rfl) ?_; refine jo_l (ly_tt (ly_neS rfl rfl) (fun h => by have h1 := congrArg ByteArray.size h; rw [hone] at h1; have h2 : 1 + t.size = 0 := h1; omega)) (hd 12 rfl) ?_; refine jo_l (ly_mv rfl) (hd 13 rfl) ?_; refine jo_g 13 rfl rfl (ly_mv rfl) (hd 14 rfl) ?_; refine jo_g 13 rfl rfl (ly_ixs (i := 0) und9 rfl rfl (by first | rfl | omega) (by omega)) (hd 15 rfl) ?_; refine jo_g 13 rfl rfl (ly_tt (ly_eq rfl rfl) (by omega)) (hd 16 rfl) ?_; refine jo_g 13 rfl rfl (ly_mv rfl) (hd 17 rfl) ?_; refine jo_s 17 rfl rfl rfl (hd 18 rfl) ?_; refine jo_s 17 rfl rfl rfl (hd 19 rfl) ?_; refine jo_s 17 rfl rfl rfl (hd 20 rfl) ?_; refine jo_g 13 rfl rfl (ly_pick_t rfl rfl) (hd 21 rfl) ?_; refine jo_l (ly_pick_t rfl rfl) (hd 22 rfl) ?_; refine jo_nil ?_; refine jc_litt rfl ?_; refine jc_draw (n := 7) _ rfl mixed ?_; refine ja_l2 0 [1, 2, 5, 6] (lo_l (ly_mv rfl) (hd 23 rfl)) rfl (by kernel_rfl) (by kernel_rfl) (by kernel_rfl) (by kernel_rfl) (fun _ _ _ _ h => h) ?_; refine ja_l 1 (lo_l (ly_ixs (i := 0) und9 rfl rfl (by first | rfl | omega) (by omega)) (hd 24 rfl)) rfl (by kernel_rfl) (by kernel_rfl) (by kernel_rfl) (fun _ _ _ _ h => h) ?_; refine ja_l 2 (lo_l (ly_tt (ly_eq rfl rfl) (by omega)) (hd 25 rfl)) rfl (by kernel_rfl) (by kernel_rfl) (by kernel_rfl) (fun _ _ _ _ h => h) ?_; refine ja_l 3 (lo_l (ly_mv rfl) (hd 26 rfl)) rfl (by kernel_rfl) (by kernel_rfl) (by kernel_rfl) (fun _ _ _ _ h => h) ?_; refine ja_l 4 (lo_l (ly_is (ly_sls und9 rfl (bnd_some' (n := 1) rfl rfl) bnd_none (by omega) (by omega)) (show V.s _ = V.s t from congrArg V.s (ext1 45 t))) (hd 27 rfl)) rfl (by kernel_rfl) (by kernel_rfl) (by kernel_rfl) (fun _ _ _ _ h => h) ?_; refine ja_l 5 (lo_l (ly_as rfl) (hd 4 rfl)) rfl (by kernel_rfl) (by kernel_rfl) (by kernel_rfl) (fun _ _ _ _ h => h) ?_; refine ja_l 6 (lo_l (ly_as rfl) (hd 0 rfl)) rfl (by kernel_rfl) (by kernel_rfl) (by kernel_rfl) (fun _ _ _ _ h => h) ?_; refine ja_nil (by kernel_rfl) ?_; refine jc_seq ?_; refine jc_region ?_; refine jo_l (ly_mv rfl) (hd 29 rfl) ?_
  refine jo_call Try.f16 (hP) rfl Try.func16 rfl rfl (ovL_cons rfl (ovL_cons rfl ovL_nil)) (.cons .s (.cons .i .nil)) (hd 30 rfl) ?_ (fun ch hp => by simp at hp)
  rintro y hy; injection hy with hy; subst hy; refine jo_l (ly_mv rfl) (hd 28 rfl) ?_; refine jo_l (ly_ext rfl rfl) (hd 31 rfl) ?_; refine jo_l (ly_ext rfl rfl) (hd 32 rfl) ?_; refine jo_l (ly_as rfl) (hd 5 rfl) ?_; refine jo_l (ly_as rfl) (hd 6 rfl) ?_; refine jo_nil ?_; refine jc_seq ?_; refine jc_seq ?_; refine jc_region ?_; refine jo_l (ly_mv rfl) (hd 33 rfl) ?_; refine jo_l (ly_ff (ly_eq rfl rfl) (by decide)) (hd 34 rfl) ?_; refine jo_nil ?_; refine jc_litf rfl ?_; refine jc_skip ?_; refine jc_seq ?_; refine jc_region ?_; refine jo_l (ly_mv rfl) (hd 36 rfl) ?_; refine jo_l (ly_mv rfl) (hd 37 rfl) ?_; refine jo_l (ly_mv rfl) (hd 38 rfl) ?_
  refine jo_callN Try.f82 (result_nv true (lm v) (-v) (by have := lenV_lm hv9; omega) (lm_u _) (by show -(vl (lm v)) = -v; rw [vl_lm hv0]) (by rw [lenV_neg]; exact hv9)) (fun o G ⟨_, h⟩ => h ▸ idless_cons ints_id idless_nil) rfl Try.func82 rfl rfl (ovL_cons rfl (ovL_cons rfl (ovL_cons rfl ovL_nil))) (.cons .b (.cons .n (.cons .i .nil))) (hd 39 rfl) ?_ (fun ch G hp => by simp at hp)
  rintro y G ⟨hy, rfl⟩; injection hy with hy; subst hy
  show JO _ _ _ _ ((39, .t [.a [.b (decide ((-v) < 0)), .o 1 0 0 (lm (-v)).length], .i .i64 0]) :: _) _ _
  refine jo_l (ly_ext rfl rfl) (hd 40 rfl) ?_; refine jo_l (ly_ext rfl rfl) (hd 41 rfl) ?_; refine jo_st (sy_store rfl rfl rfl siz30 rfl rfl (Nat.le_of_ble_eq_true rfl)) ?_; refine jo_l (ly_as rfl) (hd 3 rfl) ?_; refine jo_nil ?_; refine jc_ret ?_
  refine ⟨[1], _, (.t [.a [.b (decide ((-v) < 0)), .o 0 0 0 (lm (-v)).length], .i .i64 0]), (.cons (ResV.cell agg30 rfl rfl rfl rfl) (.cons rfl .nil)), rfl, rfl, (by decide), (by first | exact idless_cons ints_id idless_nil | exact idless_cons rfl idless_nil), ?_⟩
  exact ⟨rfl, rfl⟩

set_option maxHeartbeats 4000000 in
theorem WParseN_pk (t : ByteArray) (hsz : ((⟨#[43]⟩ : ByteArray) ++ t).size ≤ 1048576) (v : Int) (hv0 : 0 ≤ v) (hv9 : lenV v ≤ 67108864) (hP : Spec Try.prog 16 [.s t, .i .i64 10] (fun o => o = .ret (.t [.n false .u64 (lm v), .i .i64 0]))) : SpecM Try.prog 38 [.s ((⟨#[43]⟩ : ByteArray) ++ t)] [] (fun o G => o = .ret (.t [.a [.b (decide (v < 0)), .o 0 0 0 (lm v).length], .i .i64 0]) ∧ G = [⟨90, 1, 0, true, ints .u64 (lm v)⟩]) := by
  refine specS_of [(0, .s ((⟨#[43]⟩ : ByteArray) ++ t))] rfl Try.func38 rfl (Nat.le_of_ble_eq_true rfl) fun Γ hN hds hL hR => ?_
  have hd : ∀ d, Nat.blt d 42 = true → d < Γ.N := fun d h => by rw [hN]; exact Nat.le_of_ble_eq_true h
  have hone := one_size 43 t
  have hb0 := byte0 43 t
  have hb0' : byteAt ((⟨#[43]⟩ : ByteArray) ++ t) 0 = 43 := hb0
  refine jc_seq ?_; refine jc_region ?_; refine jo_h (hy_alloc (id := 0) zero30 (by decide) rfl (by decide) rfl) (hd 2 rfl) ?_; refine jo_l (ly_as rfl) (hd 3 rfl) ?_; refine jo_nil ?_; refine jc_seq ?_; refine jc_seq ?_; refine jc_region ?_; refine jo_l (ly_mv rfl) (hd 7 rfl) ?_; refine jo_l (ly_lens und9 rfl) (hd 8 rfl) ?_; refine jo_l (ly_ff (ly_gt rfl rfl) (by have := hsz; omega)) (hd 9 rfl) ?_; refine jo_nil ?_; refine jc_litf rfl ?_; refine jc_skip ?_; refine jc_seq ?_; refine jc_region ?_; refine jo_l (ly_as rfl) (hd 4 rfl) ?_; refine jo_nil ?_; refine jc_seq ?_; refine jc_seq ?_; refine jc_region ?_; refine jo_l (ly_mv rfl) (hd 11 rfl) ?_; refine jo_l (ly_tt (ly_neS rfl rfl) (fun h => by have h1 := congrArg ByteArray.size h; rw [hone] at h1; have h2 : 1 + t.size = 0 := h1; omega)) (hd 12 rfl) ?_; refine jo_l (ly_mv rfl) (hd 13 rfl) ?_; refine jo_g 13 rfl rfl (ly_mv rfl) (hd 14 rfl) ?_; refine jo_g 13 rfl rfl (ly_ixs (i := 0) und9 rfl rfl (by first | rfl | omega) (by omega)) (hd 15 rfl) ?_; refine jo_g 13 rfl rfl (ly_ff (ly_eq rfl rfl) (by omega)) (hd 16 rfl) ?_; refine jo_g 13 rfl rfl (ly_mv rfl) (hd 17 rfl) ?_; refine jo_g 17 rfl rfl (ly_mv rfl) (hd 18 rfl) ?_; refine jo_g 17 rfl rfl (ly_ixs (i := 0) und9 rfl rfl (by first | rfl | omega) (by omega)) (hd 19 rfl) ?_; refine jo_g 17 rfl rfl (ly_tt (ly_eq rfl rfl) (by omega)) (hd 20 rfl) ?_; refine jo_g 13 rfl rfl (ly_pick_f rfl rfl) (hd 21 rfl) ?_; refine jo_l (ly_pick_t rfl rfl) (hd 22 rfl) ?_; refine jo_nil ?_; refine jc_litt rfl ?_; refine jc_draw (n := 7) _ rfl mixed ?_; refine ja_l2 0 [1, 2, 5, 6] (lo_l (ly_mv rfl) (hd 23 rfl)) rfl (by kernel_rfl) (by kernel_rfl) (by kernel_rfl) (by kernel_rfl) (fun _ _ _ _ h => h) ?_; refine ja_l 1 (lo_l (ly_ixs (i := 0) und9 rfl rfl (by first | rfl | omega) (by omega)) (hd 24 rfl)) rfl (by kernel_rfl) (by kernel_rfl) (by kernel_rfl) (fun _ _ _ _ h => h) ?_; refine ja_l 2 (lo_l (ly_ff (ly_eq rfl rfl) (by omega)) (hd 25 rfl)) rfl (by kernel_rfl) (by kernel_rfl) (by kernel_rfl) (fun _ _ _ _ h => h) ?_; refine ja_l 3 (lo_l (ly_mv rfl) (hd 26 rfl)) rfl (by kernel_rfl) (by kernel_rfl) (by kernel_rfl) (fun _ _ _ _ h => h) ?_; refine ja_l 4 (lo_l (ly_is (ly_sls und9 rfl (bnd_some' (n := 1) rfl rfl) bnd_none (by omega) (by omega)) (show V.s _ = V.s t from congrArg V.s (ext1 43 t))) (hd 27 rfl)) rfl (by kernel_rfl) (by kernel_rfl) (by kernel_rfl) (fun _ _ _ _ h => h) ?_; refine ja_l 5 (lo_l (ly_as rfl) (hd 4 rfl)) rfl (by kernel_rfl) (by kernel_rfl) (by kernel_rfl) (fun _ _ _ _ h => h) ?_; refine ja_l 6 (lo_l (ly_as rfl) (hd 0 rfl)) rfl (by kernel_rfl) (by kernel_rfl) (by kernel_rfl) (fun _ _ _ _ h => h) ?_; refine ja_nil (by kernel_rfl) ?_; refine jc_seq ?_; refine jc_region ?_; refine jo_l (ly_mv rfl) (hd 29 rfl) ?_
  refine jo_call Try.f16 (hP) rfl Try.func16 rfl rfl (ovL_cons rfl (ovL_cons rfl ovL_nil)) (.cons .s (.cons .i .nil)) (hd 30 rfl) ?_ (fun ch hp => by simp at hp)
  rintro y hy; injection hy with hy; subst hy; refine jo_l (ly_mv rfl) (hd 28 rfl) ?_; refine jo_l (ly_ext rfl rfl) (hd 31 rfl) ?_; refine jo_l (ly_ext rfl rfl) (hd 32 rfl) ?_; refine jo_l (ly_as rfl) (hd 5 rfl) ?_; refine jo_l (ly_as rfl) (hd 6 rfl) ?_; refine jo_nil ?_; refine jc_seq ?_; refine jc_seq ?_; refine jc_region ?_; refine jo_l (ly_mv rfl) (hd 33 rfl) ?_; refine jo_l (ly_ff (ly_eq rfl rfl) (by decide)) (hd 34 rfl) ?_; refine jo_nil ?_; refine jc_litf rfl ?_; refine jc_skip ?_; refine jc_seq ?_; refine jc_region ?_; refine jo_l (ly_mv rfl) (hd 36 rfl) ?_; refine jo_l (ly_mv rfl) (hd 37 rfl) ?_; refine jo_l (ly_mv rfl) (hd 38 rfl) ?_
  refine jo_callN Try.f82 (result_nv false (lm v) v (by have := lenV_lm hv9; omega) (lm_u _) (by show vl (lm v) = v; exact vl_lm hv0) (by exact hv9)) (fun o G ⟨_, h⟩ => h ▸ idless_cons ints_id idless_nil) rfl Try.func82 rfl rfl (ovL_cons rfl (ovL_cons rfl (ovL_cons rfl ovL_nil))) (.cons .b (.cons .n (.cons .i .nil))) (hd 39 rfl) ?_ (fun ch G hp => by simp at hp)
  rintro y G ⟨hy, rfl⟩; injection hy with hy; subst hy
  show JO _ _ _ _ ((39, .t [.a [.b (decide (v < 0)), .o 1 0 0 (lm v).length], .i .i64 0]) :: _) _ _
  refine jo_l (ly_ext rfl rfl) (hd 40 rfl) ?_; refine jo_l (ly_ext rfl rfl) (hd 41 rfl) ?_; refine jo_st (sy_store rfl rfl rfl siz30 rfl rfl (Nat.le_of_ble_eq_true rfl)) ?_; refine jo_l (ly_as rfl) (hd 3 rfl) ?_; refine jo_nil ?_; refine jc_ret ?_
  refine ⟨[1], _, (.t [.a [.b (decide (v < 0)), .o 0 0 0 (lm v).length], .i .i64 0]), (.cons (ResV.cell agg30 rfl rfl rfl rfl) (.cons rfl .nil)), rfl, rfl, (by decide), (by first | exact idless_cons ints_id idless_nil | exact idless_cons rfl idless_nil), ?_⟩
  exact ⟨rfl, rfl⟩

set_option maxHeartbeats 4000000 in
theorem WParseN_nk (t : ByteArray) (hs0 : t.size ≠ 0) (hc1 : byteAt t 0 ≠ 45) (hc2 : byteAt t 0 ≠ 43) (hsz : t.size ≤ 1048576) (v : Int) (hv0 : 0 ≤ v) (hv9 : lenV v ≤ 67108864) (hP : Spec Try.prog 16 [.s t, .i .i64 10] (fun o => o = .ret (.t [.n false .u64 (lm v), .i .i64 0]))) : SpecM Try.prog 38 [.s t] [] (fun o G => o = .ret (.t [.a [.b (decide (v < 0)), .o 0 0 0 (lm v).length], .i .i64 0]) ∧ G = [⟨90, 1, 0, true, ints .u64 (lm v)⟩]) := by
  refine specS_of [(0, .s t)] rfl Try.func38 rfl (Nat.le_of_ble_eq_true rfl) fun Γ hN hds hL hR => ?_
  have hd : ∀ d, Nat.blt d 42 = true → d < Γ.N := fun d h => by rw [hN]; exact Nat.le_of_ble_eq_true h
  refine jc_seq ?_; refine jc_region ?_; refine jo_h (hy_alloc (id := 0) zero30 (by decide) rfl (by decide) rfl) (hd 2 rfl) ?_; refine jo_l (ly_as rfl) (hd 3 rfl) ?_; refine jo_nil ?_; refine jc_seq ?_; refine jc_seq ?_; refine jc_region ?_; refine jo_l (ly_mv rfl) (hd 7 rfl) ?_; refine jo_l (ly_lens und9 rfl) (hd 8 rfl) ?_; refine jo_l (ly_ff (ly_gt rfl rfl) (by have := hsz; omega)) (hd 9 rfl) ?_; refine jo_nil ?_; refine jc_litf rfl ?_; refine jc_skip ?_; refine jc_seq ?_; refine jc_region ?_; refine jo_l (ly_as rfl) (hd 4 rfl) ?_; refine jo_nil ?_; refine jc_seq ?_; refine jc_seq ?_; refine jc_region ?_; refine jo_l (ly_mv rfl) (hd 11 rfl) ?_; refine jo_l (ly_tt (ly_neS rfl rfl) (fun h => hs0 (by rw [h]; rfl))) (hd 12 rfl) ?_; refine jo_l (ly_mv rfl) (hd 13 rfl) ?_; refine jo_g 13 rfl rfl (ly_mv rfl) (hd 14 rfl) ?_; refine jo_g 13 rfl rfl (ly_ixs (i := 0) und9 rfl rfl (by first | rfl | omega) (by omega)) (hd 15 rfl) ?_; refine jo_g 13 rfl rfl (ly_ff (ly_eq rfl rfl) (by omega)) (hd 16 rfl) ?_; refine jo_g 13 rfl rfl (ly_mv rfl) (hd 17 rfl) ?_; refine jo_g 17 rfl rfl (ly_mv rfl) (hd 18 rfl) ?_; refine jo_g 17 rfl rfl (ly_ixs (i := 0) und9 rfl rfl (by first | rfl | omega) (by omega)) (hd 19 rfl) ?_; refine jo_g 17 rfl rfl (ly_ff (ly_eq rfl rfl) (by omega)) (hd 20 rfl) ?_; refine jo_g 13 rfl rfl (ly_pick_f rfl rfl) (hd 21 rfl) ?_; refine jo_l (ly_pick_t rfl rfl) (hd 22 rfl) ?_; refine jo_nil ?_; refine jc_litf rfl ?_; refine jc_skip ?_; refine jc_seq ?_; refine jc_region ?_; refine jo_l (ly_mv rfl) (hd 29 rfl) ?_
  refine jo_call Try.f16 (hP) rfl Try.func16 rfl rfl (ovL_cons rfl (ovL_cons rfl ovL_nil)) (.cons .s (.cons .i .nil)) (hd 30 rfl) ?_ (fun ch hp => by simp at hp)
  rintro y hy; injection hy with hy; subst hy; refine jo_l (ly_mv rfl) (hd 28 rfl) ?_; refine jo_l (ly_ext rfl rfl) (hd 31 rfl) ?_; refine jo_l (ly_ext rfl rfl) (hd 32 rfl) ?_; refine jo_l (ly_as rfl) (hd 5 rfl) ?_; refine jo_l (ly_as rfl) (hd 6 rfl) ?_; refine jo_nil ?_; refine jc_seq ?_; refine jc_seq ?_; refine jc_region ?_; refine jo_l (ly_mv rfl) (hd 33 rfl) ?_; refine jo_l (ly_ff (ly_eq rfl rfl) (by decide)) (hd 34 rfl) ?_; refine jo_nil ?_; refine jc_litf rfl ?_; refine jc_skip ?_; refine jc_seq ?_; refine jc_region ?_; refine jo_l (ly_mv rfl) (hd 36 rfl) ?_; refine jo_l (ly_mv rfl) (hd 37 rfl) ?_; refine jo_l (ly_mv rfl) (hd 38 rfl) ?_
  refine jo_callN Try.f82 (result_nv false (lm v) v (by have := lenV_lm hv9; omega) (lm_u _) (by show vl (lm v) = v; exact vl_lm hv0) (by exact hv9)) (fun o G ⟨_, h⟩ => h ▸ idless_cons ints_id idless_nil) rfl Try.func82 rfl rfl (ovL_cons rfl (ovL_cons rfl (ovL_cons rfl ovL_nil))) (.cons .b (.cons .n (.cons .i .nil))) (hd 39 rfl) ?_ (fun ch G hp => by simp at hp)
  rintro y G ⟨hy, rfl⟩; injection hy with hy; subst hy
  show JO _ _ _ _ ((39, .t [.a [.b (decide (v < 0)), .o 1 0 0 (lm v).length], .i .i64 0]) :: _) _ _
  refine jo_l (ly_ext rfl rfl) (hd 40 rfl) ?_; refine jo_l (ly_ext rfl rfl) (hd 41 rfl) ?_; refine jo_st (sy_store rfl rfl rfl siz30 rfl rfl (Nat.le_of_ble_eq_true rfl)) ?_; refine jo_l (ly_as rfl) (hd 3 rfl) ?_; refine jo_nil ?_; refine jc_ret ?_
  refine ⟨[1], _, (.t [.a [.b (decide (v < 0)), .o 0 0 0 (lm v).length], .i .i64 0]), (.cons (ResV.cell agg30 rfl rfl rfl rfl) (.cons rfl .nil)), rfl, rfl, (by decide), (by first | exact idless_cons ints_id idless_nil | exact idless_cons rfl idless_nil), ?_⟩
  exact ⟨rfl, rfl⟩

set_option maxHeartbeats 4000000 in
theorem WParseN_mb (t : ByteArray) (hsz : ((⟨#[45]⟩ : ByteArray) ++ t).size ≤ 1048576) (hP : Spec Try.prog 16 [.s t, .i .i64 10] (fun o => o = .ret (.t [.n false .u64 [], .i .i64 51]))) : SpecM Try.prog 38 [.s ((⟨#[45]⟩ : ByteArray) ++ t)] [] (fun o G => o = .ret (.t [.a [.b false, .o 0 0 0 0], .i .i64 62]) ∧ G = [⟨90, 1, 0, true, ints .u64 []⟩]) := by
  refine specS_of [(0, .s ((⟨#[45]⟩ : ByteArray) ++ t))] rfl Try.func38 rfl (Nat.le_of_ble_eq_true rfl) fun Γ hN hds hL hR => ?_
  have hd : ∀ d, Nat.blt d 42 = true → d < Γ.N := fun d h => by rw [hN]; exact Nat.le_of_ble_eq_true h
  have hone := one_size 45 t
  have hb0 := byte0 45 t
  have hb0' : byteAt ((⟨#[45]⟩ : ByteArray) ++ t) 0 = 45 := hb0
  refine jc_seq ?_; refine jc_region ?_; refine jo_h (hy_alloc (id := 0) zero30 (by decide) rfl (by decide) rfl) (hd 2 rfl) ?_; refine jo_l (ly_as rfl) (hd 3 rfl) ?_; refine jo_nil ?_; refine jc_seq ?_; refine jc_seq ?_; refine jc_region ?_; refine jo_l (ly_mv rfl) (hd 7 rfl) ?_; refine jo_l (ly_lens und9 rfl) (hd 8 rfl) ?_; refine jo_l (ly_ff (ly_gt rfl rfl) (by have := hsz; omega)) (hd 9 rfl) ?_; refine jo_nil ?_; refine jc_litf rfl ?_; refine jc_skip ?_; refine jc_seq ?_; refine jc_region ?_; refine jo_l (ly_as rfl) (hd 4 rfl) ?_; refine jo_nil ?_; refine jc_seq ?_; refine jc_seq ?_; refine jc_region ?_; refine jo_l (ly_mv rfl) (hd 11 rfl) ?_; refine jo_l (ly_tt (ly_neS rfl rfl) (fun h => by have h1 := congrArg ByteArray.size h; rw [hone] at h1; have h2 : 1 + t.size = 0 := h1; omega)) (hd 12 rfl) ?_; refine jo_l (ly_mv rfl) (hd 13 rfl) ?_; refine jo_g 13 rfl rfl (ly_mv rfl) (hd 14 rfl) ?_; refine jo_g 13 rfl rfl (ly_ixs (i := 0) und9 rfl rfl (by first | rfl | omega) (by omega)) (hd 15 rfl) ?_; refine jo_g 13 rfl rfl (ly_tt (ly_eq rfl rfl) (by omega)) (hd 16 rfl) ?_; refine jo_g 13 rfl rfl (ly_mv rfl) (hd 17 rfl) ?_; refine jo_s 17 rfl rfl rfl (hd 18 rfl) ?_; refine jo_s 17 rfl rfl rfl (hd 19 rfl) ?_; refine jo_s 17 rfl rfl rfl (hd 20 rfl) ?_; refine jo_g 13 rfl rfl (ly_pick_t rfl rfl) (hd 21 rfl) ?_; refine jo_l (ly_pick_t rfl rfl) (hd 22 rfl) ?_; refine jo_nil ?_; refine jc_litt rfl ?_; refine jc_draw (n := 7) _ rfl mixed ?_; refine ja_l2 0 [1, 2, 5, 6] (lo_l (ly_mv rfl) (hd 23 rfl)) rfl (by kernel_rfl) (by kernel_rfl) (by kernel_rfl) (by kernel_rfl) (fun _ _ _ _ h => h) ?_; refine ja_l 1 (lo_l (ly_ixs (i := 0) und9 rfl rfl (by first | rfl | omega) (by omega)) (hd 24 rfl)) rfl (by kernel_rfl) (by kernel_rfl) (by kernel_rfl) (fun _ _ _ _ h => h) ?_; refine ja_l 2 (lo_l (ly_tt (ly_eq rfl rfl) (by omega)) (hd 25 rfl)) rfl (by kernel_rfl) (by kernel_rfl) (by kernel_rfl) (fun _ _ _ _ h => h) ?_; refine ja_l 3 (lo_l (ly_mv rfl) (hd 26 rfl)) rfl (by kernel_rfl) (by kernel_rfl) (by kernel_rfl) (fun _ _ _ _ h => h) ?_; refine ja_l 4 (lo_l (ly_is (ly_sls und9 rfl (bnd_some' (n := 1) rfl rfl) bnd_none (by omega) (by omega)) (show V.s _ = V.s t from congrArg V.s (ext1 45 t))) (hd 27 rfl)) rfl (by kernel_rfl) (by kernel_rfl) (by kernel_rfl) (fun _ _ _ _ h => h) ?_; refine ja_l 5 (lo_l (ly_as rfl) (hd 4 rfl)) rfl (by kernel_rfl) (by kernel_rfl) (by kernel_rfl) (fun _ _ _ _ h => h) ?_; refine ja_l 6 (lo_l (ly_as rfl) (hd 0 rfl)) rfl (by kernel_rfl) (by kernel_rfl) (by kernel_rfl) (fun _ _ _ _ h => h) ?_; refine ja_nil (by kernel_rfl) ?_; refine jc_seq ?_; refine jc_region ?_; refine jo_l (ly_mv rfl) (hd 29 rfl) ?_
  refine jo_call Try.f16 (hP) rfl Try.func16 rfl rfl (ovL_cons rfl (ovL_cons rfl ovL_nil)) (.cons .s (.cons .i .nil)) (hd 30 rfl) ?_ (fun ch hp => by simp at hp)
  rintro y hy; injection hy with hy; subst hy; refine jo_l (ly_mv rfl) (hd 28 rfl) ?_; refine jo_l (ly_ext rfl rfl) (hd 31 rfl) ?_; refine jo_l (ly_ext rfl rfl) (hd 32 rfl) ?_; refine jo_l (ly_as rfl) (hd 5 rfl) ?_; refine jo_l (ly_as rfl) (hd 6 rfl) ?_; refine jo_nil ?_; refine jc_seq ?_; refine jc_seq ?_; refine jc_region ?_; refine jo_l (ly_mv rfl) (hd 33 rfl) ?_; refine jo_l (ly_tt (ly_eq rfl rfl) (by decide)) (hd 34 rfl) ?_; refine jo_nil ?_; refine jc_litt rfl ?_; refine jc_seq ?_; refine jc_region ?_; refine jo_l (ly_build (is := []) (xs := []) (pls := []) zero30 pls30_ rfl ovL_nil rfl trivial (all_of rfl) rfl) (hd 35 rfl) ?_; refine jo_st (sy_store rfl rfl rfl siz30 rfl rfl (Nat.le_of_ble_eq_true rfl)) ?_; refine jo_l (ly_as rfl) (hd 3 rfl) ?_; refine jo_nil ?_; refine jc_own0c (id := 0) 1 90 1 rfl rfl rfl ?_; refine jc_ret ?_
  refine ⟨[1], _, (.t [.a [.b false, .o 0 0 0 0], .i .i64 62]), (.cons (ResV.cell agg30 rfl rfl rfl rfl) (.cons rfl .nil)), rfl, rfl, (by decide), (by first | exact idless_cons ints_id idless_nil | exact idless_cons rfl idless_nil), ?_⟩
  exact ⟨rfl, rfl⟩

set_option maxHeartbeats 4000000 in
theorem WParseN_pb (t : ByteArray) (hsz : ((⟨#[43]⟩ : ByteArray) ++ t).size ≤ 1048576) (hP : Spec Try.prog 16 [.s t, .i .i64 10] (fun o => o = .ret (.t [.n false .u64 [], .i .i64 51]))) : SpecM Try.prog 38 [.s ((⟨#[43]⟩ : ByteArray) ++ t)] [] (fun o G => o = .ret (.t [.a [.b false, .o 0 0 0 0], .i .i64 62]) ∧ G = [⟨90, 1, 0, true, ints .u64 []⟩]) := by
  refine specS_of [(0, .s ((⟨#[43]⟩ : ByteArray) ++ t))] rfl Try.func38 rfl (Nat.le_of_ble_eq_true rfl) fun Γ hN hds hL hR => ?_
  have hd : ∀ d, Nat.blt d 42 = true → d < Γ.N := fun d h => by rw [hN]; exact Nat.le_of_ble_eq_true h
  have hone := one_size 43 t
  have hb0 := byte0 43 t
  have hb0' : byteAt ((⟨#[43]⟩ : ByteArray) ++ t) 0 = 43 := hb0
  refine jc_seq ?_; refine jc_region ?_; refine jo_h (hy_alloc (id := 0) zero30 (by decide) rfl (by decide) rfl) (hd 2 rfl) ?_; refine jo_l (ly_as rfl) (hd 3 rfl) ?_; refine jo_nil ?_; refine jc_seq ?_; refine jc_seq ?_; refine jc_region ?_; refine jo_l (ly_mv rfl) (hd 7 rfl) ?_; refine jo_l (ly_lens und9 rfl) (hd 8 rfl) ?_; refine jo_l (ly_ff (ly_gt rfl rfl) (by have := hsz; omega)) (hd 9 rfl) ?_; refine jo_nil ?_; refine jc_litf rfl ?_; refine jc_skip ?_; refine jc_seq ?_; refine jc_region ?_; refine jo_l (ly_as rfl) (hd 4 rfl) ?_; refine jo_nil ?_; refine jc_seq ?_; refine jc_seq ?_; refine jc_region ?_; refine jo_l (ly_mv rfl) (hd 11 rfl) ?_; refine jo_l (ly_tt (ly_neS rfl rfl) (fun h => by have h1 := congrArg ByteArray.size h; rw [hone] at h1; have h2 : 1 + t.size = 0 := h1; omega)) (hd 12 rfl) ?_; refine jo_l (ly_mv rfl) (hd 13 rfl) ?_; refine jo_g 13 rfl rfl (ly_mv rfl) (hd 14 rfl) ?_; refine jo_g 13 rfl rfl (ly_ixs (i := 0) und9 rfl rfl (by first | rfl | omega) (by omega)) (hd 15 rfl) ?_; refine jo_g 13 rfl rfl (ly_ff (ly_eq rfl rfl) (by omega)) (hd 16 rfl) ?_; refine jo_g 13 rfl rfl (ly_mv rfl) (hd 17 rfl) ?_; refine jo_g 17 rfl rfl (ly_mv rfl) (hd 18 rfl) ?_; refine jo_g 17 rfl rfl (ly_ixs (i := 0) und9 rfl rfl (by first | rfl | omega) (by omega)) (hd 19 rfl) ?_; refine jo_g 17 rfl rfl (ly_tt (ly_eq rfl rfl) (by omega)) (hd 20 rfl) ?_; refine jo_g 13 rfl rfl (ly_pick_f rfl rfl) (hd 21 rfl) ?_; refine jo_l (ly_pick_t rfl rfl) (hd 22 rfl) ?_; refine jo_nil ?_; refine jc_litt rfl ?_; refine jc_draw (n := 7) _ rfl mixed ?_; refine ja_l2 0 [1, 2, 5, 6] (lo_l (ly_mv rfl) (hd 23 rfl)) rfl (by kernel_rfl) (by kernel_rfl) (by kernel_rfl) (by kernel_rfl) (fun _ _ _ _ h => h) ?_; refine ja_l 1 (lo_l (ly_ixs (i := 0) und9 rfl rfl (by first | rfl | omega) (by omega)) (hd 24 rfl)) rfl (by kernel_rfl) (by kernel_rfl) (by kernel_rfl) (fun _ _ _ _ h => h) ?_; refine ja_l 2 (lo_l (ly_ff (ly_eq rfl rfl) (by omega)) (hd 25 rfl)) rfl (by kernel_rfl) (by kernel_rfl) (by kernel_rfl) (fun _ _ _ _ h => h) ?_; refine ja_l 3 (lo_l (ly_mv rfl) (hd 26 rfl)) rfl (by kernel_rfl) (by kernel_rfl) (by kernel_rfl) (fun _ _ _ _ h => h) ?_; refine ja_l 4 (lo_l (ly_is (ly_sls und9 rfl (bnd_some' (n := 1) rfl rfl) bnd_none (by omega) (by omega)) (show V.s _ = V.s t from congrArg V.s (ext1 43 t))) (hd 27 rfl)) rfl (by kernel_rfl) (by kernel_rfl) (by kernel_rfl) (fun _ _ _ _ h => h) ?_; refine ja_l 5 (lo_l (ly_as rfl) (hd 4 rfl)) rfl (by kernel_rfl) (by kernel_rfl) (by kernel_rfl) (fun _ _ _ _ h => h) ?_; refine ja_l 6 (lo_l (ly_as rfl) (hd 0 rfl)) rfl (by kernel_rfl) (by kernel_rfl) (by kernel_rfl) (fun _ _ _ _ h => h) ?_; refine ja_nil (by kernel_rfl) ?_; refine jc_seq ?_; refine jc_region ?_; refine jo_l (ly_mv rfl) (hd 29 rfl) ?_
  refine jo_call Try.f16 (hP) rfl Try.func16 rfl rfl (ovL_cons rfl (ovL_cons rfl ovL_nil)) (.cons .s (.cons .i .nil)) (hd 30 rfl) ?_ (fun ch hp => by simp at hp)
  rintro y hy; injection hy with hy; subst hy; refine jo_l (ly_mv rfl) (hd 28 rfl) ?_; refine jo_l (ly_ext rfl rfl) (hd 31 rfl) ?_; refine jo_l (ly_ext rfl rfl) (hd 32 rfl) ?_; refine jo_l (ly_as rfl) (hd 5 rfl) ?_; refine jo_l (ly_as rfl) (hd 6 rfl) ?_; refine jo_nil ?_; refine jc_seq ?_; refine jc_seq ?_; refine jc_region ?_; refine jo_l (ly_mv rfl) (hd 33 rfl) ?_; refine jo_l (ly_tt (ly_eq rfl rfl) (by decide)) (hd 34 rfl) ?_; refine jo_nil ?_; refine jc_litt rfl ?_; refine jc_seq ?_; refine jc_region ?_; refine jo_l (ly_build (is := []) (xs := []) (pls := []) zero30 pls30_ rfl ovL_nil rfl trivial (all_of rfl) rfl) (hd 35 rfl) ?_; refine jo_st (sy_store rfl rfl rfl siz30 rfl rfl (Nat.le_of_ble_eq_true rfl)) ?_; refine jo_l (ly_as rfl) (hd 3 rfl) ?_; refine jo_nil ?_; refine jc_own0c (id := 0) 1 90 1 rfl rfl rfl ?_; refine jc_ret ?_
  refine ⟨[1], _, (.t [.a [.b false, .o 0 0 0 0], .i .i64 62]), (.cons (ResV.cell agg30 rfl rfl rfl rfl) (.cons rfl .nil)), rfl, rfl, (by decide), (by first | exact idless_cons ints_id idless_nil | exact idless_cons rfl idless_nil), ?_⟩
  exact ⟨rfl, rfl⟩

set_option maxHeartbeats 4000000 in
theorem WParseN_nb (t : ByteArray) (hs0 : t.size ≠ 0) (hc1 : byteAt t 0 ≠ 45) (hc2 : byteAt t 0 ≠ 43) (hsz : t.size ≤ 1048576) (hP : Spec Try.prog 16 [.s t, .i .i64 10] (fun o => o = .ret (.t [.n false .u64 [], .i .i64 51]))) : SpecM Try.prog 38 [.s t] [] (fun o G => o = .ret (.t [.a [.b false, .o 0 0 0 0], .i .i64 62]) ∧ G = [⟨90, 1, 0, true, ints .u64 []⟩]) := by
  refine specS_of [(0, .s t)] rfl Try.func38 rfl (Nat.le_of_ble_eq_true rfl) fun Γ hN hds hL hR => ?_
  have hd : ∀ d, Nat.blt d 42 = true → d < Γ.N := fun d h => by rw [hN]; exact Nat.le_of_ble_eq_true h
  refine jc_seq ?_; refine jc_region ?_; refine jo_h (hy_alloc (id := 0) zero30 (by decide) rfl (by decide) rfl) (hd 2 rfl) ?_; refine jo_l (ly_as rfl) (hd 3 rfl) ?_; refine jo_nil ?_; refine jc_seq ?_; refine jc_seq ?_; refine jc_region ?_; refine jo_l (ly_mv rfl) (hd 7 rfl) ?_; refine jo_l (ly_lens und9 rfl) (hd 8 rfl) ?_; refine jo_l (ly_ff (ly_gt rfl rfl) (by have := hsz; omega)) (hd 9 rfl) ?_; refine jo_nil ?_; refine jc_litf rfl ?_; refine jc_skip ?_; refine jc_seq ?_; refine jc_region ?_; refine jo_l (ly_as rfl) (hd 4 rfl) ?_; refine jo_nil ?_; refine jc_seq ?_; refine jc_seq ?_; refine jc_region ?_; refine jo_l (ly_mv rfl) (hd 11 rfl) ?_; refine jo_l (ly_tt (ly_neS rfl rfl) (fun h => hs0 (by rw [h]; rfl))) (hd 12 rfl) ?_; refine jo_l (ly_mv rfl) (hd 13 rfl) ?_; refine jo_g 13 rfl rfl (ly_mv rfl) (hd 14 rfl) ?_; refine jo_g 13 rfl rfl (ly_ixs (i := 0) und9 rfl rfl (by first | rfl | omega) (by omega)) (hd 15 rfl) ?_; refine jo_g 13 rfl rfl (ly_ff (ly_eq rfl rfl) (by omega)) (hd 16 rfl) ?_; refine jo_g 13 rfl rfl (ly_mv rfl) (hd 17 rfl) ?_; refine jo_g 17 rfl rfl (ly_mv rfl) (hd 18 rfl) ?_; refine jo_g 17 rfl rfl (ly_ixs (i := 0) und9 rfl rfl (by first | rfl | omega) (by omega)) (hd 19 rfl) ?_; refine jo_g 17 rfl rfl (ly_ff (ly_eq rfl rfl) (by omega)) (hd 20 rfl) ?_; refine jo_g 13 rfl rfl (ly_pick_f rfl rfl) (hd 21 rfl) ?_; refine jo_l (ly_pick_t rfl rfl) (hd 22 rfl) ?_; refine jo_nil ?_; refine jc_litf rfl ?_; refine jc_skip ?_; refine jc_seq ?_; refine jc_region ?_; refine jo_l (ly_mv rfl) (hd 29 rfl) ?_
  refine jo_call Try.f16 (hP) rfl Try.func16 rfl rfl (ovL_cons rfl (ovL_cons rfl ovL_nil)) (.cons .s (.cons .i .nil)) (hd 30 rfl) ?_ (fun ch hp => by simp at hp)
  rintro y hy; injection hy with hy; subst hy; refine jo_l (ly_mv rfl) (hd 28 rfl) ?_; refine jo_l (ly_ext rfl rfl) (hd 31 rfl) ?_; refine jo_l (ly_ext rfl rfl) (hd 32 rfl) ?_; refine jo_l (ly_as rfl) (hd 5 rfl) ?_; refine jo_l (ly_as rfl) (hd 6 rfl) ?_; refine jo_nil ?_; refine jc_seq ?_; refine jc_seq ?_; refine jc_region ?_; refine jo_l (ly_mv rfl) (hd 33 rfl) ?_; refine jo_l (ly_tt (ly_eq rfl rfl) (by decide)) (hd 34 rfl) ?_; refine jo_nil ?_; refine jc_litt rfl ?_; refine jc_seq ?_; refine jc_region ?_; refine jo_l (ly_build (is := []) (xs := []) (pls := []) zero30 pls30_ rfl ovL_nil rfl trivial (all_of rfl) rfl) (hd 35 rfl) ?_; refine jo_st (sy_store rfl rfl rfl siz30 rfl rfl (Nat.le_of_ble_eq_true rfl)) ?_; refine jo_l (ly_as rfl) (hd 3 rfl) ?_; refine jo_nil ?_; refine jc_own0c (id := 0) 1 90 1 rfl rfl rfl ?_; refine jc_ret ?_
  refine ⟨[1], _, (.t [.a [.b false, .o 0 0 0 0], .i .i64 62]), (.cons (ResV.cell agg30 rfl rfl rfl rfl) (.cons rfl .nil)), rfl, rfl, (by decide), (by first | exact idless_cons ints_id idless_nil | exact idless_cons rfl idless_nil), ?_⟩
  exact ⟨rfl, rfl⟩

set_option maxHeartbeats 4000000 in
theorem WParseN_eb (hsz : ByteArray.empty.size ≤ 1048576) (hP : Spec Try.prog 16 [.s .empty, .i .i64 10] (fun o => o = .ret (.t [.n false .u64 [], .i .i64 51]))) : SpecM Try.prog 38 [.s .empty] [] (fun o G => o = .ret (.t [.a [.b false, .o 0 0 0 0], .i .i64 62]) ∧ G = [⟨90, 1, 0, true, ints .u64 []⟩]) := by
  refine specS_of [(0, .s .empty)] rfl Try.func38 rfl (Nat.le_of_ble_eq_true rfl) fun Γ hN hds hL hR => ?_
  have hd : ∀ d, Nat.blt d 42 = true → d < Γ.N := fun d h => by rw [hN]; exact Nat.le_of_ble_eq_true h
  refine jc_seq ?_; refine jc_region ?_; refine jo_h (hy_alloc (id := 0) zero30 (by decide) rfl (by decide) rfl) (hd 2 rfl) ?_; refine jo_l (ly_as rfl) (hd 3 rfl) ?_; refine jo_nil ?_; refine jc_seq ?_; refine jc_seq ?_; refine jc_region ?_; refine jo_l (ly_mv rfl) (hd 7 rfl) ?_; refine jo_l (ly_lens und9 rfl) (hd 8 rfl) ?_; refine jo_l (ly_ff (ly_gt rfl rfl) (by have := hsz; omega)) (hd 9 rfl) ?_; refine jo_nil ?_; refine jc_litf rfl ?_; refine jc_skip ?_; refine jc_seq ?_; refine jc_region ?_; refine jo_l (ly_as rfl) (hd 4 rfl) ?_; refine jo_nil ?_; refine jc_seq ?_; refine jc_seq ?_; refine jc_region ?_; refine jo_l (ly_mv rfl) (hd 11 rfl) ?_; refine jo_l (ly_ff (ly_neS rfl rfl) (fun h => h rfl)) (hd 12 rfl) ?_; refine jo_l (ly_mv rfl) (hd 13 rfl) ?_; refine jo_s 13 rfl rfl rfl (hd 14 rfl) ?_; refine jo_s 13 rfl rfl rfl (hd 15 rfl) ?_; refine jo_s 13 rfl rfl rfl (hd 16 rfl) ?_; refine jo_s 13 rfl rfl rfl (hd 17 rfl) ?_; refine jo_s' 17 rfl rfl (hd 18 rfl) ?_; refine jo_s' 17 rfl rfl (hd 19 rfl) ?_; refine jo_s' 17 rfl rfl (hd 20 rfl) ?_; refine jo_s 13 rfl rfl rfl (hd 21 rfl) ?_; refine jo_l (ly_pick_f rfl rfl) (hd 22 rfl) ?_; refine jo_nil ?_; refine jc_litf rfl ?_; refine jc_skip ?_; refine jc_seq ?_; refine jc_region ?_; refine jo_l (ly_mv rfl) (hd 29 rfl) ?_
  refine jo_call Try.f16 (hP) rfl Try.func16 rfl rfl (ovL_cons rfl (ovL_cons rfl ovL_nil)) (.cons .s (.cons .i .nil)) (hd 30 rfl) ?_ (fun ch hp => by simp at hp)
  rintro y hy; injection hy with hy; subst hy; refine jo_l (ly_mv rfl) (hd 28 rfl) ?_; refine jo_l (ly_ext rfl rfl) (hd 31 rfl) ?_; refine jo_l (ly_ext rfl rfl) (hd 32 rfl) ?_; refine jo_l (ly_as rfl) (hd 5 rfl) ?_; refine jo_l (ly_as rfl) (hd 6 rfl) ?_; refine jo_nil ?_; refine jc_seq ?_; refine jc_seq ?_; refine jc_region ?_; refine jo_l (ly_mv rfl) (hd 33 rfl) ?_; refine jo_l (ly_tt (ly_eq rfl rfl) (by decide)) (hd 34 rfl) ?_; refine jo_nil ?_; refine jc_litt rfl ?_; refine jc_seq ?_; refine jc_region ?_; refine jo_l (ly_build (is := []) (xs := []) (pls := []) zero30 pls30_ rfl ovL_nil rfl trivial (all_of rfl) rfl) (hd 35 rfl) ?_; refine jo_st (sy_store rfl rfl rfl siz30 rfl rfl (Nat.le_of_ble_eq_true rfl)) ?_; refine jo_l (ly_as rfl) (hd 3 rfl) ?_; refine jo_nil ?_; refine jc_own0c (id := 0) 1 90 1 rfl rfl rfl ?_; refine jc_ret ?_
  refine ⟨[1], _, (.t [.a [.b false, .o 0 0 0 0], .i .i64 62]), (.cons (ResV.cell agg30 rfl rfl rfl rfl) (.cons rfl .nil)), rfl, rfl, (by decide), (by first | exact idless_cons ints_id idless_nil | exact idless_cons rfl idless_nil), ?_⟩
  exact ⟨rfl, rfl⟩
end Go.Proofs.Ytcfdclehmpfkcaa.Vc

/- The contract of surdlaw06.WholeTexts. -/
namespace Go.Proofs.Ytcfdclehmpfkcaa.Vc
open Go Go.RowKit
set_option maxHeartbeats 20000000 in
set_option maxRecDepth 100000 in
theorem WholeTexts_y (sa : Bool) (a : List Int) (ha : a.length ≤ 1048574) (ua : u64s a) (s : ByteArray) (w : Int) (hw9 : lenV w ≤ 67108864) (hRP : Spec Try.prog 37 [.s s] (fun o => o = .ret (.t [.a [.b (decide (w < 0)), .n false .u64 (dg w)], .i .i64 0]))) (hW : SpecM Try.prog 38 [.s s] [] (fun o G => o = .ret (.t [.a [.b (decide (w < 0)), .o 0 0 0 (lm w).length], .i .i64 0]) ∧ G = [⟨90, 1, 0, true, ints .u64 (lm w)⟩])) : Spec Try.prog 10 [.a [.b sa, .n false .u64 a], .s s] (fun o => o = .ret (.b true)) := by
  refine spec_of' [(0, .a [.b sa, .n false .u64 a]), (1, .s s)] rfl Try.func10 rfl (Nat.le_of_ble_eq_true rfl) fun Γ hN hds hL hR => ?_
  have hd : ∀ d, Nat.blt d 54 = true → d < Γ.N := fun d h => by rw [hN]; exact Nat.le_of_ble_eq_true h
  have hda := dg_lenN (s := sa) ua rfl
  have hlv : lenV (sv sa a) ≤ 67108864 := by have := lenV_64 (s := sa) ua; omega
  have hpr := rPrint6_s (sv sa a) (by omega) (by rw [← sv_natAbs ua]; exact Nat.le_trans (digs_le_len ua (by decide)) (by omega))
  have hof := of_s sa a (by omega) ua
  have hwp := WPrint_s sa a (by omega) ua
  have hlw := lenV_lm hw9
  have hal := alike_ok w hw9
  refine jc_seq ?_; refine jc_region ?_; refine jo_h (hy_box (id := 0) (n := 2) rfl rfl rfl (by decide) rfl) (hd 2 rfl) ?_; refine jo_l (ly_as rfl) (hd 4 rfl) ?_; refine jo_nil ?_; refine jc_seq ?_; refine jc_region ?_; refine jo_l (ly_lda agg27 rfl rfl rfl rfl) (hd 12 rfl) ?_
  refine jo_call Try.f36 (lent_s sa a (by omega)) rfl Try.func36 rfl rfl (ovL_cons rfl ovL_nil) (.cons (.a1 .b (.a1 .n .a0)) .nil) (hd 13 rfl) ?_ (fun ch hp => by simp at hp)
  rintro y hy; injection hy with hy; subst hy; refine jo_l (ly_mv rfl) (hd 11 rfl) ?_; refine jo_l (ly_ext rfl rfl) (hd 14 rfl) ?_; refine jo_l (ly_ext rfl rfl) (hd 15 rfl) ?_; refine jo_h (hy_alloc (id := 1) zero30 (by decide) rfl (by decide) rfl) (hd 6 rfl) ?_; refine jo_l (ly_as rfl) (hd 5 rfl) ?_; refine jo_st (sy_store rfl rfl rfl siz30 rfl rfl (Nat.le_of_ble_eq_true rfl)) ?_; refine jo_nil ?_; refine jc_seq ?_; refine jc_region ?_; refine jo_l (ly_mv rfl) (hd 17 rfl) ?_
  refine jo_call Try.f37 (hRP) rfl Try.func37 rfl rfl (ovL_cons rfl ovL_nil) (.cons .s .nil) (hd 18 rfl) ?_ (fun ch hp => by simp at hp)
  rintro y hy; injection hy with hy; subst hy; refine jo_l (ly_mv rfl) (hd 16 rfl) ?_; refine jo_l (ly_ext rfl rfl) (hd 19 rfl) ?_; refine jo_l (ly_ext rfl rfl) (hd 20 rfl) ?_; refine jo_h (hy_alloc (id := 2) zero35 (by decide) rfl (by decide) rfl) (hd 7 rfl) ?_; refine jo_st (sy_store rfl rfl rfl siz35 rfl rfl (Nat.le_of_ble_eq_true rfl)) ?_; refine jo_l (ly_as rfl) (hd 8 rfl) ?_; refine jo_nil ?_; refine jc_seq ?_; refine jc_region ?_; refine jo_l (ly_mv rfl) (hd 22 rfl) ?_
  refine jo_callN Try.f38 (hW) (fun o G ⟨_, h⟩ => h ▸ idless_cons ints_id idless_nil) rfl Try.func38 rfl rfl (ovL_cons rfl ovL_nil) (.cons .s .nil) (hd 23 rfl) ?_ (fun ch G hp => by simp at hp)
  rintro y G ⟨hy, rfl⟩; injection hy with hy; subst hy
  show JO _ _ _ _ ((23, .t [.a [.b (decide (w < 0)), .o 3 0 0 (lm w).length], .i .i64 0]) :: _) _ _
  refine jo_l (ly_mv rfl) (hd 21 rfl) ?_; refine jo_l (ly_ext rfl rfl) (hd 24 rfl) ?_; refine jo_l (ly_ext rfl rfl) (hd 25 rfl) ?_; refine jo_h (hy_alloc (id := 4) zero30 (by decide) rfl (by decide) rfl) (hd 9 rfl) ?_; refine jo_st (sy_store rfl rfl rfl siz30 rfl rfl (Nat.le_of_ble_eq_true rfl)) ?_; refine jo_l (ly_as rfl) (hd 10 rfl) ?_; refine jo_nil ?_; refine jc_seq ?_; refine jc_draw (n := 29) _ rfl mixed ?_; refine ja_l2 0 [1, 3, 4, 5, 6, 7, 8, 9, 10, 11, 12, 13, 14, 15, 16, 17, 18, 19, 20, 21, 22, 23, 24, 25, 26, 27, 28] (lo_l (ly_lda agg30 rfl rfl rfl rfl) (hd 26 rfl)) rfl (by kernel_rfl) (by kernel_rfl) (by kernel_rfl) (by kernel_rfl) (fun _ _ _ _ h => h) ?_; refine ja_l2 2 [3, 4, 5, 6, 7, 8, 9, 10, 11, 12, 13, 14, 15, 16, 17, 18, 19, 20, 21, 22, 23, 24, 25, 26, 27, 28] (lo_l (ly_lda agg27 rfl rfl rfl rfl) (hd 28 rfl)) rfl (by kernel_rfl) (by kernel_rfl) (by kernel_rfl) (by kernel_rfl) (fun _ _ _ _ h => h) ?_
  refine ja_1 1 ?_ rfl (by kernel_rfl)
  refine js_call Try.f39 (hwp) rfl Try.func39 rfl rfl (ovL_cons rfl ovL_nil) (.cons (.a1 .b (.a1 .n .a0)) .nil) (hd 27 rfl) ?_ (fun ch hp => by simp at hp)
  rintro y hy; injection hy with hy; subst hy
  refine ja_1 3 ?_ rfl (by kernel_rfl)
  refine js_call Try.f41 (hof) rfl Try.func41 rfl rfl (ovL_cons rfl ovL_nil) (.cons (.a1 .b (.a1 .n .a0)) .nil) (hd 29 rfl) ?_ (fun ch hp => by simp at hp)
  rintro y hy; injection hy with hy; subst hy
  refine ja_1 4 ?_ rfl (by kernel_rfl)
  refine js_call Try.f40 (hpr) rfl Try.func40 rfl rfl (ovL_cons rfl ovL_nil) (.cons (.a1 .b (.a1 .n .a0)) .nil) (hd 30 rfl) ?_ (fun ch hp => by simp at hp)
  rintro y hy; injection hy with hy; subst hy; refine ja_l2 5 [6, 7, 8, 9, 10, 11, 12, 13, 14, 15, 16, 17, 18, 19, 20, 21, 22, 23, 24, 25, 26, 27, 28] (lo_l (ly_tt (ly_eqS rfl rfl) rfl) (hd 31 rfl)) rfl (by kernel_rfl) (by kernel_rfl) (by kernel_rfl) (by kernel_rfl) (fun _ _ _ _ h => h) ?_; refine ja_l2 6 [7, 8, 9, 10, 11, 12, 13, 14, 15, 16, 17, 18, 19, 20, 21, 22, 23, 24, 25, 26, 27, 28] (lo_l (ly_mv rfl) (hd 32 rfl)) rfl (by kernel_rfl) (by kernel_rfl) (by kernel_rfl) (by kernel_rfl) (fun _ _ _ _ h => h) ?_; refine ja_l2 7 [11, 12, 13, 14, 15, 16, 17, 18, 19, 20, 21, 22, 23, 24, 25, 26, 27, 28] (lo_g 32 rfl rfl (ly_lda agg30 rfl rfl rfl rfl) (hd 33 rfl)) rfl (by kernel_rfl) (by kernel_rfl) (by kernel_rfl) (by kernel_rfl) (fun _ _ _ _ h => h) ?_; refine ja_l2 8 [11, 12, 13, 14, 15, 16, 17, 18, 19, 20, 21, 22, 23, 24, 25, 26, 27, 28] (lo_g 32 rfl rfl (ly_mv rfl) (hd 34 rfl)) rfl (by kernel_rfl) (by kernel_rfl) (by kernel_rfl) (by kernel_rfl) (fun _ _ _ _ h => h) ?_; refine ja_l2 9 [11, 12, 13, 14, 15, 16, 17, 18, 19, 20, 21, 22, 23, 24, 25, 26, 27, 28] (lo_g 32 rfl rfl (ly_lda agg35 rfl rfl rfl rfl) (hd 35 rfl)) rfl (by kernel_rfl) (by kernel_rfl) (by kernel_rfl) (by kernel_rfl) (fun _ _ _ _ h => h) ?_; refine ja_l2 10 [11, 12, 13, 14, 15, 16, 17, 18, 19, 20, 21, 22, 23, 24, 25, 26, 27, 28] (lo_g 32 rfl rfl (ly_mv rfl) (hd 36 rfl)) rfl (by kernel_rfl) (by kernel_rfl) (by kernel_rfl) (by kernel_rfl) (fun _ _ _ _ h => h) ?_
  refine ja_1 11 ?_ rfl (by kernel_rfl)
  refine js_callLg Try.f42 32 rfl rfl (hal) rfl Try.func42 rfl rfl (ovL_cons rfl (ovL_cons rfl (ovL_cons rfl (ovL_cons rfl ovL_nil)))) (.a1 (.a1 .b (.a1 (.o rfl (by simp) (by rw [List.drop_zero, List.take_length])) .a0)) (.a1 .i (.a1 (.a1 .b (.a1 .n .a0)) (.a1 .i .a0)))) (.cons (.a1 .b (.a1 .n .a0)) (.cons .i (.cons (.a1 .b (.a1 .n .a0)) (.cons .i .nil)))) hL (fun y hy => by injection hy with hy; subst hy; rfl) (hd 37 rfl) ?_ (fun ch hp => by simp at hp)
  rintro y hy; injection hy with hy; subst hy; refine ja_l2 12 [13, 14, 15, 16, 17, 18, 19, 20, 21, 22, 23, 24, 25, 26, 27, 28] (lo_l (ly_pick_t rfl rfl) (hd 38 rfl)) rfl (by kernel_rfl) (by kernel_rfl) (by kernel_rfl) (by kernel_rfl) (fun _ _ _ _ h => h) ?_; refine ja_l2 13 [14, 15, 16, 17, 18, 19, 20, 21, 22, 23, 24, 25, 26, 27, 28] (lo_l (ly_mv rfl) (hd 39 rfl)) rfl (by kernel_rfl) (by kernel_rfl) (by kernel_rfl) (by kernel_rfl) (fun _ _ _ _ h => h) ?_; refine ja_l2 14 [15, 16, 17, 18, 19, 20, 21, 22, 23, 24, 25, 26, 27, 28] (lo_g 39 rfl rfl (ly_fa fld30_1 rfl rfl rfl) (hd 40 rfl)) rfl (by kernel_rfl) (by kernel_rfl) (by kernel_rfl) (by kernel_rfl) (fun _ _ _ _ h => h) ?_; refine ja_l2 15 [16, 17, 18, 19, 20, 21, 22, 23, 24, 25, 26, 27, 28] (lo_g 39 rfl rfl (ly_ld one28 rfl rfl rfl) (hd 41 rfl)) rfl (by kernel_rfl) (by kernel_rfl) (by kernel_rfl) (by kernel_rfl) (fun _ _ _ _ h => h) ?_
  refine ja_1 16 ?_ rfl (by kernel_rfl)
  refine js_hg 39 rfl rfl (hy_lit (id := 5) (xs := [.tmp 41]) el81 rfl (ovL_cons rfl ovL_nil) rfl (all2_of rfl) (by decide) rfl) (hd 42 rfl) ?_
  refine ja_1 17 ?_ rfl (by kernel_rfl)
  refine js_callGg Try.f19 39 rfl rfl (sel := [5, 3]) (Own_s 1 (by decide) (rsOf [(lm w)]) (fun j _ => rsOf_len (by simp <;> omega) (by decide) j)) rfl Try.func19 rfl rfl (ovL_cons rfl ovL_nil) rfl rfl (.cons rfl rfl (.cons rfl (renL_ints _ _ _) .nil)) (by decide) ow_ids ow_fresh (fun y G h => by cases h; rfl) (hd 43 rfl) ?_ (fun ch G hp => by cases hp) rfl
  rintro y G hy; injection hy with hy; subst hy; refine ja_l2 18 [19, 20, 21, 22, 23, 24, 25, 26, 27, 28] (lo_l (ly_pick_t rfl rfl) (hd 44 rfl)) rfl (by kernel_rfl) (by kernel_rfl) (by kernel_rfl) (by kernel_rfl) (fun _ _ _ _ h => h) ?_; refine ja_l2 19 [20, 21, 22, 23, 24, 25, 26, 27, 28] (lo_l (ly_mv rfl) (hd 45 rfl)) rfl (by kernel_rfl) (by kernel_rfl) (by kernel_rfl) (by kernel_rfl) (fun _ _ _ _ h => h) ?_; refine ja_l2 20 [23, 24, 25, 26, 27, 28] (lo_g 45 rfl rfl (ly_mv rfl) (hd 46 rfl)) rfl (by kernel_rfl) (by kernel_rfl) (by kernel_rfl) (by kernel_rfl) (fun _ _ _ _ h => h) ?_; refine ja_l2 21 [22, 23, 24, 25, 26, 27, 28] (lo_g 45 rfl rfl (ly_fa fld27_1 rfl rfl rfl) (hd 47 rfl)) rfl (by kernel_rfl) (by kernel_rfl) (by kernel_rfl) (by kernel_rfl) (fun _ _ _ _ h => h) ?_; refine ja_l2 22 [23, 24, 25, 26, 27, 28] (lo_g 45 rfl rfl (ly_ld one25 rfl rfl rfl) (hd 48 rfl)) rfl (by kernel_rfl) (by kernel_rfl) (by kernel_rfl) (by kernel_rfl) (fun _ _ _ _ h => h) ?_
  refine ja_1 23 ?_ rfl (by kernel_rfl)
  refine js_callg Try.f32 45 rfl rfl (Kept_s a (by omega)) rfl Try.func32 rfl rfl (ovL_cons rfl (ovL_cons rfl ovL_nil)) (.cons .n (.cons .n .nil)) (hd 49 rfl) ?_ (fun ch hp => by simp at hp)
  rintro y hy; injection hy with hy; subst hy; refine ja_l2 24 [25, 26, 27, 28] (lo_l (ly_pick_t rfl rfl) (hd 50 rfl)) rfl (by kernel_rfl) (by kernel_rfl) (by kernel_rfl) (by kernel_rfl) (fun _ _ _ _ h => h) ?_; refine ja_l 25 (lo_l (ly_mv rfl) (hd 51 rfl)) rfl (by kernel_rfl) (by kernel_rfl) (by kernel_rfl) (fun _ _ _ _ h => h) ?_
  refine ja_1 26 ?_ rfl (by kernel_rfl)
  refine js_callg Try.f43 51 rfl rfl (awake_s) rfl Try.func43 rfl rfl ovL_nil .nil (hd 52 rfl) ?_ (fun ch hp => by simp at hp)
  rintro y hy; injection hy with hy; subst hy; refine ja_l 27 (lo_l (ly_pick_t rfl rfl) (hd 53 rfl)) rfl (by kernel_rfl) (by kernel_rfl) (by kernel_rfl) (fun _ _ _ _ h => h) ?_; refine ja_l 28 (lo_l (ly_as rfl) (hd 4 rfl)) rfl (by kernel_rfl) (by kernel_rfl) (by kernel_rfl) (fun _ _ _ _ h => h) ?_; refine ja_nil (by kernel_rfl) ?_; refine jc_ret ?_
  refine ⟨_, _, (.cons rfl .nil), .b, ?_⟩
  exact rfl

set_option maxHeartbeats 20000000 in
set_option maxRecDepth 100000 in
theorem WholeTexts_n (sa : Bool) (a : List Int) (ha : a.length ≤ 1048574) (ua : u64s a) (s : ByteArray) (hRP : Spec Try.prog 37 [.s s] (fun o => o = .ret (.t [.a [.b false, .n false .u64 []], .i .i64 62]))) (hW : SpecM Try.prog 38 [.s s] [] (fun o G => o = .ret (.t [.a [.b false, .o 0 0 0 0], .i .i64 62]) ∧ G = [⟨90, 1, 0, true, ints .u64 []⟩])) : Spec Try.prog 10 [.a [.b sa, .n false .u64 a], .s s] (fun o => o = .ret (.b true)) := by
  refine spec_of' [(0, .a [.b sa, .n false .u64 a]), (1, .s s)] rfl Try.func10 rfl (Nat.le_of_ble_eq_true rfl) fun Γ hN hds hL hR => ?_
  have hd : ∀ d, Nat.blt d 54 = true → d < Γ.N := fun d h => by rw [hN]; exact Nat.le_of_ble_eq_true h
  have hda := dg_lenN (s := sa) ua rfl
  have hlv : lenV (sv sa a) ≤ 67108864 := by have := lenV_64 (s := sa) ua; omega
  have hpr := rPrint6_s (sv sa a) (by omega) (by rw [← sv_natAbs ua]; exact Nat.le_trans (digs_le_len ua (by decide)) (by omega))
  have hof := of_s sa a (by omega) ua
  have hwp := WPrint_s sa a (by omega) ua
  have hal : Spec Try.prog 42 [.a [.b false, .n false .u64 []], .i .i64 62, .a [.b false, .n false .u64 []], .i .i64 62] (fun o => o = .ret (.b true)) := by have h := alike_err 0 62 (by decide); rwa [show dg 0 = [] from digs_0, show decide ((0 : Int) < 0) = false from rfl] at h
  refine jc_seq ?_; refine jc_region ?_; refine jo_h (hy_box (id := 0) (n := 2) rfl rfl rfl (by decide) rfl) (hd 2 rfl) ?_; refine jo_l (ly_as rfl) (hd 4 rfl) ?_; refine jo_nil ?_; refine jc_seq ?_; refine jc_region ?_; refine jo_l (ly_lda agg27 rfl rfl rfl rfl) (hd 12 rfl) ?_
  refine jo_call Try.f36 (lent_s sa a (by omega)) rfl Try.func36 rfl rfl (ovL_cons rfl ovL_nil) (.cons (.a1 .b (.a1 .n .a0)) .nil) (hd 13 rfl) ?_ (fun ch hp => by simp at hp)
  rintro y hy; injection hy with hy; subst hy; refine jo_l (ly_mv rfl) (hd 11 rfl) ?_; refine jo_l (ly_ext rfl rfl) (hd 14 rfl) ?_; refine jo_l (ly_ext rfl rfl) (hd 15 rfl) ?_; refine jo_h (hy_alloc (id := 1) zero30 (by decide) rfl (by decide) rfl) (hd 6 rfl) ?_; refine jo_l (ly_as rfl) (hd 5 rfl) ?_; refine jo_st (sy_store rfl rfl rfl siz30 rfl rfl (Nat.le_of_ble_eq_true rfl)) ?_; refine jo_nil ?_; refine jc_seq ?_; refine jc_region ?_; refine jo_l (ly_mv rfl) (hd 17 rfl) ?_
  refine jo_call Try.f37 (hRP) rfl Try.func37 rfl rfl (ovL_cons rfl ovL_nil) (.cons .s .nil) (hd 18 rfl) ?_ (fun ch hp => by simp at hp)
  rintro y hy; injection hy with hy; subst hy; refine jo_l (ly_mv rfl) (hd 16 rfl) ?_; refine jo_l (ly_ext rfl rfl) (hd 19 rfl) ?_; refine jo_l (ly_ext rfl rfl) (hd 20 rfl) ?_; refine jo_h (hy_alloc (id := 2) zero35 (by decide) rfl (by decide) rfl) (hd 7 rfl) ?_; refine jo_st (sy_store rfl rfl rfl siz35 rfl rfl (Nat.le_of_ble_eq_true rfl)) ?_; refine jo_l (ly_as rfl) (hd 8 rfl) ?_; refine jo_nil ?_; refine jc_seq ?_; refine jc_region ?_; refine jo_l (ly_mv rfl) (hd 22 rfl) ?_
  refine jo_callN Try.f38 (hW) (fun o G ⟨_, h⟩ => h ▸ idless_cons ints_id idless_nil) rfl Try.func38 rfl rfl (ovL_cons rfl ovL_nil) (.cons .s .nil) (hd 23 rfl) ?_ (fun ch G hp => by simp at hp)
  rintro y G ⟨hy, rfl⟩; injection hy with hy; subst hy
  show JO _ _ _ _ ((23, .t [.a [.b false, .o 3 0 0 0], .i .i64 62]) :: _) _ _
  refine jo_l (ly_mv rfl) (hd 21 rfl) ?_; refine jo_l (ly_ext rfl rfl) (hd 24 rfl) ?_; refine jo_l (ly_ext rfl rfl) (hd 25 rfl) ?_; refine jo_h (hy_alloc (id := 4) zero30 (by decide) rfl (by decide) rfl) (hd 9 rfl) ?_; refine jo_st (sy_store rfl rfl rfl siz30 rfl rfl (Nat.le_of_ble_eq_true rfl)) ?_; refine jo_l (ly_as rfl) (hd 10 rfl) ?_; refine jo_nil ?_; refine jc_seq ?_; refine jc_draw (n := 29) _ rfl mixed ?_; refine ja_l2 0 [1, 3, 4, 5, 6, 7, 8, 9, 10, 11, 12, 13, 14, 15, 16, 17, 18, 19, 20, 21, 22, 23, 24, 25, 26, 27, 28] (lo_l (ly_lda agg30 rfl rfl rfl rfl) (hd 26 rfl)) rfl (by kernel_rfl) (by kernel_rfl) (by kernel_rfl) (by kernel_rfl) (fun _ _ _ _ h => h) ?_; refine ja_l2 2 [3, 4, 5, 6, 7, 8, 9, 10, 11, 12, 13, 14, 15, 16, 17, 18, 19, 20, 21, 22, 23, 24, 25, 26, 27, 28] (lo_l (ly_lda agg27 rfl rfl rfl rfl) (hd 28 rfl)) rfl (by kernel_rfl) (by kernel_rfl) (by kernel_rfl) (by kernel_rfl) (fun _ _ _ _ h => h) ?_
  refine ja_1 1 ?_ rfl (by kernel_rfl)
  refine js_call Try.f39 (hwp) rfl Try.func39 rfl rfl (ovL_cons rfl ovL_nil) (.cons (.a1 .b (.a1 .n .a0)) .nil) (hd 27 rfl) ?_ (fun ch hp => by simp at hp)
  rintro y hy; injection hy with hy; subst hy
  refine ja_1 3 ?_ rfl (by kernel_rfl)
  refine js_call Try.f41 (hof) rfl Try.func41 rfl rfl (ovL_cons rfl ovL_nil) (.cons (.a1 .b (.a1 .n .a0)) .nil) (hd 29 rfl) ?_ (fun ch hp => by simp at hp)
  rintro y hy; injection hy with hy; subst hy
  refine ja_1 4 ?_ rfl (by kernel_rfl)
  refine js_call Try.f40 (hpr) rfl Try.func40 rfl rfl (ovL_cons rfl ovL_nil) (.cons (.a1 .b (.a1 .n .a0)) .nil) (hd 30 rfl) ?_ (fun ch hp => by simp at hp)
  rintro y hy; injection hy with hy; subst hy; refine ja_l2 5 [6, 7, 8, 9, 10, 11, 12, 13, 14, 15, 16, 17, 18, 19, 20, 21, 22, 23, 24, 25, 26, 27, 28] (lo_l (ly_tt (ly_eqS rfl rfl) rfl) (hd 31 rfl)) rfl (by kernel_rfl) (by kernel_rfl) (by kernel_rfl) (by kernel_rfl) (fun _ _ _ _ h => h) ?_; refine ja_l2 6 [7, 8, 9, 10, 11, 12, 13, 14, 15, 16, 17, 18, 19, 20, 21, 22, 23, 24, 25, 26, 27, 28] (lo_l (ly_mv rfl) (hd 32 rfl)) rfl (by kernel_rfl) (by kernel_rfl) (by kernel_rfl) (by kernel_rfl) (fun _ _ _ _ h => h) ?_; refine ja_l2 7 [11, 12, 13, 14, 15, 16, 17, 18, 19, 20, 21, 22, 23, 24, 25, 26, 27, 28] (lo_g 32 rfl rfl (ly_lda agg30 rfl rfl rfl rfl) (hd 33 rfl)) rfl (by kernel_rfl) (by kernel_rfl) (by kernel_rfl) (by kernel_rfl) (fun _ _ _ _ h => h) ?_; refine ja_l2 8 [11, 12, 13, 14, 15, 16, 17, 18, 19, 20, 21, 22, 23, 24, 25, 26, 27, 28] (lo_g 32 rfl rfl (ly_mv rfl) (hd 34 rfl)) rfl (by kernel_rfl) (by kernel_rfl) (by kernel_rfl) (by kernel_rfl) (fun _ _ _ _ h => h) ?_; refine ja_l2 9 [11, 12, 13, 14, 15, 16, 17, 18, 19, 20, 21, 22, 23, 24, 25, 26, 27, 28] (lo_g 32 rfl rfl (ly_lda agg35 rfl rfl rfl rfl) (hd 35 rfl)) rfl (by kernel_rfl) (by kernel_rfl) (by kernel_rfl) (by kernel_rfl) (fun _ _ _ _ h => h) ?_; refine ja_l2 10 [11, 12, 13, 14, 15, 16, 17, 18, 19, 20, 21, 22, 23, 24, 25, 26, 27, 28] (lo_g 32 rfl rfl (ly_mv rfl) (hd 36 rfl)) rfl (by kernel_rfl) (by kernel_rfl) (by kernel_rfl) (by kernel_rfl) (fun _ _ _ _ h => h) ?_
  refine ja_1 11 ?_ rfl (by kernel_rfl)
  refine js_callLg Try.f42 32 rfl rfl (hal) rfl Try.func42 rfl rfl (ovL_cons rfl (ovL_cons rfl (ovL_cons rfl (ovL_cons rfl ovL_nil)))) (.a1 (.a1 .b (.a1 (.o (l := []) rfl (Nat.le_refl _) rfl) .a0)) (.a1 .i (.a1 (.a1 .b (.a1 .n .a0)) (.a1 .i .a0)))) (.cons (.a1 .b (.a1 .n .a0)) (.cons .i (.cons (.a1 .b (.a1 .n .a0)) (.cons .i .nil)))) hL (fun y hy => by injection hy with hy; subst hy; rfl) (hd 37 rfl) ?_ (fun ch hp => by simp at hp)
  rintro y hy; injection hy with hy; subst hy; refine ja_l2 12 [13, 14, 15, 16, 17, 18, 19, 20, 21, 22, 23, 24, 25, 26, 27, 28] (lo_l (ly_pick_t rfl rfl) (hd 38 rfl)) rfl (by kernel_rfl) (by kernel_rfl) (by kernel_rfl) (by kernel_rfl) (fun _ _ _ _ h => h) ?_; refine ja_l2 13 [14, 15, 16, 17, 18, 19, 20, 21, 22, 23, 24, 25, 26, 27, 28] (lo_l (ly_mv rfl) (hd 39 rfl)) rfl (by kernel_rfl) (by kernel_rfl) (by kernel_rfl) (by kernel_rfl) (fun _ _ _ _ h => h) ?_; refine ja_l2 14 [15, 16, 17, 18, 19, 20, 21, 22, 23, 24, 25, 26, 27, 28] (lo_g 39 rfl rfl (ly_fa fld30_1 rfl rfl rfl) (hd 40 rfl)) rfl (by kernel_rfl) (by kernel_rfl) (by kernel_rfl) (by kernel_rfl) (fun _ _ _ _ h => h) ?_; refine ja_l2 15 [16, 17, 18, 19, 20, 21, 22, 23, 24, 25, 26, 27, 28] (lo_g 39 rfl rfl (ly_ld one28 rfl rfl rfl) (hd 41 rfl)) rfl (by kernel_rfl) (by kernel_rfl) (by kernel_rfl) (by kernel_rfl) (fun _ _ _ _ h => h) ?_
  refine ja_1 16 ?_ rfl (by kernel_rfl)
  refine js_hg 39 rfl rfl (hy_lit (id := 5) (xs := [.tmp 41]) el81 rfl (ovL_cons rfl ovL_nil) rfl (all2_of rfl) (by decide) rfl) (hd 42 rfl) ?_
  refine ja_1 17 ?_ rfl (by kernel_rfl)
  refine js_callGg Try.f19 39 rfl rfl (sel := [5, 3]) (Own_s 1 (by decide) (rsOf [[]]) (fun j _ => rsOf_len (by simp <;> omega) (by decide) j)) rfl Try.func19 rfl rfl (ovL_cons rfl ovL_nil) rfl rfl (.cons rfl rfl (.cons rfl (renL_ints _ _ _) .nil)) (by decide) ow_ids ow_fresh (fun y G h => by cases h; rfl) (hd 43 rfl) ?_ (fun ch G hp => by cases hp) rfl
  rintro y G hy; injection hy with hy; subst hy; refine ja_l2 18 [19, 20, 21, 22, 23, 24, 25, 26, 27, 28] (lo_l (ly_pick_t rfl rfl) (hd 44 rfl)) rfl (by kernel_rfl) (by kernel_rfl) (by kernel_rfl) (by kernel_rfl) (fun _ _ _ _ h => h) ?_; refine ja_l2 19 [20, 21, 22, 23, 24, 25, 26, 27, 28] (lo_l (ly_mv rfl) (hd 45 rfl)) rfl (by kernel_rfl) (by kernel_rfl) (by kernel_rfl) (by kernel_rfl) (fun _ _ _ _ h => h) ?_; refine ja_l2 20 [23, 24, 25, 26, 27, 28] (lo_g 45 rfl rfl (ly_mv rfl) (hd 46 rfl)) rfl (by kernel_rfl) (by kernel_rfl) (by kernel_rfl) (by kernel_rfl) (fun _ _ _ _ h => h) ?_; refine ja_l2 21 [22, 23, 24, 25, 26, 27, 28] (lo_g 45 rfl rfl (ly_fa fld27_1 rfl rfl rfl) (hd 47 rfl)) rfl (by kernel_rfl) (by kernel_rfl) (by kernel_rfl) (by kernel_rfl) (fun _ _ _ _ h => h) ?_; refine ja_l2 22 [23, 24, 25, 26, 27, 28] (lo_g 45 rfl rfl (ly_ld one25 rfl rfl rfl) (hd 48 rfl)) rfl (by kernel_rfl) (by kernel_rfl) (by kernel_rfl) (by kernel_rfl) (fun _ _ _ _ h => h) ?_
  refine ja_1 23 ?_ rfl (by kernel_rfl)
  refine js_callg Try.f32 45 rfl rfl (Kept_s a (by omega)) rfl Try.func32 rfl rfl (ovL_cons rfl (ovL_cons rfl ovL_nil)) (.cons .n (.cons .n .nil)) (hd 49 rfl) ?_ (fun ch hp => by simp at hp)
  rintro y hy; injection hy with hy; subst hy; refine ja_l2 24 [25, 26, 27, 28] (lo_l (ly_pick_t rfl rfl) (hd 50 rfl)) rfl (by kernel_rfl) (by kernel_rfl) (by kernel_rfl) (by kernel_rfl) (fun _ _ _ _ h => h) ?_; refine ja_l 25 (lo_l (ly_mv rfl) (hd 51 rfl)) rfl (by kernel_rfl) (by kernel_rfl) (by kernel_rfl) (fun _ _ _ _ h => h) ?_
  refine ja_1 26 ?_ rfl (by kernel_rfl)
  refine js_callg Try.f43 51 rfl rfl (awake_s) rfl Try.func43 rfl rfl ovL_nil .nil (hd 52 rfl) ?_ (fun ch hp => by simp at hp)
  rintro y hy; injection hy with hy; subst hy; refine ja_l 27 (lo_l (ly_pick_t rfl rfl) (hd 53 rfl)) rfl (by kernel_rfl) (by kernel_rfl) (by kernel_rfl) (fun _ _ _ _ h => h) ?_; refine ja_l 28 (lo_l (ly_as rfl) (hd 4 rfl)) rfl (by kernel_rfl) (by kernel_rfl) (by kernel_rfl) (fun _ _ _ _ h => h) ?_; refine ja_nil (by kernel_rfl) ?_; refine jc_ret ?_
  refine ⟨_, _, (.cons rfl .nil), .b, ?_⟩
  exact rfl

theorem WholeTexts_s (sa : Bool) (a : List Int) (s : ByteArray) (ha : a.length ≤ 1048574) (ua : u64s a) (hs : s.size ≤ 1048575) : Spec Try.prog 10 [.a [.b sa, .n false .u64 a], .s s] (fun o => o = .ret (.b true)) := by
  have bad : ∀ t : ByteArray, t.size ≤ 1048576 → (¬ ∃ l, t = txt l ∧ rng 10 l ∧ l ≠ []) → Spec Try.prog 79 [.s t] (fun o => o = .ret (.b false)) := fun t ht hn => by
    by_cases h0 : t.size = 0
    · exact rD_e t h0
    · rcases digits_or t with ⟨h1, h2⟩ | ⟨k, h1, h2, h3⟩
      · exact absurd ⟨dgs t, h1.symm, h2, fun h => h0 (by rw [← dgs_len, h]; rfl)⟩ hn
      · exact rD_n t k (by omega) h1 fun h => h3 (by rw [dgv_of10 h.1 h.2]; omega)
  have badP : ∀ t : ByteArray, t.size ≤ 1048576 → (¬ ∃ l, t = txt l ∧ rng 10 l ∧ l ≠ []) → Spec Try.prog 16 [.s t, .i .i64 10] (fun o => o = .ret (.t [.n false .u64 [], .i .i64 51])) := fun t ht hn =>
    (Parse_or t (by omega)).resolve_left hn
  have good : ∀ l : List Int, rng 10 l → l ≠ [] → l.length ≤ 1048576 → Spec Try.prog 79 [.s (txt l)] (fun o => o = .ret (.b true)) ∧ Spec Try.prog 81 [.s (txt l)] (fun o => o = .ret (.n false .u64 (digs B32 (hv 10 l).toNat))) ∧ Spec Try.prog 16 [.s (txt l), .i .i64 10] (fun o => o = .ret (.t [.n false .u64 (lm (hv 10 l)), .i .i64 0])) ∧ lenV (hv 10 l) ≤ 67108864 := fun l hr hn hl => by
    have hp := List.length_pos_iff.2 hn
    have hts := txt_size l
    have e := dgs_txt (rng36 (by decide) hr)
    have hv9 : lenV (hv 10 l) ≤ 67108864 := Nat.le_trans (hv_fit (by decide) (by decide) hr (by omega)) (by decide)
    refine ⟨rD_y (txt l) (by omega) (by omega) fun i hi => ?_, ?_, Parse_d l hr hn (by omega) hv9, hv9⟩
    · have h1 := dgs_getD hi
      have h2 := byteAt_range (txt l) i
      exact dgv_10 h2.1 h2.2 (by rw [← h1, e]; exact (rng_getD (by decide) hr i).2)
    · have h := rNumber_s (txt l) (by rw [e]; exact hr) (by omega)
      rw [e, ← digs_dg (hv_nonneg hr)] at h
      exact h
  by_cases h0 : s.size = 0
  · have e : s = .empty := by
      obtain ⟨⟨l⟩⟩ := s
      have h1 : l.length = 0 := h0
      have h2 := List.eq_nil_of_length_eq_zero h1
      subst h2
      rfl
    subst e
    exact WholeTexts_n sa a ha ua _ (rParse6_eb (by decide) (rD_e _ rfl)) (WParseN_eb (by decide) (Parse_empty 10 (by decide) (by decide)))
  by_cases hm : byteAt s 0 = 45
  · have e := first_is (c := 45) h0 hm
    generalize s.extract 1 s.size = t at e
    subst e
    have hone := one_size 45 t
    by_cases ht : ∃ l, t = txt l ∧ rng 10 l ∧ l ≠ []
    · obtain ⟨l, rfl, hr, hn⟩ := ht
      have hts := txt_size l
      obtain ⟨g1, g2, g3, g4⟩ := good l hr hn (by omega)
      have hz : zs true (hv 10 l).toNat = -(hv 10 l) := by have := hv_nonneg hr; unfold zs; simp; omega
      have h1 := rParse6_mk (txt l) (by omega) g1 _ g2
      rw [hz] at h1
      exact WholeTexts_y sa a ha ua _ _ (by rw [lenV_neg]; exact g4) h1 (WParseN_mk (txt l) (by omega) _ (hv_nonneg hr) g4 g3)
    · exact WholeTexts_n sa a ha ua _ (rParse6_mb t (by omega) (bad t (by omega) ht)) (WParseN_mb t (by omega) (badP t (by omega) ht))
  by_cases hp : byteAt s 0 = 43
  · have e := first_is (c := 43) h0 hp
    generalize s.extract 1 s.size = t at e
    subst e
    have hone := one_size 43 t
    by_cases ht : ∃ l, t = txt l ∧ rng 10 l ∧ l ≠ []
    · obtain ⟨l, rfl, hr, hn⟩ := ht
      have hts := txt_size l
      obtain ⟨g1, g2, g3, g4⟩ := good l hr hn (by omega)
      have hz : zs false (hv 10 l).toNat = hv 10 l := by have := hv_nonneg hr; unfold zs; simp; omega
      have h1 := rParse6_pk (txt l) (by omega) g1 _ g2
      rw [hz] at h1
      exact WholeTexts_y sa a ha ua _ _ g4 h1 (WParseN_pk (txt l) (by omega) _ (hv_nonneg hr) g4 g3)
    · exact WholeTexts_n sa a ha ua _ (rParse6_pb t (by omega) (bad t (by omega) ht)) (WParseN_pb t (by omega) (badP t (by omega) ht))
  by_cases ht : ∃ l, s = txt l ∧ rng 10 l ∧ l ≠ []
  · obtain ⟨l, rfl, hr, hn⟩ := ht
    have hts := txt_size l
    obtain ⟨g1, g2, g3, g4⟩ := good l hr hn (by omega)
    have hz : zs false (hv 10 l).toNat = hv 10 l := by have := hv_nonneg hr; unfold zs; simp; omega
    have h1 := rParse6_nk (txt l) h0 hm hp (by omega) g1 _ g2
    rw [hz] at h1
    exact WholeTexts_y sa a ha ua _ _ g4 h1 (WParseN_nk (txt l) h0 hm hp (by omega) _ (hv_nonneg hr) g4 g3)
  · exact WholeTexts_n sa a ha ua _ (rParse6_nb s h0 hm hp (by omega) (bad s (by omega) ht)) (WParseN_nb s h0 hm hp (by omega) (badP s (by omega) ht))
end Go.Proofs.Ytcfdclehmpfkcaa.Vc

/- The law WholeTexts of every input of bulk at most 1048576: it returns true, and the input reads as it did. -/
namespace Go.Proofs.Ytcfdclehmpfkcaa.wholeTexts
open Go Go.ChangeShapes Go.WideShapes Go.ChangeAt Go.RowKit
open Go.ChangeMaps (open_string shut_string)

theorem own : ownKnob Try.prog.godebug = none := by kernel_rfl
theorem laidOut : laidOutB Try.prog = true := by kernel_rfl
set_option maxRecDepth 100000 in
theorem lifted (os : Os) (started : os.Started) (H : Type) (enc : TypeId × Value → H) (F : Stop.Interp) :
    ReturnsInHanded {} Try.checked os 10 .any ((Rows.OpenSpec.upto Rows.wholeTextsSpec).pre6 enc Try.prog Try.f10 Rows.wholeTextsUptoRow.domain false) (((Rows.OpenSpec.upto Rows.wholeTextsSpec).at F).post enc Try.prog Try.f10 false true false false) := by
  refine returnsInHanded_of_cond (C := Try.checked) (s := Rows.OpenSpec.upto Rows.wholeTextsSpec) (k := Rows.uptoSmall) rfl own started (by kernel_rfl) Try.func10
    (OpenSpec.witness (enc := enc) (C := Try.checked) (s := Rows.OpenSpec.upto Rows.wholeTextsSpec) (k := Rows.uptoSmall) rfl false ⟨#[], #[.agg #[.bool false, .slice none 0 0], .string .empty], []⟩ 8 (by kernel_rfl) (by kernel_rfl) (by kernel_rfl)
      (x := ([.agg [.lit (.bool false), .nil], .lit (.string [])], [], [])) (by kernel_rfl) rfl (by kernel_rfl)) ?_
  intro W base args ds gs before hval0 hW _ hk _
  have hval : ∀ (j : Nat) t v, Try.f10.params[j]? = some t → args[j]? = some v → Value.okWide Try.prog W .any base t v := hval0
  have hW' := hW
  obtain ⟨p, q, hA0, hV, rfl, hfz, hnd⟩ := hW
  have hA : DataW.TrodAll enc Try.prog W 0 (fun _ => true) true Try.f10.params.toList args.toList ds p := hA0
  rw [Try.params10] at hA hval
  obtain ⟨v0, vs0, d0, ds0, p0, q0, hargs, rfl, rfl, h0, r0⟩ := trodAll_cons hA
  obtain ⟨v1, vs1, d1, ds1, p1, q1, rfl, rfl, rfl, h1, r1⟩ := trodAll_cons r0
  obtain ⟨rfl, rfl, rfl⟩ := trodAll_nil r1
  obtain rfl : args = #[v0, v1] := by cases args; simp_all
  obtain ⟨rfl, rfl⟩ := trodVars_none hV
  have hk0 := h0
  obtain ⟨s0, l0, rel0, hb0, ul0⟩ := Vc.openW (hval 0 64 v0 rfl rfl) h0
  obtain ⟨a1, rfl, rfl, rfl, m1⟩ := open_string Try.underlying9 (hval 1 9 v1 rfl rfl) h1
  clear hA0 hval0
  simp only [List.append_nil] at hW' hk
  refine (Vc.spec_calls (vals := [v0, .string a1]) (Vc.WholeTexts_s s0 l0 a1 (Vc.short2s hk hb0).1 ul0 (Vc.short2s hk hb0).2) W (⟨_, _, rfl, rel0, ⟨_, _, rfl, rfl, rfl⟩⟩)).mono fun e W' ⟨he, hb⟩ => ?_; subst he
  have hlt : ∀ x ∈ p0, x.block < W.heap.size := fun x hx => by simpa using hW'.lt x (by simpa using hx)
  exact ⟨_, rfl, Vc.post_of_below (pa := (p0 ++ ([] ++ []))) (pv := []) hW' (fun _ _ _ => (trodAll_cons_mk (shut_bool Try.underlying4 _) trodAll_mk0)) (fun sp hsp => (trodAll_cons_mk (Go.WideElems.Trod_stays laidOut (by kernel_rfl) (of_decide_eq_true (by kernel_rfl)) hk0 (fun x hx => hb.same (hlt x (by simp [hx]))) (fun x hx => hsp x (by simp [hx]))) (trodAll_cons_mk (shut_string Try.underlying9 m1) trodAll_mk0))) (fun _ _ => rfl) (by simp) hb⟩

theorem proved : Rows.WholeTextsUptoSaid :=
  OpenClaim.holds_of_cond 10 Try.f10 rfl rfl rfl rfl rfl rfl rfl ⟨rfl, rfl, rfl, rfl, rfl⟩ rfl rfl rfl rfl rfl (by kernel_rfl) Try.func10 (by kernel_rfl)
    (of_decide_eq_true (by kernel_rfl)) (by unfold Func.isWrapper; first | (rw [if_pos (by decide +kernel)]; kernel_rfl) | (rw [if_neg (by decide +kernel)]; exact ⟨rfl, rfl⟩))
    (fun os started H enc _ F => lifted os started H enc F)
end Go.Proofs.Ytcfdclehmpfkcaa.wholeTexts
