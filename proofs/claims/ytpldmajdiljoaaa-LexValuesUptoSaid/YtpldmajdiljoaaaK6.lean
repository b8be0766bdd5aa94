/- lex.Value says what every number says, and nothing else is one Texts joined: Yg, Yh, Yi, Yj, Yk, Yl, Ym, Yo, Yp, Yq, Yr, Yz, Ja, Jb, Jc, Jd, Je. -/
import Derived.Test.YtpldmajdiljoaaaK5
set_option linter.unusedVariables false
set_option linter.unusedSimpArgs false
set_option maxHeartbeats 4000000
namespace Go.Proofs.Ytpldmajdiljoaaa.Vc
open Go Go.RowKit
theorem Lz_s (x : Nat) (hx : x < 18446744073709551616) : Spec Try.prog 123 [.i .u64 (x : Int)] (fun o => o = .ret (.i .i64 ((64 - bl 64 x : Nat) : Int))) := by
  refine spec_of' [(0, .i .u64 (x : Int))] rfl Try.func123 rfl (zlb rfl) fun Γ hN hds hL hR => ?_
  have hd := hdOf 6 hN
  have hb := bl_le 64 x
  refine zsr <| zas rfl (hd 2 rfl) <| jo_nil <| zsr <| zmv rfl (hd 3 rfl) ?_
  refine jo_call Try.f106 (Len64_s x hx) rfl Try.func106 rfl rfl (ovL_cons rfl ovL_nil) (.cons .i .nil) (hd 4 rfl) ?_ (fun ch hp => by simp at hp)
  rintro _ ⟨⟩; refine jo_l (ly_sub rfl rfl (r := ((64 - bl 64 x : Nat) : Int)) (by rw [wrap_i64 (by omega) (by omega)]; omega)) (hd 5 rfl) <| zas rfl (hd 2 rfl) <| jo_nil <| jc_ret ?_
  refine ⟨_, _, (.cons rfl .nil), .i, ?_⟩
  exact rfl

theorem Div64_s (hi lo y : Int) (hh0 : 0 ≤ hi) (hhy : hi < y) (hl0 : 0 ≤ lo) (hl1 : lo < 18446744073709551616) (hy1 : y < 18446744073709551616) : Spec Try.prog 122 [.i .u64 hi, .i .u64 lo, .i .u64 y] (fun o => o = .ret (.t [.i .u64 ((hi * 18446744073709551616 + lo) / y), .i .u64 ((hi * 18446744073709551616 + lo) % y)])) := by
  refine spec_of' [(0, .i .u64 hi), (1, .i .u64 lo), (2, .i .u64 y)] rfl Try.func122 rfl (zlb rfl) fun Γ hN hds hL hR => ?_
  have hd := hdOf 135 hN
  obtain ⟨s, hs⟩ : ∃ s : Nat, 64 - bl 64 y.toNat = s := ⟨_, rfl⟩
  have hz := lz_int (show 0 < y by omega) hy1
  rw [hs] at hz
  obtain ⟨s64, y0, y1⟩ := hz
  have hD := div_both s64 hh0 hhy hl0 hl1 y0 y1
  dsimp only at hD
  obtain ⟨Y, hY⟩ : ∃ Y, y * 2 ^ s = Y := ⟨_, rfl⟩
  obtain ⟨U, hU⟩ : ∃ U, hi * 2 ^ s + hiS lo s = U := ⟨_, rfl⟩
  obtain ⟨L, hLo⟩ : ∃ L, loS lo s = L := ⟨_, rfl⟩
  have hLb := @loS_bd lo s
  rw [hLo] at hLb
  rw [hY] at y0 y1
  rw [hY, hU, hLo] at hD
  obtain ⟨N1, hN1⟩ : ∃ N, U * 4294967296 + L / 4294967296 = N := ⟨_, rfl⟩
  rw [hN1] at hD
  obtain ⟨R1, hR1⟩ : ∃ N, N1 % Y = N := ⟨_, rfl⟩
  rw [hR1] at hD
  obtain ⟨N2, hN2⟩ : ∃ N, R1 * 4294967296 + L % 4294967296 = N := ⟨_, rfl⟩
  rw [hN2] at hD
  obtain ⟨hP1, hP2, hE1, hE2⟩ := hD
  have hU0 := hP1.u0
  have hU1 := hP1.lt
  have hp2 := p2pos s
  have hhs : 0 ≤ hi * 2 ^ s := Int.mul_nonneg hh0 (Int.le_of_lt hp2)
  have hhb := hiS_bd (s := s) (Nat.le_of_lt s64) hl0 hl1
  have hq1l := hP1.q_lt
  have hq1n := hP1.q_nn
  have hq2l := hP2.q_lt
  have hq2n := hP2.q_nn
  have hfi1 := hP1.first
  have hfi2 := hP2.first
  have hr20 := hP2.u0
  have hr21 := hP2.lt
  have hrr := hP2.rest_lt
  refine zsr <| zas rfl (hd 6 rfl) <| zas rfl (hd 7 rfl) <| jo_nil <| jc_seq <| zsr <| zmv rfl (hd 19 rfl) <| jo_l (ly_ff (ly_eq rfl rfl) (by omega)) (hd 20 rfl) <| jo_nil <| jc_litf rfl <| jc_skip ?_; refine jc_seq <| zsr <| zmv rfl (hd 22 rfl) <| zmv rfl (hd 23 rfl) <| jo_l (ly_ff (ly_le rfl rfl) (by omega)) (hd 24 rfl) <| jo_nil <| jc_litf rfl <| jc_skip <| jc_seq <| zsr <| zmv rfl (hd 26 rfl) ?_; refine jo_l (ly_eq rfl rfl) (hd 27 rfl) <| jo_nil ?_
  refine jc_if rfl (fun h3 => ?_) (fun h3 => ?_)
  · obtain rfl : hi = 0 := h3
    refine jc_seq <| jc_draw (n := 8) _ rfl mixed <| zal 0 (lo_l (ly_mv rfl) (hd 28 rfl)) rfl <| zal 1 (lo_l (ly_mv rfl) (hd 29 rfl)) rfl <| zal 2 (lo_l (ly_quo rfl rfl (by omega) (r := lo / y) (quo_u64 hl0 hl1 (by omega))) (hd 30 rfl)) rfl <| zal 3 (lo_l (ly_mv rfl) (hd 31 rfl)) rfl <| zal 4 (lo_l (ly_mv rfl) (hd 32 rfl)) rfl <| zal 5 (lo_l (ly_is (ly_rem rfl rfl (by omega) rfl) (show V.i .u64 _ = V.i .u64 (lo % y) from congrArg (V.i .u64) (Int.tmod_eq_emod_of_nonneg hl0))) (hd 33 rfl)) rfl <| zal 6 (lo_l (ly_as rfl) (hd 6 rfl)) rfl <| zal 7 (lo_l (ly_as rfl) (hd 7 rfl)) rfl <| ja_nil (by kernel_rfl) <| jc_ret ?_
    refine ⟨_, _, (.cons rfl (.cons rfl .nil)), (.t1 .i (.t1 .i .t0)), ?_⟩
    rw [Int.zero_mul, Int.zero_add]
  · refine jc_skip <| zsr <| jo_l (ly_is (ly_mv rfl) (show V.i .u64 _ = V.i .u64 ((y.toNat : Int)) from congrArg (V.i .u64) (Int.toNat_of_nonneg (by omega)).symm)) (hd 34 rfl) ?_
    refine jo_call Try.f123 (Lz_s y.toNat (by omega)) rfl Try.func123 rfl rfl (ovL_cons rfl ovL_nil) (.cons .i .nil) (hd 35 rfl) ?_ (fun ch hp => by simp at hp)
    rintro _ ⟨⟩; refine jo_l (ly_conv und3 und116 rfl (r := (s : Int)) (by rw [hs]; exact wrap_u64 (by omega) (by omega))) (hd 36 rfl) <| zas rfl (hd 8 rfl) <| jo_nil <| zsr <| zmv rfl (hd 37 rfl) <| zmv rfl (hd 38 rfl) <| jo_l (ly_is (ly_shl rfl rfl (by omega) rfl) (show V.i .u64 _ = V.i .u64 (Y) from congrArg (V.i .u64) (shl_fit (by omega) hY (by omega) (by omega)))) (hd 39 rfl) <| zas rfl (hd 2 rfl) <| jo_nil <| zsr <| zmv rfl (hd 40 rfl) ?_; refine jo_l (ly_is (ly_shr rfl rfl (by omega) rfl) (show V.i .u64 _ = V.i .u64 (Y / 4294967296) from congrArg (V.i .u64) (shr32 (by omega)))) (hd 41 rfl) <| zas rfl (hd 9 rfl) <| jo_nil <| zsr <| zmv rfl (hd 42 rfl) <| jo_l (ly_is (ly_bit (by simp) rfl rfl rfl) (show V.i .u64 _ = V.i .u64 (Y % 4294967296) from congrArg (V.i .u64) (and32 (by omega) (by omega)))) (hd 43 rfl) <| zas rfl (hd 10 rfl) <| jo_nil <| zsr <| zmv rfl (hd 44 rfl) <| zmv rfl (hd 45 rfl) ?_; refine jo_l (ly_is (ly_shl rfl rfl (by omega) rfl) (show V.i .u64 _ = V.i .u64 (loS hi s) from congrArg (V.i .u64) (shl_sym (by omega)))) (hd 46 rfl) <| zmv rfl (hd 47 rfl) <| zmv rfl (hd 48 rfl) <| jo_l (ly_sub rfl rfl (r := ((64 - s : Nat) : Int)) (by rw [wrap_u64 (by omega) (by omega)]; omega)) (hd 49 rfl) <| jo_l (ly_is (ly_shr rfl rfl (by omega) rfl) (show V.i .u64 _ = V.i .u64 (lo / 2 ^ (64 - s)) from congrArg (V.i .u64) (shr_sym (by omega)))) (hd 50 rfl) <| jo_l (ly_is (ly_bit (by simp) rfl rfl rfl) (show V.i .u64 _ = V.i .u64 (U) from congrArg (V.i .u64) ((or_hi (by omega) hhs (by omega) hl0 hl1 hh0).trans hU))) (hd 51 rfl) <| zas rfl (hd 11 rfl) <| jo_nil <| zsr <| zmv rfl (hd 52 rfl) <| zmv rfl (hd 53 rfl) <| jo_l (ly_is (ly_shl rfl rfl (by omega) rfl) (show V.i .u64 _ = V.i .u64 (L) from congrArg (V.i .u64) ((shl_sym (by omega)).trans hLo))) (hd 54 rfl) ?_; refine zas rfl (hd 12 rfl) <| jo_nil <| zsr <| zmv rfl (hd 55 rfl) <| jo_l (ly_is (ly_shr rfl rfl (by omega) rfl) (show V.i .u64 _ = V.i .u64 (L / 4294967296) from congrArg (V.i .u64) (shr32 (by omega)))) (hd 56 rfl) <| zas rfl (hd 13 rfl) <| jo_nil <| zsr <| zmv rfl (hd 57 rfl) <| jo_l (ly_is (ly_bit (by simp) rfl rfl rfl) (show V.i .u64 _ = V.i .u64 (L % 4294967296) from congrArg (V.i .u64) (and32 (by omega) (by omega)))) (hd 58 rfl) <| zas rfl (hd 14 rfl) ?_; refine jo_nil <| zsr <| zmv rfl (hd 59 rfl) <| zmv rfl (hd 60 rfl) <| jo_l (ly_quo rfl rfl (by omega) (r := U / (Y / 4294967296)) (quo_u64 (by omega) (by omega) (by omega))) (hd 61 rfl) <| zas rfl (hd 15 rfl) <| jo_nil <| zsr <| zmv rfl (hd 62 rfl) <| zmv rfl (hd 63 rfl) <| zmv rfl (hd 64 rfl) ?_; refine jo_l (ly_mul rfl rfl rfl) (hd 65 rfl) <| jo_l (ly_is (ly_sub rfl rfl rfl) (show V.i .u64 _ = V.i .u64 (U - U / (Y / 4294967296) * (Y / 4294967296)) from congrArg (V.i .u64) (sub_fit hfi1.1.2.2.2 (by omega)))) (hd 66 rfl) <| zas rfl (hd 16 rfl) <| jo_nil ?_
    refine jc_meetH (G := Unit) (fun _ => True) (fun _ => [(15, .i .u64 (N1 / Y)), (16, .u), (67, .u), (68, .u), (69, .u), (70, .u), (71, .u), (72, .u), (73, .u), (74, .u), (75, .u), (76, .u), (77, .u), (78, .u), (79, .u), (80, .u), (81, .u), (82, .u), (83, .u), (84, .u), (85, .u)]) ?_ ?_
    · refine jc_block ?_
      refine jc_loopF (G := Int × Int) (fun g => Hf N1 Y U g.1 g.2 ∧ 0 ≤ g.1 ∧ g.2 < 4294967296) (fun g => [(15, .i .u64 g.1), (16, .i .u64 g.2), (67, .u), (68, .u), (69, .u), (70, .u), (71, .u), (72, .u), (73, .u), (74, .u), (75, .u), (76, .u), (77, .u), (78, .u), (79, .u), (80, .u), (81, .u), (82, .u), (83, .u), (84, .u), (85, .u)]) (fun _ => _) (fun g => g.1.toNat) (U / (Y / 4294967296), U - U / (Y / 4294967296) * (Y / 4294967296)) ?_ ?_ rfl ?_
      · exact ⟨hP1.first.1, hP1.first.2.1, hP1.first.2.2⟩
      · exact (.cons rfl (.cons rfl (.u (.u (.u (.u (.u (.u (.u (.u (.u (.u (.u (.u (.u (.u (.u (.u (.u (.u (.u .nil)))))))))))))))))))))
      · rintro ⟨q, r⟩ ⟨hf, hq0, hr1⟩
        dsimp only at hf hq0 hr1
        have hf4 := hf
        obtain ⟨he, hQ, hq1, hr0⟩ := hf4
        have hmb := mul_bd (m := 4294967295) hq0 (show 0 ≤ Y % 4294967296 by omega)
        refine jc_seq <| zsr <| zmv rfl (hd 67 rfl) <| jo_l (ly_ge rfl rfl) (hd 68 rfl) <| zmv rfl (hd 69 rfl) ?_
        refine jo_ifp 69 rfl (fun h4 => ?_) (fun h4 => ?_)
        · refine jo_s 69 rfl rfl rfl (hd 70 rfl) <| jo_s 69 rfl rfl rfl (hd 71 rfl) <| jo_s 69 rfl rfl rfl (hd 72 rfl) <| jo_s 69 rfl rfl rfl (hd 73 rfl) <| jo_s 69 rfl rfl rfl (hd 74 rfl) <| jo_s 69 rfl rfl rfl (hd 75 rfl) <| jo_s 69 rfl rfl rfl (hd 76 rfl) <| jo_s 69 rfl rfl rfl (hd 77 rfl) <| jo_l (ly_pick_t rfl rfl) (hd 78 rfl) <| jo_nil <| jc_litt rfl <| jc_skip <| jc_block ?_; refine jc_seq ?_
          obtain ⟨hn1, hn2, hn3⟩ := hP1.next hf (by first | (left; omega) | (right; omega))
          refine jc_region <| zmv rfl (hd 79 rfl) <| jo_l (ly_sub rfl rfl (wrap_u64 (by first | omega | (dsimp only; omega)) (by first | omega | (dsimp only; omega)))) (hd 80 rfl) <| zas rfl (hd 15 rfl) <| jo_nil <| zsr <| zmv rfl (hd 81 rfl) <| zmv rfl (hd 82 rfl) <| jo_l (ly_add rfl rfl (wrap_u64 (by first | omega | (dsimp only; omega)) (by first | omega | (dsimp only; omega)))) (hd 83 rfl) <| zas rfl (hd 16 rfl) <| jo_nil <| jc_seq ?_; refine jc_region <| zmv rfl (hd 84 rfl) <| jo_l (ly_ge rfl rfl) (hd 85 rfl) <| jo_nil ?_
          refine jc_if rfl (fun h6 => ?_) (fun h6 => ?_)
          · refine jc_exit ?_
            refine ⟨(), ?_, rfl, cov_n 43 rfl rfl ?_⟩
            · trivial
            · exact (.cons (by show some (V.i .u64 _) = some (V.i .u64 _); congr 2; first | exact hP1.over hn1 (by omega) (by omega) (by omega) | exact hP1.last hf (by omega)) (.u (.u (.u (.u (.u (.u (.u (.u (.u (.u (.u (.u (.u (.u (.u (.u (.u (.u (.u (.u .nil)))))))))))))))))))))
          · refine jc_skip ?_
            refine ⟨(q - 1, r + Y / 4294967296), ?_, ?_, rfl, cov_n 43 rfl rfl ?_⟩
            · exact ⟨hn1, by show 0 ≤ q - 1; omega, by show r + Y / 4294967296 < 4294967296; omega⟩
            · show (q - 1).toNat < q.toNat
              omega
            · exact (.cons rfl (.cons rfl (.u (.u (.u (.u (.u (.u (.u (.u (.u (.u (.u (.u (.u (.u (.u (.u (.u (.u (.u .nil)))))))))))))))))))))
        · refine jo_g 69 rfl rfl (ly_mv rfl) (hd 70 rfl) <| jo_g 69 rfl rfl (ly_mv rfl) (hd 71 rfl) <| jo_g 69 rfl rfl (ly_mul rfl rfl (wrap_u64 (by have := hmb (by omega) (by omega); dsimp only; omega) (by have := hmb (by omega) (by omega); dsimp only; omega))) (hd 72 rfl) <| jo_g 69 rfl rfl (ly_mv rfl) (hd 73 rfl) <| jo_g 69 rfl rfl (ly_mul rfl rfl (wrap_u64 (by first | omega | (dsimp only; omega)) (by first | omega | (dsimp only; omega)))) (hd 74 rfl) <| jo_g 69 rfl rfl (ly_mv rfl) (hd 75 rfl) <| jo_g 69 rfl rfl (ly_add rfl rfl (wrap_u64 (by first | omega | (dsimp only; omega)) (by first | omega | (dsimp only; omega)))) (hd 76 rfl) <| jo_g 69 rfl rfl (ly_gt rfl rfl) (hd 77 rfl) <| jo_l (ly_pick_f rfl rfl) (hd 78 rfl) <| jo_nil ?_
          refine jc_if rfl (fun h7 => ?_) (fun h7 => ?_)
          · refine jc_skip <| jc_block <| jc_seq ?_
            obtain ⟨hn1, hn2, hn3⟩ := hP1.next hf (by first | (left; omega) | (right; omega))
            refine jc_region <| zmv rfl (hd 79 rfl) <| jo_l (ly_sub rfl rfl (wrap_u64 (by first | omega | (dsimp only; omega)) (by first | omega | (dsimp only; omega)))) (hd 80 rfl) <| zas rfl (hd 15 rfl) <| jo_nil <| zsr <| zmv rfl (hd 81 rfl) <| zmv rfl (hd 82 rfl) <| jo_l (ly_add rfl rfl (wrap_u64 (by first | omega | (dsimp only; omega)) (by first | omega | (dsimp only; omega)))) (hd 83 rfl) <| zas rfl (hd 16 rfl) <| jo_nil <| jc_seq ?_; refine jc_region <| zmv rfl (hd 84 rfl) <| jo_l (ly_ge rfl rfl) (hd 85 rfl) <| jo_nil ?_
            refine jc_if rfl (fun h8 => ?_) (fun h8 => ?_)
            · refine jc_exit ?_
              refine ⟨(), ?_, rfl, cov_n 43 rfl rfl ?_⟩
              · trivial
              · exact (.cons (by show some (V.i .u64 _) = some (V.i .u64 _); congr 2; first | exact hP1.over hn1 (by omega) (by omega) (by omega) | exact hP1.last hf (by omega)) (.u (.u (.u (.u (.u (.u (.u (.u (.u (.u (.u (.u (.u (.u (.u (.u (.u (.u (.u (.u .nil)))))))))))))))))))))
            · refine jc_skip ?_
              refine ⟨(q - 1, r + Y / 4294967296), ?_, ?_, rfl, cov_n 43 rfl rfl ?_⟩
              · exact ⟨hn1, by show 0 ≤ q - 1; omega, by show r + Y / 4294967296 < 4294967296; omega⟩
              · show (q - 1).toNat < q.toNat
                omega
              · exact (.cons rfl (.cons rfl (.u (.u (.u (.u (.u (.u (.u (.u (.u (.u (.u (.u (.u (.u (.u (.u (.u (.u (.u .nil)))))))))))))))))))))
          · refine jc_exit ?_
            refine ⟨(), ?_, rfl, cov_n 34 rfl rfl ?_⟩
            · trivial
            · exact (.cons (by show some (V.i .u64 _) = some (V.i .u64 _); congr 2; first | exact hP1.over hn1 (by omega) (by omega) (by omega) | exact hP1.last hf (by omega)) (.u (.u (.u (.u (.u (.u (.u (.u (.u (.u (.u (.u (.u (.u (.u (.u (.u (.u (.u (.u .nil)))))))))))))))))))))
    · rintro _ _; refine zsr <| zmv rfl (hd 86 rfl) <| jo_l (ly_mul rfl rfl rfl) (hd 87 rfl) <| zmv rfl (hd 88 rfl) <| jo_l (ly_add rfl rfl rfl) (hd 89 rfl) <| zmv rfl (hd 90 rfl) <| zmv rfl (hd 91 rfl) <| jo_l (ly_mul rfl rfl rfl) (hd 92 rfl) <| jo_l (ly_is (ly_sub rfl rfl rfl) (show V.i .u64 _ = V.i .u64 (R1) from congrArg (V.i .u64) (hP1.rest.trans hR1))) (hd 93 rfl) <| zas rfl (hd 17 rfl) <| jo_nil <| jc_seq ?_; refine jc_region <| zmv rfl (hd 94 rfl) <| zmv rfl (hd 95 rfl) <| jo_l (ly_quo rfl rfl (by omega) (r := R1 / (Y / 4294967296)) (quo_u64 (by omega) (by omega) (by omega))) (hd 96 rfl) <| zas rfl (hd 18 rfl) <| jo_nil <| zsr <| zmv rfl (hd 97 rfl) <| zmv rfl (hd 98 rfl) <| zmv rfl (hd 99 rfl) <| jo_l (ly_mul rfl rfl rfl) (hd 100 rfl) <| jo_l (ly_is (ly_sub rfl rfl rfl) (show V.i .u64 _ = V.i .u64 (R1 - R1 / (Y / 4294967296) * (Y / 4294967296)) from congrArg (V.i .u64) (sub_fit hfi2.1.2.2.2 (by omega)))) (hd 101 rfl) ?_; refine zas rfl (hd 16 rfl) <| jo_nil ?_
      refine jc_meetH (G := Unit) (fun _ => True) (fun _ => [(18, .i .u64 (N2 / Y)), (16, .u), (102, .u), (103, .u), (104, .u), (105, .u), (106, .u), (107, .u), (108, .u), (109, .u), (110, .u), (111, .u), (112, .u), (113, .u), (114, .u), (115, .u), (116, .u), (117, .u), (118, .u), (119, .u), (120, .u)]) ?_ ?_
      · refine jc_block ?_
        refine jc_loopF (G := Int × Int) (fun g => Hf N2 Y R1 g.1 g.2 ∧ 0 ≤ g.1 ∧ g.2 < 4294967296) (fun g => [(18, .i .u64 g.1), (16, .i .u64 g.2), (102, .u), (103, .u), (104, .u), (105, .u), (106, .u), (107, .u), (108, .u), (109, .u), (110, .u), (111, .u), (112, .u), (113, .u), (114, .u), (115, .u), (116, .u), (117, .u), (118, .u), (119, .u), (120, .u)]) (fun _ => _) (fun g => g.1.toNat) (R1 / (Y / 4294967296), R1 - R1 / (Y / 4294967296) * (Y / 4294967296)) ?_ ?_ rfl ?_
        · exact ⟨hP2.first.1, hP2.first.2.1, hP2.first.2.2⟩
        · exact (.cons rfl (.cons rfl (.u (.u (.u (.u (.u (.u (.u (.u (.u (.u (.u (.u (.u (.u (.u (.u (.u (.u (.u .nil)))))))))))))))))))))
        · rintro ⟨q, r⟩ ⟨hf, hq0, hr1⟩
          dsimp only at hf hq0 hr1
          have hf4 := hf
          obtain ⟨he, hQ, hq1, hr0⟩ := hf4
          have hmb := mul_bd (m := 4294967295) hq0 (show 0 ≤ Y % 4294967296 by omega)
          refine jc_seq <| zsr <| zmv rfl (hd 102 rfl) <| jo_l (ly_ge rfl rfl) (hd 103 rfl) <| zmv rfl (hd 104 rfl) ?_
          refine jo_ifp 104 rfl (fun h9 => ?_) (fun h9 => ?_)
          · refine jo_s 104 rfl rfl rfl (hd 105 rfl) <| jo_s 104 rfl rfl rfl (hd 106 rfl) <| jo_s 104 rfl rfl rfl (hd 107 rfl) <| jo_s 104 rfl rfl rfl (hd 108 rfl) <| jo_s 104 rfl rfl rfl (hd 109 rfl) <| jo_s 104 rfl rfl rfl (hd 110 rfl) <| jo_s 104 rfl rfl rfl (hd 111 rfl) <| jo_s 104 rfl rfl rfl (hd 112 rfl) <| jo_l (ly_pick_t rfl rfl) (hd 113 rfl) <| jo_nil <| jc_litt rfl <| jc_skip <| jc_block ?_; refine jc_seq ?_
            obtain ⟨hn1, hn2, hn3⟩ := hP2.next hf (by first | (left; omega) | (right; omega))
            refine jc_region <| zmv rfl (hd 114 rfl) <| jo_l (ly_sub rfl rfl (wrap_u64 (by first | omega | (dsimp only; omega)) (by first | omega | (dsimp only; omega)))) (hd 115 rfl) <| zas rfl (hd 18 rfl) <| jo_nil <| zsr <| zmv rfl (hd 116 rfl) <| zmv rfl (hd 117 rfl) <| jo_l (ly_add rfl rfl (wrap_u64 (by first | omega | (dsimp only; omega)) (by first | omega | (dsimp only; omega)))) (hd 118 rfl) <| zas rfl (hd 16 rfl) <| jo_nil <| jc_seq ?_; refine jc_region <| zmv rfl (hd 119 rfl) <| jo_l (ly_ge rfl rfl) (hd 120 rfl) <| jo_nil ?_
            refine jc_if rfl (fun h11 => ?_) (fun h11 => ?_)
            · refine jc_exit ?_
              refine ⟨(), ?_, rfl, cov_n 43 rfl rfl ?_⟩
              · trivial
              · exact (.cons (by show some (V.i .u64 _) = some (V.i .u64 _); congr 2; first | exact hP2.over hn1 (by omega) (by omega) (by omega) | exact hP2.last hf (by omega)) (.u (.u (.u (.u (.u (.u (.u (.u (.u (.u (.u (.u (.u (.u (.u (.u (.u (.u (.u (.u .nil)))))))))))))))))))))
            · refine jc_skip ?_
              refine ⟨(q - 1, r + Y / 4294967296), ?_, ?_, rfl, cov_n 43 rfl rfl ?_⟩
              · exact ⟨hn1, by show 0 ≤ q - 1; omega, by show r + Y / 4294967296 < 4294967296; omega⟩
              · show (q - 1).toNat < q.toNat
                omega
              · exact (.cons rfl (.cons rfl (.u (.u (.u (.u (.u (.u (.u (.u (.u (.u (.u (.u (.u (.u (.u (.u (.u (.u (.u .nil)))))))))))))))))))))
          · refine jo_g 104 rfl rfl (ly_mv rfl) (hd 105 rfl) <| jo_g 104 rfl rfl (ly_mv rfl) (hd 106 rfl) <| jo_g 104 rfl rfl (ly_mul rfl rfl (wrap_u64 (by have := hmb (by omega) (by omega); dsimp only; omega) (by have := hmb (by omega) (by omega); dsimp only; omega))) (hd 107 rfl) <| jo_g 104 rfl rfl (ly_mv rfl) (hd 108 rfl) <| jo_g 104 rfl rfl (ly_mul rfl rfl (wrap_u64 (by first | omega | (dsimp only; omega)) (by first | omega | (dsimp only; omega)))) (hd 109 rfl) <| jo_g 104 rfl rfl (ly_mv rfl) (hd 110 rfl) <| jo_g 104 rfl rfl (ly_add rfl rfl (wrap_u64 (by first | omega | (dsimp only; omega)) (by first | omega | (dsimp only; omega)))) (hd 111 rfl) <| jo_g 104 rfl rfl (ly_gt rfl rfl) (hd 112 rfl) <| jo_l (ly_pick_f rfl rfl) (hd 113 rfl) <| jo_nil ?_
            refine jc_if rfl (fun h12 => ?_) (fun h12 => ?_)
            · refine jc_skip <| jc_block <| jc_seq ?_
              obtain ⟨hn1, hn2, hn3⟩ := hP2.next hf (by first | (left; omega) | (right; omega))
              refine jc_region <| zmv rfl (hd 114 rfl) <| jo_l (ly_sub rfl rfl (wrap_u64 (by first | omega | (dsimp only; omega)) (by first | omega | (dsimp only; omega)))) (hd 115 rfl) <| zas rfl (hd 18 rfl) <| jo_nil <| zsr <| zmv rfl (hd 116 rfl) <| zmv rfl (hd 117 rfl) <| jo_l (ly_add rfl rfl (wrap_u64 (by first | omega | (dsimp only; omega)) (by first | omega | (dsimp only; omega)))) (hd 118 rfl) <| zas rfl (hd 16 rfl) <| jo_nil <| jc_seq ?_; refine jc_region <| zmv rfl (hd 119 rfl) <| jo_l (ly_ge rfl rfl) (hd 120 rfl) <| jo_nil ?_
              refine jc_if rfl (fun h13 => ?_) (fun h13 => ?_)
              · refine jc_exit ?_
                refine ⟨(), ?_, rfl, cov_n 43 rfl rfl ?_⟩
                · trivial
                · exact (.cons (by show some (V.i .u64 _) = some (V.i .u64 _); congr 2; first | exact hP2.over hn1 (by omega) (by omega) (by omega) | exact hP2.last hf (by omega)) (.u (.u (.u (.u (.u (.u (.u (.u (.u (.u (.u (.u (.u (.u (.u (.u (.u (.u (.u (.u .nil)))))))))))))))))))))
              · refine jc_skip ?_
                refine ⟨(q - 1, r + Y / 4294967296), ?_, ?_, rfl, cov_n 43 rfl rfl ?_⟩
                · exact ⟨hn1, by show 0 ≤ q - 1; omega, by show r + Y / 4294967296 < 4294967296; omega⟩
                · show (q - 1).toNat < q.toNat
                  omega
                · exact (.cons rfl (.cons rfl (.u (.u (.u (.u (.u (.u (.u (.u (.u (.u (.u (.u (.u (.u (.u (.u (.u (.u (.u .nil)))))))))))))))))))))
            · refine jc_exit ?_
              refine ⟨(), ?_, rfl, cov_n 34 rfl rfl ?_⟩
              · trivial
              · exact (.cons (by show some (V.i .u64 _) = some (V.i .u64 _); congr 2; first | exact hP2.over hn1 (by omega) (by omega) (by omega) | exact hP2.last hf (by omega)) (.u (.u (.u (.u (.u (.u (.u (.u (.u (.u (.u (.u (.u (.u (.u (.u (.u (.u (.u (.u .nil)))))))))))))))))))))
      · rintro _ _; refine zsr <| zmv rfl (hd 121 rfl) <| jo_l (ly_mul rfl rfl (wrap_u64 (by first | omega | (dsimp only; omega)) (by first | omega | (dsimp only; omega)))) (hd 122 rfl) <| zmv rfl (hd 123 rfl) <| jo_l (ly_add rfl rfl (r := (hi * 18446744073709551616 + lo) / y) (by rw [wrap_u64 (by omega) (by omega)]; exact hE1)) (hd 124 rfl) <| zmv rfl (hd 125 rfl) <| jo_l (ly_mul rfl rfl rfl) (hd 126 rfl) <| zmv rfl (hd 127 rfl) <| jo_l (ly_add rfl rfl rfl) (hd 128 rfl) <| zmv rfl (hd 129 rfl) <| zmv rfl (hd 130 rfl) <| jo_l (ly_mul rfl rfl rfl) (hd 131 rfl) ?_; refine jo_l (ly_is (ly_sub rfl rfl rfl) (show V.i .u64 _ = V.i .u64 (N2 % Y) from congrArg (V.i .u64) hP2.rest)) (hd 132 rfl) <| zmv rfl (hd 133 rfl) <| jo_l (ly_is (ly_shr rfl rfl (by omega) rfl) (show V.i .u64 _ = V.i .u64 ((hi * 18446744073709551616 + lo) % y) from congrArg (V.i .u64) ((shr_sym (by omega)).trans hE2))) (hd 134 rfl) <| zas rfl (hd 6 rfl) <| zas rfl (hd 7 rfl) <| jo_nil <| jc_ret ?_
        refine ⟨_, _, (.cons rfl (.cons rfl .nil)), (.t1 .i (.t1 .i .t0)), ?_⟩
        rfl

theorem up_s (s : Nat) (a : List Int) (hl : a.length < 1099511627776) (hs : s < 64) (ua : u64s a) : Spec Try.prog 124 [.n false .u64 a, .i .u64 (s : Int)] (fun o => o = .ret (.n true .u64 (upL a s))) := by
  refine spec_of' [(0, .n false .u64 a), (1, .i .u64 (s : Int))] rfl Try.func124 rfl (zlb rfl) fun Γ hN hds hL hR => ?_
  have hd := hdOf 39 hN
  refine zsr <| zas rfl (hd 4 rfl) <| jo_nil <| zsr <| zmv rfl (hd 8 rfl) <| jo_l (ly_lenn sl28 rfl) (hd 9 rfl) <| jo_l (ly_add rfl rfl (r := ((a.length + 1 : Nat) : Int)) (by rw [wrap_i64 (by omega) (by omega)]; omega)) (hd 10 rfl) <| jo_h (hy_mk (m := a.length + 1) el28 rfl rfl rfl (by show 8 * (a.length + 1) ≤ _; omega) (by unfold maxLen; omega) rfl) (hd 11 rfl) <| zas rfl (hd 5 rfl) <| jo_nil <| jc_seq ?_; refine jc_seq <| jc_H (H' := [⟨67, 1, 0, true, ints .u64 (upR a s 0)⟩]) (by rw [← upR_0]; rfl) <| jc_region <| zmv rfl (hd 12 rfl) <| jo_l (ly_lenn sl28 rfl) (hd 13 rfl) <| zmv rfl (hd 14 rfl) <| jo_nil <| jc_block ?_
  refine jc_loopF (G := Nat) (fun i => i ≤ a.length) (fun i => [(14, .i .i64 (i : Int)), (6, .u), (7, .u), (15, .u), (16, .u), (17, .u), (18, .u), (19, .u), (20, .u), (21, .u), (22, .u), (23, .u), (24, .u), (25, .u), (26, .u), (27, .u), (28, .u), (29, .u), (30, .u), (31, .u), (32, .u), (33, .u), (34, .u), (35, .u), (36, .u), (37, .u)]) (fun i => [⟨67, 1, 0, true, ints .u64 (upR a s i)⟩]) (fun i => a.length - i) 0 ?_ ?_ rfl ?_
  · exact Nat.zero_le _
  · exact (.cons rfl (.u (.u (.u (.u (.u (.u (.u (.u (.u (.u (.u (.u (.u (.u (.u (.u (.u (.u (.u (.u (.u (.u (.u (.u (.u .nil))))))))))))))))))))))))))
  · rintro i hc1
    have hf := upR_len (s := s) hc1
    have hc := upN_c (Nat.le_of_lt hs) ua i
    have hx := u64s_getD ua i
    refine zsr <| jo_l (ly_lt rfl rfl) (hd 15 rfl) <| jo_nil <| jc_seq ?_
    refine jc_if rfl (fun h1 => ?_) (fun h1 => ?_)
    · refine jc_skip <| jc_seq <| jc_block <| zsr <| zmv rfl (hd 16 rfl) <| jo_l (ly_ian (i := i) sl28 rfl rfl (by first | rfl | omega) (by omega)) (hd 17 rfl) <| jo_l (ly_ldq one82 rfl rfl) (hd 18 rfl) <| zas rfl (hd 6 rfl) <| zas rfl (hd 7 rfl) <| jo_nil <| jc_seq <| jc_region ?_; refine zmv rfl (hd 19 rfl) <| zmv rfl (hd 20 rfl) <| jo_l (ly_ia (i := i) sl28 rfl rfl rfl (by first | rfl | omega) (by omega) rfl) (hd 21 rfl) <| jo_l (ly_is (ly_ldi one82 rfl rfl (by omega)) (show V.i .u64 _ = V.i .u64 ((upN a s i).2) from congrArg (V.i .u64) upR_get)) (hd 22 rfl) <| zmv rfl (hd 23 rfl) <| zmv rfl (hd 24 rfl) <| jo_l (ly_is (ly_shl rfl rfl (by omega) rfl) (show V.i .u64 _ = V.i .u64 (loS (a.getD i 0) s) from congrArg (V.i .u64) (shl_sym (by omega)))) (hd 25 rfl) <| jo_l (ly_is (ly_bit (by simp) rfl rfl rfl) (show V.i .u64 _ = V.i .u64 ((upN a s i).2 + loS (a.getD i 0) s) from congrArg (V.i .u64) (or_lo (by omega) hc.1 hc.2 hx.1).1)) (hd 26 rfl) <| jo_l (ly_ia (i := i) sl28 rfl rfl rfl (by first | rfl | omega) (by omega) rfl) (hd 27 rfl) <| jo_st (sy_storei rfl rfl rfl one82 (by omega)) <| jo_nil <| jc_region <| zmv rfl (hd 28 rfl) ?_; refine zmv rfl (hd 29 rfl) <| jo_l (ly_add rfl rfl (wrap_i64 (by omega) (by omega))) (hd 30 rfl) <| zmv rfl (hd 31 rfl) <| jo_l (ly_is (ly_shr rfl rfl (by omega) rfl) (show V.i .u64 _ = V.i .u64 (a.getD i 0 / 2) from congrArg (V.i .u64) (shr1 hx.1))) (hd 32 rfl) <| zmv rfl (hd 33 rfl) <| jo_l (ly_sub rfl rfl (r := ((63 - s : Nat) : Int)) (by rw [wrap_u64 (by omega) (by omega)]; omega)) (hd 34 rfl) <| jo_l (ly_is (ly_shr rfl rfl (by omega) rfl) (show V.i .u64 _ = V.i .u64 (hiS (a.getD i 0) s) from congrArg (V.i .u64) ((shr_sym (by omega)).trans (shr_two hs)))) (hd 35 rfl) <| jo_l (ly_ia (i := i + 1) sl28 rfl rfl rfl (by first | rfl | omega) (by omega) rfl) (hd 36 rfl) <| jo_st (sy_storei rfl rfl rfl one82 (by simp only [List.length_set]; omega)) <| jo_nil <| jc_region <| jo_l (ly_add rfl rfl (wrap_i64 (by omega) (by omega))) (hd 37 rfl) <| zmv rfl (hd 14 rfl) ?_; refine jo_nil ?_
      refine ⟨i + 1, ?_, ?_, (by show [(⟨67, 1, 0, true, ints .u64 _⟩ : Ob)] = [⟨67, 1, 0, true, ints .u64 _⟩]; rw [upR_set (by omega)]), cov_n 52 rfl rfl ?_⟩
      · omega
      · omega
      · exact (.cons rfl (.u (.u (.u (.u (.u (.u (.u (.u (.u (.u (.u (.u (.u (.u (.u (.u (.u (.u (.u (.u (.u (.u (.u (.u (.u .nil))))))))))))))))))))))))))
    · obtain rfl : i = a.length := by omega
      rw [upR_end] at hf ⊢
      refine jc_exit <| zsr <| zmv rfl (hd 38 rfl) <| zas rfl (hd 4 rfl) <| jo_nil <| jc_ret ?_
      refine ⟨_, _, (.cons rfl .nil), (.o (l := upL a s) rfl (by omega) rfl), ?_⟩
      rw [List.drop_zero, List.take_of_length_le (by omega)]

theorem up_n (s : Nat) (a : List Int) (hl : a.length < 1099511627776) (hs : s < 64) (ua : u64s a) : SpecM Try.prog 124 [.n false .u64 a, .i .u64 (s : Int)] [] (fun o G => o = .ret (.o 0 0 0 (a.length + 1)) ∧ G = [⟨67, 1, 0, true, ints .u64 (upL a s)⟩]) := by
  refine specS_of [(0, .n false .u64 a), (1, .i .u64 (s : Int))] rfl Try.func124 rfl (zlb rfl) fun Γ hN hds hL hR => ?_
  have hd := hdOf 39 hN
  refine zsr <| zas rfl (hd 4 rfl) <| jo_nil <| zsr <| zmv rfl (hd 8 rfl) <| jo_l (ly_lenn sl28 rfl) (hd 9 rfl) <| jo_l (ly_add rfl rfl (r := ((a.length + 1 : Nat) : Int)) (by rw [wrap_i64 (by omega) (by omega)]; omega)) (hd 10 rfl) <| jo_h (hy_mk (m := a.length + 1) el28 rfl rfl rfl (by show 8 * (a.length + 1) ≤ _; omega) (by unfold maxLen; omega) rfl) (hd 11 rfl) <| zas rfl (hd 5 rfl) <| jo_nil <| jc_seq ?_; refine jc_seq <| jc_H (H' := [⟨67, 1, 0, true, ints .u64 (upR a s 0)⟩]) (by rw [← upR_0]; rfl) <| jc_region <| zmv rfl (hd 12 rfl) <| jo_l (ly_lenn sl28 rfl) (hd 13 rfl) <| zmv rfl (hd 14 rfl) <| jo_nil <| jc_block ?_
  refine jc_loopF (G := Nat) (fun i => i ≤ a.length) (fun i => [(14, .i .i64 (i : Int)), (6, .u), (7, .u), (15, .u), (16, .u), (17, .u), (18, .u), (19, .u), (20, .u), (21, .u), (22, .u), (23, .u), (24, .u), (25, .u), (26, .u), (27, .u), (28, .u), (29, .u), (30, .u), (31, .u), (32, .u), (33, .u), (34, .u), (35, .u), (36, .u), (37, .u)]) (fun i => [⟨67, 1, 0, true, ints .u64 (upR a s i)⟩]) (fun i => a.length - i) 0 ?_ ?_ rfl ?_
  · exact Nat.zero_le _
  · exact (.cons rfl (.u (.u (.u (.u (.u (.u (.u (.u (.u (.u (.u (.u (.u (.u (.u (.u (.u (.u (.u (.u (.u (.u (.u (.u (.u .nil))))))))))))))))))))))))))
  · rintro i hc1
    have hf := upR_len (s := s) hc1
    have hc := upN_c (Nat.le_of_lt hs) ua i
    have hx := u64s_getD ua i
    refine zsr <| jo_l (ly_lt rfl rfl) (hd 15 rfl) <| jo_nil <| jc_seq ?_
    refine jc_if rfl (fun h1 => ?_) (fun h1 => ?_)
    · refine jc_skip <| jc_seq <| jc_block <| zsr <| zmv rfl (hd 16 rfl) <| jo_l (ly_ian (i := i) sl28 rfl rfl (by first | rfl | omega) (by omega)) (hd 17 rfl) <| jo_l (ly_ldq one82 rfl rfl) (hd 18 rfl) <| zas rfl (hd 6 rfl) <| zas rfl (hd 7 rfl) <| jo_nil <| jc_seq <| jc_region ?_; refine zmv rfl (hd 19 rfl) <| zmv rfl (hd 20 rfl) <| jo_l (ly_ia (i := i) sl28 rfl rfl rfl (by first | rfl | omega) (by omega) rfl) (hd 21 rfl) <| jo_l (ly_is (ly_ldi one82 rfl rfl (by omega)) (show V.i .u64 _ = V.i .u64 ((upN a s i).2) from congrArg (V.i .u64) upR_get)) (hd 22 rfl) <| zmv rfl (hd 23 rfl) <| zmv rfl (hd 24 rfl) <| jo_l (ly_is (ly_shl rfl rfl (by omega) rfl) (show V.i .u64 _ = V.i .u64 (loS (a.getD i 0) s) from congrArg (V.i .u64) (shl_sym (by omega)))) (hd 25 rfl) <| jo_l (ly_is (ly_bit (by simp) rfl rfl rfl) (show V.i .u64 _ = V.i .u64 ((upN a s i).2 + loS (a.getD i 0) s) from congrArg (V.i .u64) (or_lo (by omega) hc.1 hc.2 hx.1).1)) (hd 26 rfl) <| jo_l (ly_ia (i := i) sl28 rfl rfl rfl (by first | rfl | omega) (by omega) rfl) (hd 27 rfl) <| jo_st (sy_storei rfl rfl rfl one82 (by omega)) <| jo_nil <| jc_region <| zmv rfl (hd 28 rfl) ?_; refine zmv rfl (hd 29 rfl) <| jo_l (ly_add rfl rfl (wrap_i64 (by omega) (by omega))) (hd 30 rfl) <| zmv rfl (hd 31 rfl) <| jo_l (ly_is (ly_shr rfl rfl (by omega) rfl) (show V.i .u64 _ = V.i .u64 (a.getD i 0 / 2) from congrArg (V.i .u64) (shr1 hx.1))) (hd 32 rfl) <| zmv rfl (hd 33 rfl) <| jo_l (ly_sub rfl rfl (r := ((63 - s : Nat) : Int)) (by rw [wrap_u64 (by omega) (by omega)]; omega)) (hd 34 rfl) <| jo_l (ly_is (ly_shr rfl rfl (by omega) rfl) (show V.i .u64 _ = V.i .u64 (hiS (a.getD i 0) s) from congrArg (V.i .u64) ((shr_sym (by omega)).trans (shr_two hs)))) (hd 35 rfl) <| jo_l (ly_ia (i := i + 1) sl28 rfl rfl rfl (by first | rfl | omega) (by omega) rfl) (hd 36 rfl) <| jo_st (sy_storei rfl rfl rfl one82 (by simp only [List.length_set]; omega)) <| jo_nil <| jc_region <| jo_l (ly_add rfl rfl (wrap_i64 (by omega) (by omega))) (hd 37 rfl) <| zmv rfl (hd 14 rfl) ?_; refine jo_nil ?_
      refine ⟨i + 1, ?_, ?_, (by show [(⟨67, 1, 0, true, ints .u64 _⟩ : Ob)] = [⟨67, 1, 0, true, ints .u64 _⟩]; rw [upR_set (by omega)]), cov_n 52 rfl rfl ?_⟩
      · omega
      · omega
      · exact (.cons rfl (.u (.u (.u (.u (.u (.u (.u (.u (.u (.u (.u (.u (.u (.u (.u (.u (.u (.u (.u (.u (.u (.u (.u (.u (.u .nil))))))))))))))))))))))))))
    · obtain rfl : i = a.length := by omega
      rw [upR_end] at hf ⊢
      refine jc_exit <| zsr <| zmv rfl (hd 38 rfl) <| zas rfl (hd 4 rfl) <| jo_nil <| jc_ret ?_
      refine ⟨[0], _, (.o 0 0 0 (a.length + 1)), (.cons rfl .nil), rfl, rfl, (by decide), (by first | exact idless_cons ints_id idless_nil | exact idless_cons rfl idless_nil), ?_⟩
      exact ⟨rfl, rfl⟩

theorem div_down_s (s : Nat) (a : List Int) (hl : a.length < 1099511627776) (hs : s < 64) (ua : u64s a) : Spec Try.prog 126 [.n false .u64 a, .i .u64 (s : Int)] (fun o => o = .ret (.n true .u64 (trm (dnN a s a.length)))) := by
  refine spec_of' [(0, .n false .u64 a), (1, .i .u64 (s : Int))] rfl Try.func126 rfl (zlb rfl) fun Γ hN hds hL hR => ?_
  have hd := hdOf 47 hN
  refine zsr <| zas rfl (hd 4 rfl) <| jo_nil <| zsr <| zmv rfl (hd 8 rfl) <| jo_l (ly_lenn sl28 rfl) (hd 9 rfl) <| jo_h (hy_mk (m := a.length) el28 rfl rfl rfl (by show 8 * a.length ≤ _; omega) (by unfold maxLen; omega) rfl) (hd 10 rfl) <| zas rfl (hd 5 rfl) <| jo_nil <| jc_seq <| jc_seq ?_; refine jc_region <| zmv rfl (hd 11 rfl) <| jo_l (ly_lenn sl28 rfl) (hd 12 rfl) <| zmv rfl (hd 13 rfl) <| jo_nil <| jc_block ?_
  refine jc_loopF (G := Nat) (fun i => i ≤ a.length) (fun i => [(13, .i .i64 (i : Int)), (6, .u), (7, .u), (14, .u), (15, .u), (16, .u), (17, .u), (18, .u), (19, .u), (20, .u), (21, .u), (22, .u), (23, .u), (24, .u), (25, .u), (26, .u), (27, .u), (28, .u), (29, .u), (30, .u), (31, .u), (32, .u), (33, .u), (34, .u), (35, .u), (36, .u), (37, .u), (38, .u), (39, .u), (40, .u), (41, .u), (42, .u), (43, .u), (44, .u)]) (fun i => [⟨67, 1, 0, true, ints .u64 (fillI (dnN a s i) a.length)⟩]) (fun i => a.length - i) 0 ?_ ?_ rfl ?_
  · exact Nat.zero_le _
  · exact (.cons rfl (.u (.u (.u (.u (.u (.u (.u (.u (.u (.u (.u (.u (.u (.u (.u (.u (.u (.u (.u (.u (.u (.u (.u (.u (.u (.u (.u (.u (.u (.u (.u (.u (.u .nil))))))))))))))))))))))))))))))))))
  · rintro i hc1
    have hf : (fillI (dnN a s i) a.length).length = a.length := fillI_len (by rw [dnN_len]; exact hc1)
    have hx := u64s_getD ua i
    have hy := u64s_getD ua (i + 1)
    refine zsr <| jo_l (ly_lt rfl rfl) (hd 14 rfl) <| jo_nil <| jc_seq ?_
    refine jc_if rfl (fun h1 => ?_) (fun h1 => ?_)
    · refine jc_skip ?_
      refine jc_meet (G := Unit) (fun _ => True) (fun _ => [(6, .u), (7, .u), (15, .u), (16, .u), (17, .u), (18, .u), (19, .u), (20, .u), (21, .u), (22, .u), (23, .u), (24, .u), (25, .u), (26, .u), (27, .u), (28, .u), (29, .u), (30, .u), (31, .u), (32, .u), (33, .u), (34, .u), (35, .u), (36, .u), (37, .u), (38, .u), (39, .u), (40, .u), (41, .u), (42, .u), (43, .u)]) (fun _ => [⟨67, 1, 0, true, ints .u64 (fillI (dnN a s (i + 1)) a.length)⟩]) ?_ ?_
      · refine jc_block <| zsr <| zmv rfl (hd 15 rfl) <| jo_l (ly_ian (i := i) sl28 rfl rfl (by first | rfl | omega) (by omega)) (hd 16 rfl) <| jo_l (ly_ldq one82 rfl rfl) (hd 17 rfl) <| zas rfl (hd 6 rfl) <| zas rfl (hd 7 rfl) <| jo_nil <| zsr <| zmv rfl (hd 18 rfl) <| zmv rfl (hd 19 rfl) ?_; refine zmv rfl (hd 20 rfl) <| zmv rfl (hd 21 rfl) <| jo_l (ly_is (ly_shr rfl rfl (by omega) rfl) (show V.i .u64 _ = V.i .u64 (a.getD i 0 / 2 ^ s) from congrArg (V.i .u64) (shr_sym (by omega)))) (hd 22 rfl) <| jo_l (ly_ia (i := i) sl28 rfl rfl rfl (by first | rfl | omega) (by omega) rfl) (hd 23 rfl) <| jo_st (sy_storei rfl rfl rfl one82 (by omega)) <| jo_nil <| zsr <| zmv rfl (hd 24 rfl) <| jo_l (ly_add rfl rfl (wrap_i64 (by omega) (by omega))) (hd 25 rfl) <| zmv rfl (hd 26 rfl) <| jo_l (ly_lenn sl28 rfl) (hd 27 rfl) <| jo_l (ly_lt rfl rfl) (hd 28 rfl) ?_; refine jo_nil ?_
        refine jc_if rfl (fun h2 => ?_) (fun h2 => ?_)
        · refine jc_draw (n := 16) _ rfl mixed <| zal2 0 [2, 3, 13, 14, 15] (lo_l (ly_mv rfl) (hd 29 rfl)) rfl <| zal2 1 [2, 3, 13, 14, 15] (lo_l (ly_mv rfl) (hd 30 rfl)) rfl <| zal2 2 [3, 13, 14, 15] (lo_l (ly_ia (i := i) sl28 rfl rfl rfl (by first | rfl | omega) (by omega) rfl) (hd 31 rfl)) rfl <| zal 3 (lo_l (ly_is (ly_ldi one82 rfl rfl (by simp only [List.length_set]; omega)) (show V.i .u64 _ = V.i .u64 (a.getD i 0 / 2 ^ s) from congrArg (V.i .u64) (dnR_get (by omega)))) (hd 32 rfl)) rfl <| zal2 4 [7, 8, 9, 12, 13, 14, 15] (lo_l (ly_mv rfl) (hd 33 rfl)) rfl <| zal2 5 [6, 7, 8, 9, 12, 13, 14, 15] (lo_l (ly_mv rfl) (hd 34 rfl)) rfl <| zal2 6 [7, 8, 9, 12, 13, 14, 15] (lo_l (ly_add rfl rfl (r := ((i + 1 : Nat) : Int)) (by rw [wrap_i64 (by omega) (by omega)]; omega)) (hd 35 rfl)) rfl <| zal2 7 [8, 9, 12, 13, 14, 15] (lo_l (ly_ian (i := i + 1) sl28 rfl rfl (by first | rfl | omega) (by omega)) (hd 36 rfl)) rfl <| zal2 8 [9, 12, 13, 14, 15] (lo_l (ly_ldq one82 rfl rfl) (hd 37 rfl)) rfl <| zal2 9 [12, 13, 14, 15] (lo_l (ly_is (ly_shl rfl rfl (by omega) rfl) (show V.i .u64 _ = V.i .u64 (a.getD (i + 1) 0 * 2 % 18446744073709551616) from congrArg (V.i .u64) shl1)) (hd 38 rfl)) rfl <| zal2 10 [11, 12, 13, 14, 15] (lo_l (ly_mv rfl) (hd 39 rfl)) rfl <| zal2 11 [12, 13, 14, 15] (lo_l (ly_sub rfl rfl (r := ((63 - s : Nat) : Int)) (by rw [wrap_u64 (by omega) (by omega)]; omega)) (hd 40 rfl)) rfl ?_; refine zal 12 (lo_l (ly_is (ly_shl rfl rfl (by omega) rfl) (show V.i .u64 _ = V.i .u64 (loS (a.getD (i + 1) 0) (64 - s)) from congrArg (V.i .u64) ((shl_sym (by omega)).trans (shl_two hs)))) (hd 41 rfl)) rfl <| zal 13 (lo_l (ly_is (ly_bit (by simp) rfl rfl rfl) (show V.i .u64 _ = V.i .u64 (dnD a s i) from congrArg (V.i .u64) (dn_or (Nat.le_of_lt hs) hx.1 hx.2 hy.1).1)) (hd 42 rfl)) rfl <| zal 14 (lo_l (ly_ia (i := i) sl28 rfl rfl rfl (by first | rfl | omega) (by omega) rfl) (hd 43 rfl)) rfl ?_
          refine ja_1 15 ?_ rfl (by kernel_rfl)
          refine js_st (sy_storei rfl rfl rfl one82 (by simp only [List.length_set]; omega)) rfl <| ja_nil (by kernel_rfl) ?_
          refine ⟨(), ?_, (by show [(⟨67, 1, 0, true, ints .u64 _⟩ : Ob)] = [⟨67, 1, 0, true, ints .u64 _⟩]; first | rw [← dnD_last (show a.length ≤ i + 1 by omega), dnR_set (by omega)] | rw [List.set_set, dnR_set (by omega)]), cov_n 31 rfl rfl ?_⟩
          · trivial
          · exact (.u (.u (.u (.u (.u (.u (.u (.u (.u (.u (.u (.u (.u (.u (.u (.u (.u (.u (.u (.u (.u (.u (.u (.u (.u (.u (.u (.u (.u (.u (.u .nil)))))))))))))))))))))))))))))))
        · refine jc_skip ?_
          refine ⟨(), ?_, (by show [(⟨67, 1, 0, true, ints .u64 _⟩ : Ob)] = [⟨67, 1, 0, true, ints .u64 _⟩]; first | rw [← dnD_last (show a.length ≤ i + 1 by omega), dnR_set (by omega)] | rw [List.set_set, dnR_set (by omega)]), cov_n 16 rfl rfl ?_⟩
          · trivial
          · exact (.u (.u (.u (.u (.u (.u (.u (.u (.u (.u (.u (.u (.u (.u (.u (.u (.u (.u (.u (.u (.u (.u (.u (.u (.u (.u (.u (.u (.u (.u (.u .nil)))))))))))))))))))))))))))))))
      · rintro _ _; refine jc_region <| jo_l (ly_add rfl rfl (wrap_i64 (by omega) (by omega))) (hd 44 rfl) <| zmv rfl (hd 13 rfl) <| jo_nil ?_
        refine ⟨i + 1, ?_, ?_, rfl, cov_n 68 rfl rfl ?_⟩
        · omega
        · omega
        · exact (.cons rfl (.u (.u (.u (.u (.u (.u (.u (.u (.u (.u (.u (.u (.u (.u (.u (.u (.u (.u (.u (.u (.u (.u (.u (.u (.u (.u (.u (.u (.u (.u (.u (.u (.u .nil))))))))))))))))))))))))))))))))))
    · obtain rfl : i = a.length := by omega
      refine jc_exit <| zsr <| jo_frz (k := .u64) (l := fillI (dnN a s a.length) a.length) (l' := dnN a s a.length) 5 rfl rfl (by omega) (by rw [List.drop_zero, List.take_of_length_le (by omega), fillI_full (dnN_len _ _ _)]) hL <| zmv rfl (hd 45 rfl) ?_
      refine jo_call Try.f71 (Norm_s (dnN a s a.length) (by rw [dnN_len]; omega)) rfl Try.func71 rfl rfl (ovL_cons rfl ovL_nil) (.cons .n .nil) (hd 46 rfl) ?_ (fun ch hp => by simp at hp)
      rintro _ ⟨⟩; refine zas rfl (hd 4 rfl) <| jo_nil <| jc_ret ?_
      refine ⟨_, _, (.cons rfl .nil), .n, ?_⟩
      exact rfl

set_option maxRecDepth 100000 in
theorem guess_s (U u v Q : List Int) (j n : Nat) (hU : j + (n + 3) ≤ U.length) (hUl : U.length < 4398046511104) (uU : u64s U) (hu : slJ U j (n + 3) = u) (hP : GuP u v n) : SpecM Try.prog 125 [.o 0 0 j (n + 3), .n false .u64 v] ([⟨67, 1, 0, true, ints .u64 U⟩, ⟨67, 1, 0, true, ints .u64 Q⟩]) (fun o H' => o = .ret (.i .u64 (vl u / vl v)) ∧ ∃ r, H' = [⟨67, 1, 0, true, ints .u64 (rwJ U j r)⟩, ⟨67, 1, 0, true, ints .u64 Q⟩] ∧ r.length = n + 3 ∧ u64s r ∧ vl r = vl u % vl v) := by
  refine specM_of [(0, .o 0 0 j (n + 3)), (1, .n false .u64 v)] rfl (2) rfl Try.func125 rfl (zlb rfl) fun Γ hN hds => ?_
  have hd := hdOf 195 hN
  have hlu := hP.lu
  have hlv := hP.lv
  have hv0 := hP.pos
  have hQ1 := hP.q_lt
  have hQ0 := hP.q_nn
  have hx0 := u64s_getD hP.uu n
  have hx1 := u64s_getD hP.uu (n + 1)
  have hx2 := u64s_getD hP.uu (n + 2)
  have hy0 := u64s_getD hP.uv n
  have hy1 := u64s_getD hP.uv (n + 1)
  have hat2 : ∀ k, k < n + 3 → U.getD (j + k) 0 = u.getD k 0 := fun k hk => by rw [← hu, slJ_at hk]
  have hat : ∀ k, k < n + 3 → U.getD ((j + k) * 1) 0 = u.getD k 0 := fun k hk => by rw [Nat.mul_one]; exact hat2 k hk
  refine zsr <| zas rfl (hd 4 rfl) <| jo_nil <| zsr <| zmv rfl (hd 24 rfl) <| jo_l (ly_lenn sl28 rfl) (hd 25 rfl) <| zas rfl (hd 5 rfl) <| jo_nil <| zsr <| zas rfl (hd 6 rfl) ?_; refine zas rfl (hd 7 rfl) <| jo_nil <| zsr <| zas rfl (hd 8 rfl) <| jo_nil ?_
  refine jc_meetH (G := Int × Int × Bool) (fun g => vl u / vl v ≤ g.1 ∧ 0 ≤ g.1 ∧ g.1 < 18446744073709551616 ∧ (g.2.2 = false → Est u v n g.1 g.2.1 ∧ g.2.1 < 18446744073709551616) ∧ (g.2.2 = true → g.1 ≤ vl u / vl v + 1)) (fun g => [(6, .i .u64 g.1), (7, .i .u64 g.2.1), (8, .b g.2.2), (9, .u), (26, .u), (27, .u), (28, .u), (29, .u), (30, .u), (31, .u), (32, .u), (33, .u), (34, .u), (35, .u), (36, .u), (37, .u), (38, .u), (39, .u), (40, .u), (41, .u), (42, .u), (43, .u), (44, .u), (45, .u), (46, .u), (47, .u), (48, .u), (49, .u), (50, .u), (51, .u), (52, .u), (53, .u), (54, .u), (55, .u), (56, .u), (57, .u), (58, .u), (59, .u), (60, .u), (61, .u), (62, .u), (63, .u), (64, .u), (65, .u), (66, .u), (67, .u), (68, .u), (69, .u)]) ?_ ?_
  · refine jc_seq <| jc_draw (n := 10) _ rfl mixed <| zal2 0 [2, 3, 9] (lo_l (ly_mv rfl) (hd 26 rfl)) rfl <| zal2 1 [2, 3, 9] (lo_l (ly_mv rfl) (hd 27 rfl)) rfl <| zal2 2 [3, 9] (lo_l (ly_ia (i := n + 2) sl28 rfl rfl rfl (by first | rfl | omega) (by omega) rfl) (hd 28 rfl)) rfl <| zal 3 (lo_l (ly_is (ly_ldi one82 rfl rfl (by omega)) (show V.i .u64 _ = V.i .u64 (u.getD (n + 2) 0) from congrArg (V.i .u64) (hat (n + 2) (by omega)))) (hd 29 rfl)) rfl <| zal2 4 [7, 8, 9] (lo_l (ly_mv rfl) (hd 30 rfl)) rfl <| zal2 5 [6, 7, 8, 9] (lo_l (ly_mv rfl) (hd 31 rfl)) rfl <| zal2 6 [7, 8, 9] (lo_l (ly_sub rfl rfl (r := ((n + 1 : Nat) : Int)) (by rw [wrap_i64 (by omega) (by omega)]; omega)) (hd 32 rfl)) rfl <| zal2 7 [8, 9] (lo_l (ly_ian (i := n + 1) sl28 rfl rfl (by first | rfl | omega) (by omega)) (hd 33 rfl)) rfl <| zal 8 (lo_l (ly_ldq one82 rfl rfl) (hd 34 rfl)) rfl <| zal 9 (lo_l (ly_ge rfl rfl) (hd 35 rfl)) rfl <| ja_nil (by kernel_rfl) ?_
    refine jc_if rfl (fun h1 => ?_) (fun h1 => ?_)
    · refine zsr <| zas rfl (hd 6 rfl) <| jo_nil <| zsr <| zas rfl (hd 9 rfl) <| jo_nil <| jc_seq <| jc_draw (n := 16) _ rfl mixed <| zal2 0 [3, 4, 10, 11, 12, 13, 14, 15] (lo_l (ly_mv rfl) (hd 37 rfl)) rfl <| zal2 1 [2, 3, 4, 10, 11, 12, 13, 14, 15] (lo_l (ly_mv rfl) (hd 38 rfl)) rfl <| zal2 2 [3, 4, 10, 11, 12, 13, 14, 15] (lo_l (ly_sub rfl rfl (r := ((n + 1 : Nat) : Int)) (by rw [wrap_i64 (by omega) (by omega)]; omega)) (hd 39 rfl)) rfl ?_; refine zal2 3 [4, 10, 11, 12, 13, 14, 15] (lo_l (ly_ia (i := n + 1) sl28 rfl rfl rfl (by first | rfl | omega) (by omega) rfl) (hd 40 rfl)) rfl <| zal2 4 [10, 11, 12, 13, 14, 15] (lo_l (ly_is (ly_ldi one82 rfl rfl (by omega)) (show V.i .u64 _ = V.i .u64 (u.getD (n + 1) 0) from congrArg (V.i .u64) (hat (n + 1) (by omega)))) (hd 41 rfl)) rfl <| zal2 5 [8, 9, 10, 11, 12, 13, 14, 15] (lo_l (ly_mv rfl) (hd 42 rfl)) rfl <| zal2 6 [7, 8, 9, 10, 11, 12, 13, 14, 15] (lo_l (ly_mv rfl) (hd 43 rfl)) rfl <| zal2 7 [8, 9, 10, 11, 12, 13, 14, 15] (lo_l (ly_sub rfl rfl (r := ((n + 1 : Nat) : Int)) (by rw [wrap_i64 (by omega) (by omega)]; omega)) (hd 44 rfl)) rfl <| zal2 8 [9, 10, 11, 12, 13, 14, 15] (lo_l (ly_ian (i := n + 1) sl28 rfl rfl (by first | rfl | omega) (by omega)) (hd 45 rfl)) rfl <| zal2 9 [10, 11, 12, 13, 14, 15] (lo_l (ly_ldq one82 rfl rfl) (hd 46 rfl)) rfl ?_
      refine ja_1 10 ?_ rfl (by kernel_rfl)
      refine js_h (hy_ext3 (e := add64Entry) Try.func128 rfl rfl (by kernel_rfl) (by kernel_rfl) rfl rfl rfl (fun w => run_add64 _ _ _ hx1.1 hy1.1 (by decide) (by decide) w) rel_pair) (hd 47 rfl) <| zal 11 (lo_l (ly_mv rfl) (hd 36 rfl)) rfl <| zal 12 (lo_l (ly_ext rfl rfl) (hd 48 rfl)) rfl <| zal 13 (lo_l (ly_ext rfl rfl) (hd 49 rfl)) rfl <| zal 14 (lo_l (ly_as rfl) (hd 7 rfl)) rfl <| zal 15 (lo_l (ly_as rfl) (hd 9 rfl)) rfl <| ja_nil (by kernel_rfl) <| jc_region <| zmv rfl (hd 50 rfl) <| jo_l (ly_ne rfl rfl) (hd 51 rfl) <| zas rfl (hd 8 rfl) <| jo_nil ?_
      refine ⟨(18446744073709551615, (u.getD (n + 1) 0 + v.getD (n + 1) 0 + 0) % 18446744073709551616, decide ((u.getD (n + 1) 0 + v.getD (n + 1) 0 + 0) / 18446744073709551616 ≠ 0)), ?_, rfl, cov_n 31 rfl rfl ?_⟩
      · have hE := hP.first_eq (by omega)
        refine ⟨hE.2.1, hE.2.2.1, hE.2.2.2.1, fun h => ?_, fun h => ?_⟩
        · have h2 := of_decide_eq_false h
          have e : (u.getD (n + 1) 0 + v.getD (n + 1) 0 + 0) % 18446744073709551616 = u.getD (n + 1) 0 + v.getD (n + 1) 0 := by omega
          show Est u v n _ ((u.getD (n + 1) 0 + v.getD (n + 1) 0 + 0) % 18446744073709551616) ∧ (u.getD (n + 1) 0 + v.getD (n + 1) 0 + 0) % 18446744073709551616 < _
          rw [e]
          exact ⟨hE, by omega⟩
        · have h2 := of_decide_eq_true h
          exact hP.over hE (by omega)
      · exact (.cons rfl (.cons rfl (.cons rfl (.u (.u (.u (.u (.u (.u (.u (.u (.u (.u (.u (.u (.u (.u (.u (.u (.u (.u (.u (.u (.u (.u (.u (.u (.u (.u (.u (.u (.u (.u (.u (.u (.u (.u (.u (.u (.u (.u (.u (.u (.u (.u (.u (.u (.u .nil))))))))))))))))))))))))))))))))))))))))))))))))
    · refine jc_draw (n := 20) _ rfl mixed <| zal2 0 [2, 3, 14, 15, 16, 17, 18, 19] (lo_l (ly_mv rfl) (hd 53 rfl)) rfl <| zal2 1 [2, 3, 14, 15, 16, 17, 18, 19] (lo_l (ly_mv rfl) (hd 54 rfl)) rfl <| zal2 2 [3, 14, 15, 16, 17, 18, 19] (lo_l (ly_ia (i := n + 2) sl28 rfl rfl rfl (by first | rfl | omega) (by omega) rfl) (hd 55 rfl)) rfl <| zal2 3 [14, 15, 16, 17, 18, 19] (lo_l (ly_is (ly_ldi one82 rfl rfl (by omega)) (show V.i .u64 _ = V.i .u64 (u.getD (n + 2) 0) from congrArg (V.i .u64) (hat (n + 2) (by omega)))) (hd 56 rfl)) rfl <| zal2 4 [7, 8, 14, 15, 16, 17, 18, 19] (lo_l (ly_mv rfl) (hd 57 rfl)) rfl <| zal2 5 [6, 7, 8, 14, 15, 16, 17, 18, 19] (lo_l (ly_mv rfl) (hd 58 rfl)) rfl <| zal2 6 [7, 8, 14, 15, 16, 17, 18, 19] (lo_l (ly_sub rfl rfl (r := ((n + 1 : Nat) : Int)) (by rw [wrap_i64 (by omega) (by omega)]; omega)) (hd 59 rfl)) rfl <| zal2 7 [8, 14, 15, 16, 17, 18, 19] (lo_l (ly_ia (i := n + 1) sl28 rfl rfl rfl (by first | rfl | omega) (by omega) rfl) (hd 60 rfl)) rfl <| zal2 8 [14, 15, 16, 17, 18, 19] (lo_l (ly_is (ly_ldi one82 rfl rfl (by omega)) (show V.i .u64 _ = V.i .u64 (u.getD (n + 1) 0) from congrArg (V.i .u64) (hat (n + 1) (by omega)))) (hd 61 rfl)) rfl <| zal2 9 [12, 13, 14, 15, 16, 17, 18, 19] (lo_l (ly_mv rfl) (hd 62 rfl)) rfl <| zal2 10 [11, 12, 13, 14, 15, 16, 17, 18, 19] (lo_l (ly_mv rfl) (hd 63 rfl)) rfl <| zal2 11 [12, 13, 14, 15, 16, 17, 18, 19] (lo_l (ly_sub rfl rfl (r := ((n + 1 : Nat) : Int)) (by rw [wrap_i64 (by omega) (by omega)]; omega)) (hd 64 rfl)) rfl ?_; refine zal2 12 [13, 14, 15, 16, 17, 18, 19] (lo_l (ly_ian (i := n + 1) sl28 rfl rfl (by first | rfl | omega) (by omega)) (hd 65 rfl)) rfl <| zal2 13 [14, 15, 16, 17, 18, 19] (lo_l (ly_ldq one82 rfl rfl) (hd 66 rfl)) rfl ?_
      refine ja_1 14 ?_ rfl (by kernel_rfl)
      refine js_call Try.f122 (Div64_s (u.getD (n + 2) 0) (u.getD (n + 1) 0) (v.getD (n + 1) 0) hx2.1 (by omega) hx1.1 hx1.2 hy1.2) rfl Try.func122 rfl rfl (ovL_cons rfl (ovL_cons rfl (ovL_cons rfl ovL_nil))) (.cons .i (.cons .i (.cons .i .nil))) (hd 67 rfl) ?_ (fun ch hp => by simp at hp)
      rintro _ ⟨⟩; refine zal 15 (lo_l (ly_mv rfl) (hd 52 rfl)) rfl <| zal 16 (lo_l (ly_ext rfl rfl) (hd 68 rfl)) rfl <| zal 17 (lo_l (ly_ext rfl rfl) (hd 69 rfl)) rfl <| zal 18 (lo_l (ly_as rfl) (hd 6 rfl)) rfl <| zal 19 (lo_l (ly_as rfl) (hd 7 rfl)) rfl <| ja_nil (by kernel_rfl) ?_
      refine ⟨((u.getD (n + 2) 0 * 18446744073709551616 + u.getD (n + 1) 0) / v.getD (n + 1) 0, (u.getD (n + 2) 0 * 18446744073709551616 + u.getD (n + 1) 0) % v.getD (n + 1) 0, false), ?_, rfl, cov_n 30 rfl rfl ?_⟩
      · have hE := hP.first_div (by omega)
        have hm := Int.emod_lt_of_pos (u.getD (n + 2) 0 * 18446744073709551616 + u.getD (n + 1) 0) (show 0 < v.getD (n + 1) 0 by omega)
        exact ⟨hE.2.1, hE.2.2.1, hE.2.2.2.1, fun _ => ⟨hE, by dsimp only; omega⟩, fun h => absurd h (by simp)⟩
      · exact (.cons rfl (.cons rfl (.cons rfl (.u (.u (.u (.u (.u (.u (.u (.u (.u (.u (.u (.u (.u (.u (.u (.u (.u (.u (.u (.u (.u (.u (.u (.u (.u (.u (.u (.u (.u (.u (.u (.u (.u (.u (.u (.u (.u (.u (.u (.u (.u (.u (.u (.u (.u .nil))))))))))))))))))))))))))))))))))))))))))))))))
  · rintro ⟨q0, r0, sure⟩ ⟨hc1, hc2, hc3, hc4, hc5⟩
    dsimp only at hc1 hc2 hc3 hc4 hc5
    refine jc_meetH (G := Int) (fun g => vl u / vl v ≤ g ∧ 0 ≤ g ∧ g < 18446744073709551616 ∧ g ≤ vl u / vl v + 1) (fun g => [(6, .i .u64 g), (7, .u), (10, .u), (11, .u), (12, .u), (70, .u), (71, .u), (72, .u), (73, .u), (74, .u), (75, .u), (76, .u), (77, .u), (78, .u), (79, .u), (80, .u), (81, .u), (82, .u), (83, .u), (84, .u), (85, .u), (86, .u), (87, .u), (88, .u), (89, .u), (90, .u), (91, .u), (92, .u), (93, .u), (94, .u), (95, .u), (96, .u), (97, .u), (98, .u), (99, .u), (100, .u), (101, .u), (102, .u), (103, .u), (104, .u), (105, .u), (106, .u), (107, .u), (108, .u), (109, .u), (110, .u), (111, .u), (112, .u)]) ?_ ?_
    · refine jc_block ?_
      refine jc_loopF (G := Int × Int) (fun g => vl u / vl v ≤ g.1 ∧ 0 ≤ g.1 ∧ g.1 < 18446744073709551616 ∧ (sure = false → Est u v n g.1 g.2 ∧ g.2 < 18446744073709551616) ∧ (sure = true → g.1 ≤ vl u / vl v + 1)) (fun g => [(6, .i .u64 g.1), (7, .i .u64 g.2), (10, .u), (11, .u), (12, .u), (70, .u), (71, .u), (72, .u), (73, .u), (74, .u), (75, .u), (76, .u), (77, .u), (78, .u), (79, .u), (80, .u), (81, .u), (82, .u), (83, .u), (84, .u), (85, .u), (86, .u), (87, .u), (88, .u), (89, .u), (90, .u), (91, .u), (92, .u), (93, .u), (94, .u), (95, .u), (96, .u), (97, .u), (98, .u), (99, .u), (100, .u), (101, .u), (102, .u), (103, .u), (104, .u), (105, .u), (106, .u), (107, .u), (108, .u), (109, .u), (110, .u), (111, .u), (112, .u)]) (fun _ => _) (fun g => g.1.toNat) (q0, r0) ?_ ?_ rfl ?_
      · exact ⟨hc1, hc2, hc3, hc4, hc5⟩
      · exact (.cons rfl (.cons rfl (.u (.u (.u (.u (.u (.u (.u (.u (.u (.u (.u (.u (.u (.u (.u (.u (.u (.u (.u (.u (.u (.u (.u (.u (.u (.u (.u (.u (.u (.u (.u (.u (.u (.u (.u (.u (.u (.u (.u (.u (.u (.u (.u (.u (.u (.u .nil))))))))))))))))))))))))))))))))))))))))))))))))
      · rintro ⟨q, r⟩ ⟨hd1, hd2, hd3, hd4, hd5⟩
        dsimp only at hd1 hd2 hd3 hd4 hd5
        refine jc_seq <| zsr <| zmv rfl (hd 70 rfl) <| jo_l (ly_not rfl) (hd 71 rfl) <| jo_nil ?_
        refine jc_cond rfl (fun h2 => ?_) (fun h2 => ?_)
        · have hsf : sure = false := by simpa using h2
          obtain ⟨hE, hr⟩ := hd4 hsf
          obtain ⟨hE1, hE2, hE3, hE4, hE5⟩ := id hE
          refine jc_skip <| jc_block <| zsr <| zmv rfl (hd 73 rfl) <| zmv rfl (hd 74 rfl) <| zmv rfl (hd 75 rfl) <| jo_l (ly_sub rfl rfl (r := ((n : Nat) : Int)) (by rw [wrap_i64 (by omega) (by omega)]; omega)) (hd 76 rfl) <| jo_l (ly_ian (i := n) sl28 rfl rfl (by first | rfl | omega) (by omega)) (hd 77 rfl) <| jo_l (ly_ldq one82 rfl rfl) (hd 78 rfl) ?_
          refine jo_call Try.f143 (Mul64_s q (v.getD n 0) hd2 hd3 hy0.1 hy0.2) rfl Try.func143 rfl rfl (ovL_cons rfl (ovL_cons rfl ovL_nil)) (.cons .i (.cons .i .nil)) (hd 79 rfl) ?_ (fun ch hp => by simp at hp)
          rintro _ ⟨⟩; refine zmv rfl (hd 72 rfl) <| jo_l (ly_ext rfl rfl) (hd 80 rfl) <| jo_l (ly_ext rfl rfl) (hd 81 rfl) <| zas rfl (hd 10 rfl) <| zas rfl (hd 11 rfl) <| jo_nil <| jc_seq <| zsr <| zmv rfl (hd 82 rfl) <| zmv rfl (hd 83 rfl) <| jo_l (ly_lt rfl rfl) (hd 84 rfl) <| zmv rfl (hd 85 rfl) ?_
          refine jo_ifp 85 rfl (fun h3 => ?_) (fun h3 => ?_)
          · refine jo_s 85 rfl rfl rfl (hd 86 rfl) <| jo_s 85 rfl rfl rfl (hd 87 rfl) <| jo_s 85 rfl rfl rfl (hd 88 rfl) <| jo_s 85 rfl rfl rfl (hd 89 rfl) <| jo_s' 89 rfl rfl (hd 90 rfl) <| jo_s' 89 rfl rfl (hd 91 rfl) <| jo_s' 89 rfl rfl (hd 92 rfl) <| jo_s' 89 rfl rfl (hd 93 rfl) <| jo_s' 89 rfl rfl (hd 94 rfl) <| jo_s' 89 rfl rfl (hd 95 rfl) <| jo_s' 89 rfl rfl (hd 96 rfl) <| jo_s 85 rfl rfl rfl (hd 97 rfl) <| jo_l (ly_pick_t rfl rfl) (hd 98 rfl) ?_; refine jo_nil <| jc_litt rfl <| jc_exit ?_
            refine ⟨q, ?_, rfl, cov_n 80 rfl rfl ?_⟩
            · exact ⟨hd1, hd2, hd3, hP.last hE (by omega)⟩
            · exact (.cons rfl (.u (.u (.u (.u (.u (.u (.u (.u (.u (.u (.u (.u (.u (.u (.u (.u (.u (.u (.u (.u (.u (.u (.u (.u (.u (.u (.u (.u (.u (.u (.u (.u (.u (.u (.u (.u (.u (.u (.u (.u (.u (.u (.u (.u (.u (.u (.u .nil))))))))))))))))))))))))))))))))))))))))))))))))
          · refine jo_g 85 rfl rfl (ly_mv rfl) (hd 86 rfl) <| jo_g 85 rfl rfl (ly_mv rfl) (hd 87 rfl) <| jo_g 85 rfl rfl (ly_eq rfl rfl) (hd 88 rfl) <| jo_g 85 rfl rfl (ly_mv rfl) (hd 89 rfl) ?_
            refine jo_ifp 89 rfl (fun h5 => ?_) (fun h5 => ?_)
            · refine jo_g 89 rfl rfl (ly_mv rfl) (hd 90 rfl) <| jo_g 89 rfl rfl (ly_mv rfl) (hd 91 rfl) <| jo_g 89 rfl rfl (ly_mv rfl) (hd 92 rfl) <| jo_g 89 rfl rfl (ly_sub rfl rfl (r := ((n : Nat) : Int)) (by rw [wrap_i64 (by omega) (by omega)]; omega)) (hd 93 rfl) <| jo_g 89 rfl rfl (ly_ia (i := n) sl28 rfl rfl rfl (by first | rfl | omega) (by omega) rfl) (hd 94 rfl) <| jo_g 89 rfl rfl (ly_is (ly_ldi one82 rfl rfl (by omega)) (show V.i .u64 _ = V.i .u64 (u.getD (n) 0) from congrArg (V.i .u64) (hat (n) (by omega)))) (hd 95 rfl) <| jo_g 89 rfl rfl (ly_le rfl rfl) (hd 96 rfl) <| jo_g 85 rfl rfl (ly_pick_t rfl rfl) (hd 97 rfl) <| jo_l (ly_pick_f rfl rfl) (hd 98 rfl) <| jo_nil ?_
              refine jc_if rfl (fun h6 => ?_) (fun h6 => ?_)
              · refine jc_exit ?_
                refine ⟨q, ?_, rfl, cov_n 81 rfl rfl ?_⟩
                · exact ⟨hd1, hd2, hd3, hP.last hE (by omega)⟩
                · exact (.cons rfl (.u (.u (.u (.u (.u (.u (.u (.u (.u (.u (.u (.u (.u (.u (.u (.u (.u (.u (.u (.u (.u (.u (.u (.u (.u (.u (.u (.u (.u (.u (.u (.u (.u (.u (.u (.u (.u (.u (.u (.u (.u (.u (.u (.u (.u (.u (.u .nil))))))))))))))))))))))))))))))))))))))))))))))))
              · refine jc_skip <| jc_seq ?_
                obtain ⟨hN, hq1⟩ := hP.next hE (by omega)
                obtain ⟨hN1, hN2, hN3, hN4, hN5⟩ := id hN
                refine jc_region <| zmv rfl (hd 99 rfl) <| jo_l (ly_sub rfl rfl (wrap_u64 (by first | omega | (dsimp only; omega)) (by first | omega | (dsimp only; omega)))) (hd 100 rfl) <| zas rfl (hd 6 rfl) <| jo_nil <| zsr <| zas rfl (hd 12 rfl) <| jo_nil <| zsr <| zmv rfl (hd 102 rfl) <| zmv rfl (hd 103 rfl) ?_; refine zmv rfl (hd 104 rfl) <| jo_l (ly_sub rfl rfl (r := ((n + 1 : Nat) : Int)) (by rw [wrap_i64 (by omega) (by omega)]; omega)) (hd 105 rfl) <| jo_l (ly_ian (i := n + 1) sl28 rfl rfl (by first | rfl | omega) (by omega)) (hd 106 rfl) <| jo_l (ly_ldq one82 rfl rfl) (hd 107 rfl) <| jo_h (hy_ext3 (e := add64Entry) Try.func128 rfl rfl (by kernel_rfl) (by kernel_rfl) rfl rfl rfl (fun w => run_add64 _ _ _ hE5 hy1.1 (by decide) (by decide) w) rel_pair) (hd 108 rfl) <| zmv rfl (hd 101 rfl) <| jo_l (ly_ext rfl rfl) (hd 109 rfl) <| jo_l (ly_ext rfl rfl) (hd 110 rfl) <| zas rfl (hd 7 rfl) <| zas rfl (hd 12 rfl) <| jo_nil <| jc_seq <| jc_region ?_; refine zmv rfl (hd 111 rfl) <| jo_l (ly_ne rfl rfl) (hd 112 rfl) <| jo_nil ?_
                refine jc_if rfl (fun h7 => ?_) (fun h7 => ?_)
                · refine jc_exit ?_
                  refine ⟨(q - 1), ?_, rfl, cov_n 99 rfl rfl ?_⟩
                  · exact ⟨hN2, hN3, hN4, hP.over hN (by omega)⟩
                  · exact (.cons rfl (.u (.u (.u (.u (.u (.u (.u (.u (.u (.u (.u (.u (.u (.u (.u (.u (.u (.u (.u (.u (.u (.u (.u (.u (.u (.u (.u (.u (.u (.u (.u (.u (.u (.u (.u (.u (.u (.u (.u (.u (.u (.u (.u (.u (.u (.u (.u .nil))))))))))))))))))))))))))))))))))))))))))))))))
                · refine jc_skip ?_
                  refine ⟨(q - 1, (r + v.getD (n + 1) 0 + 0) % 18446744073709551616), ?_, ?_, rfl, cov_n 99 rfl rfl ?_⟩
                  · have e : (r + v.getD (n + 1) 0 + 0) % 18446744073709551616 = r + v.getD (n + 1) 0 := by omega
                    exact ⟨hN2, hN3, hN4, fun _ => by show Est u v n (q - 1) ((r + v.getD (n + 1) 0 + 0) % 18446744073709551616) ∧ (r + v.getD (n + 1) 0 + 0) % 18446744073709551616 < _; rw [e]; exact ⟨hN, by omega⟩, fun h => absurd (hsf.symm.trans h) (by simp)⟩
                  · show (q - 1).toNat < q.toNat
                    omega
                  · exact (.cons rfl (.cons rfl (.u (.u (.u (.u (.u (.u (.u (.u (.u (.u (.u (.u (.u (.u (.u (.u (.u (.u (.u (.u (.u (.u (.u (.u (.u (.u (.u (.u (.u (.u (.u (.u (.u (.u (.u (.u (.u (.u (.u (.u (.u (.u (.u (.u (.u (.u .nil))))))))))))))))))))))))))))))))))))))))))))))))
            · refine jo_s 89 rfl rfl rfl (hd 90 rfl) <| jo_s 89 rfl rfl rfl (hd 91 rfl) <| jo_s 89 rfl rfl rfl (hd 92 rfl) <| jo_s 89 rfl rfl rfl (hd 93 rfl) <| jo_s 89 rfl rfl rfl (hd 94 rfl) <| jo_s 89 rfl rfl rfl (hd 95 rfl) <| jo_s 89 rfl rfl rfl (hd 96 rfl) <| jo_g 85 rfl rfl (ly_pick_f rfl rfl) (hd 97 rfl) <| jo_l (ly_pick_f rfl rfl) (hd 98 rfl) <| jo_nil <| jc_litf rfl <| jc_skip <| jc_seq ?_
              obtain ⟨hN, hq1⟩ := hP.next hE (by omega)
              obtain ⟨hN1, hN2, hN3, hN4, hN5⟩ := id hN
              refine jc_region <| zmv rfl (hd 99 rfl) <| jo_l (ly_sub rfl rfl (wrap_u64 (by first | omega | (dsimp only; omega)) (by first | omega | (dsimp only; omega)))) (hd 100 rfl) <| zas rfl (hd 6 rfl) <| jo_nil <| zsr <| zas rfl (hd 12 rfl) <| jo_nil <| zsr <| zmv rfl (hd 102 rfl) <| zmv rfl (hd 103 rfl) ?_; refine zmv rfl (hd 104 rfl) <| jo_l (ly_sub rfl rfl (r := ((n + 1 : Nat) : Int)) (by rw [wrap_i64 (by omega) (by omega)]; omega)) (hd 105 rfl) <| jo_l (ly_ian (i := n + 1) sl28 rfl rfl (by first | rfl | omega) (by omega)) (hd 106 rfl) <| jo_l (ly_ldq one82 rfl rfl) (hd 107 rfl) <| jo_h (hy_ext3 (e := add64Entry) Try.func128 rfl rfl (by kernel_rfl) (by kernel_rfl) rfl rfl rfl (fun w => run_add64 _ _ _ hE5 hy1.1 (by decide) (by decide) w) rel_pair) (hd 108 rfl) <| zmv rfl (hd 101 rfl) <| jo_l (ly_ext rfl rfl) (hd 109 rfl) <| jo_l (ly_ext rfl rfl) (hd 110 rfl) <| zas rfl (hd 7 rfl) <| zas rfl (hd 12 rfl) <| jo_nil <| jc_seq <| jc_region ?_; refine zmv rfl (hd 111 rfl) <| jo_l (ly_ne rfl rfl) (hd 112 rfl) <| jo_nil ?_
              refine jc_if rfl (fun h9 => ?_) (fun h9 => ?_)
              · refine jc_exit ?_
                refine ⟨(q - 1), ?_, rfl, cov_n 99 rfl rfl ?_⟩
                · exact ⟨hN2, hN3, hN4, hP.over hN (by omega)⟩
                · exact (.cons rfl (.u (.u (.u (.u (.u (.u (.u (.u (.u (.u (.u (.u (.u (.u (.u (.u (.u (.u (.u (.u (.u (.u (.u (.u (.u (.u (.u (.u (.u (.u (.u (.u (.u (.u (.u (.u (.u (.u (.u (.u (.u (.u (.u (.u (.u (.u (.u .nil))))))))))))))))))))))))))))))))))))))))))))))))
              · refine jc_skip ?_
                refine ⟨(q - 1, (r + v.getD (n + 1) 0 + 0) % 18446744073709551616), ?_, ?_, rfl, cov_n 99 rfl rfl ?_⟩
                · have e : (r + v.getD (n + 1) 0 + 0) % 18446744073709551616 = r + v.getD (n + 1) 0 := by omega
                  exact ⟨hN2, hN3, hN4, fun _ => by show Est u v n (q - 1) ((r + v.getD (n + 1) 0 + 0) % 18446744073709551616) ∧ (r + v.getD (n + 1) 0 + 0) % 18446744073709551616 < _; rw [e]; exact ⟨hN, by omega⟩, fun h => absurd (hsf.symm.trans h) (by simp)⟩
                · show (q - 1).toNat < q.toNat
                  omega
                · exact (.cons rfl (.cons rfl (.u (.u (.u (.u (.u (.u (.u (.u (.u (.u (.u (.u (.u (.u (.u (.u (.u (.u (.u (.u (.u (.u (.u (.u (.u (.u (.u (.u (.u (.u (.u (.u (.u (.u (.u (.u (.u (.u (.u (.u (.u (.u (.u (.u (.u (.u .nil))))))))))))))))))))))))))))))))))))))))))))))))
        · have hst : sure = true := by simpa using h2
          have hlast := hd5 hst
          refine jc_exit ?_
          refine ⟨q, ?_, rfl, cov_n 50 rfl rfl ?_⟩
          · exact ⟨hd1, hd2, hd3, hlast⟩
          · exact (.cons rfl (.u (.u (.u (.u (.u (.u (.u (.u (.u (.u (.u (.u (.u (.u (.u (.u (.u (.u (.u (.u (.u (.u (.u (.u (.u (.u (.u (.u (.u (.u (.u (.u (.u (.u (.u (.u (.u (.u (.u (.u (.u (.u (.u (.u (.u (.u (.u .nil))))))))))))))))))))))))))))))))))))))))))))))))
    · rintro q ⟨hq1, hq2, hq3, hq4⟩
      obtain ⟨hgQ, hgl, hgu, hgv⟩ := gs_end hP.uu hP.uv (by omega) hv0 hq2 hq3 hq1 hq4
      unfold gsQ at hgQ
      have hmB := msB_bd u v q
      have hum := msL_u hP.uu hP.uv hq2 hq3
      have hml0 := msL_len u v q
      refine jc_seq <| jc_H (H' := [⟨67, 1, 0, true, ints .u64 (rwJ U j (msN u v q 0).1)⟩, ⟨67, 1, 0, true, ints .u64 Q⟩]) (by show _ = [(⟨67, 1, 0, true, ints .u64 (rwJ U j [])⟩ : Ob), _]; rw [rwJ_0]) <| jc_region <| zas rfl (hd 13 rfl) <| zas rfl (hd 14 rfl) <| jo_nil <| jc_seq <| zsr <| zmv rfl (hd 113 rfl) <| jo_l (ly_lenn sl28 rfl) (hd 114 rfl) <| zmv rfl (hd 115 rfl) <| jo_nil ?_; refine jc_block ?_
      refine jc_loopF (G := Nat) (fun i => i ≤ v.length) (fun i => [(13, .i .u64 (msN u v q i).2.1), (14, .i .u64 (msN u v q i).2.2), (115, .i .i64 (i : Int)), (15, .u), (16, .u), (17, .u), (18, .u), (19, .u), (20, .u), (116, .u), (117, .u), (118, .u), (119, .u), (120, .u), (121, .u), (122, .u), (123, .u), (124, .u), (125, .u), (126, .u), (127, .u), (128, .u), (129, .u), (130, .u), (131, .u), (132, .u), (133, .u), (134, .u), (135, .u), (136, .u), (137, .u), (138, .u), (139, .u), (140, .u), (141, .u), (142, .u), (143, .u), (144, .u), (145, .u), (146, .u), (147, .u), (148, .u)]) (fun i => [⟨67, 1, 0, true, ints .u64 (rwJ U j (msN u v q i).1)⟩, ⟨67, 1, 0, true, ints .u64 Q⟩]) (fun i => v.length - i) 0 ?_ ?_ rfl ?_
      · exact Nat.zero_le _
      · exact (.cons rfl (.cons rfl (.cons rfl (.u (.u (.u (.u (.u (.u (.u (.u (.u (.u (.u (.u (.u (.u (.u (.u (.u (.u (.u (.u (.u (.u (.u (.u (.u (.u (.u (.u (.u (.u (.u (.u (.u (.u (.u (.u (.u (.u (.u .nil))))))))))))))))))))))))))))))))))))))))))
      · rintro i hi1
        have hml := msN_len u v q i
        have hf : (rwJ U j (msN u v q i).1).length = U.length := rwJ_len (by omega)
        have hc := msN_c (u := u) hP.uv hq2 hq3 i
        have hb := msN_b u v q i
        have hxi := u64s_getD hP.uu i
        have hyi := u64s_getD hP.uv i
        have hmp := mul_lt hyi.1 hyi.2 hq2 hq3
        refine zsr <| jo_l (ly_lt rfl rfl) (hd 116 rfl) <| jo_nil <| jc_seq ?_
        refine jc_if rfl (fun h10 => ?_) (fun h10 => ?_)
        · refine jc_skip <| jc_seq <| jc_block <| zsr <| zmv rfl (hd 117 rfl) <| jo_l (ly_ian (i := i) sl28 rfl rfl (by first | rfl | omega) (by omega)) (hd 118 rfl) <| jo_l (ly_ldq one82 rfl rfl) (hd 119 rfl) <| zas rfl (hd 15 rfl) <| zas rfl (hd 16 rfl) <| jo_nil <| jc_seq <| jc_region ?_; refine zmv rfl (hd 121 rfl) <| zmv rfl (hd 122 rfl) ?_
          refine jo_call Try.f143 (Mul64_s (v.getD i 0) q hyi.1 hyi.2 hq2 hq3) rfl Try.func143 rfl rfl (ovL_cons rfl (ovL_cons rfl ovL_nil)) (.cons .i (.cons .i .nil)) (hd 123 rfl) ?_ (fun ch hp => by simp at hp)
          rintro _ ⟨⟩; refine zmv rfl (hd 120 rfl) <| jo_l (ly_ext rfl rfl) (hd 124 rfl) <| jo_l (ly_ext rfl rfl) (hd 125 rfl) <| zas rfl (hd 17 rfl) <| zas rfl (hd 18 rfl) <| jo_nil <| zsr <| zmv rfl (hd 127 rfl) <| zmv rfl (hd 128 rfl) <| jo_h (hy_ext3 (e := add64Entry) Try.func128 rfl rfl (by kernel_rfl) (by kernel_rfl) rfl rfl rfl (fun w => run_add64 _ _ _ (Int.emod_nonneg _ (by decide)) hc.1 (by decide) (by decide) w) rel_pair) (hd 129 rfl) <| zmv rfl (hd 126 rfl) <| jo_l (ly_is (ly_ext rfl rfl) (show V.i .u64 _ = V.i .u64 (msS u v q i (msN u v q i).2.1) from congrArg (V.i .u64) (by unfold msS; rw [Int.add_zero]))) (hd 130 rfl) ?_; refine jo_l (ly_ext rfl rfl) (hd 131 rfl) <| zas rfl (hd 19 rfl) <| zas rfl (hd 20 rfl) <| jo_nil <| zsr <| zmv rfl (hd 132 rfl) <| zmv rfl (hd 133 rfl) <| jo_l (ly_add rfl rfl (r := msC v q i (msN u v q i).2.1) (by unfold msC; rw [Int.add_zero]; exact wrap_u64 (by omega) (by omega))) (hd 134 rfl) <| zas rfl (hd 13 rfl) <| jo_nil <| jc_region <| zmv rfl (hd 136 rfl) ?_; refine zmv rfl (hd 137 rfl) <| zmv rfl (hd 138 rfl) <| zmv rfl (hd 139 rfl) <| jo_l (ly_ia (i := i) sl28 rfl rfl rfl (by first | rfl | omega) (by omega) rfl) (hd 140 rfl) <| jo_l (ly_is (ly_ldi one82 rfl rfl (by omega)) (show V.i .u64 _ = V.i .u64 (u.getD i 0) from congrArg (V.i .u64) ((rwJ_at (by omega) (by omega)).trans (hat2 (i) (by omega))))) (hd 141 rfl) <| zmv rfl (hd 142 rfl) <| zmv rfl (hd 143 rfl) <| jo_h (hy_ext3 (e := sub64Entry) Try.func130 rfl rfl (by kernel_rfl) (by kernel_rfl) rfl rfl rfl (fun w => run_sub64 _ _ _ hxi.1 hxi.2 (by unfold msS; omega) (by unfold msS; omega) hb.1 hb.2 w) rel_pair) (hd 144 rfl) <| zmv rfl (hd 135 rfl) <| jo_l (ly_is (ly_ext rfl rfl) (show V.i .u64 _ = V.i .u64 (sbD (u.getD i 0) (msS u v q i (msN u v q i).2.1) (msN u v q i).2.2) from congrArg (V.i .u64) rfl)) (hd 145 rfl) <| jo_l (ly_is (ly_ext rfl rfl) (show V.i .u64 _ = V.i .u64 (sbB (u.getD i 0) (msS u v q i (msN u v q i).2.1) (msN u v q i).2.2) from congrArg (V.i .u64) rfl)) (hd 146 rfl) <| jo_l (ly_ia (i := i) sl28 rfl rfl rfl (by first | rfl | omega) (by omega) rfl) (hd 147 rfl) <| jo_st (sy_storei rfl rfl rfl one82 (by omega)) ?_; refine zas rfl (hd 14 rfl) <| jo_nil <| jc_region <| jo_l (ly_add rfl rfl (wrap_i64 (by omega) (by omega))) (hd 148 rfl) <| zmv rfl (hd 115 rfl) <| jo_nil ?_
          refine ⟨i + 1, ?_, ?_, (by show [(⟨67, 1, 0, true, ints .u64 _⟩ : Ob), _] = [⟨67, 1, 0, true, ints .u64 _⟩, _]; rw [ms_set (by omega)]), cov_n 84 rfl rfl ?_⟩
          · omega
          · omega
          · exact (.cons rfl (.cons rfl (.cons rfl (.u (.u (.u (.u (.u (.u (.u (.u (.u (.u (.u (.u (.u (.u (.u (.u (.u (.u (.u (.u (.u (.u (.u (.u (.u (.u (.u (.u (.u (.u (.u (.u (.u (.u (.u (.u (.u (.u (.u .nil))))))))))))))))))))))))))))))))))))))))))
        · obtain rfl : i = v.length := by omega
          refine jc_exit <| zsr <| zmv rfl (hd 150 rfl) <| zmv rfl (hd 151 rfl) <| zmv rfl (hd 152 rfl) <| zmv rfl (hd 153 rfl) <| jo_l (ly_ia (i := v.length) sl28 rfl rfl rfl (by first | rfl | omega) (by omega) rfl) (hd 154 rfl) <| jo_l (ly_is (ly_ldi one82 rfl rfl (by omega)) (show V.i .u64 _ = V.i .u64 (u.getD v.length 0) from congrArg (V.i .u64) ((rwJ_at (by omega) (by omega)).trans (hat2 (v.length) (by omega))))) (hd 155 rfl) <| zmv rfl (hd 156 rfl) <| zmv rfl (hd 157 rfl) <| jo_h (hy_ext3 (e := sub64Entry) Try.func130 rfl rfl (by kernel_rfl) (by kernel_rfl) rfl rfl rfl (fun w => run_sub64 _ _ _ hxi.1 hxi.2 hc.1 hc.2 hb.1 hb.2 w) rel_pair) (hd 158 rfl) <| zmv rfl (hd 149 rfl) ?_; refine jo_l (ly_is (ly_ext rfl rfl) (show V.i .u64 _ = V.i .u64 (sbD (u.getD v.length 0) (msN u v q v.length).2.1 (msN u v q v.length).2.2) from congrArg (V.i .u64) rfl)) (hd 159 rfl) <| jo_l (ly_is (ly_ext rfl rfl) (show V.i .u64 _ = V.i .u64 (msB u v q) from congrArg (V.i .u64) rfl)) (hd 160 rfl) <| jo_l (ly_ia (i := v.length) sl28 rfl rfl rfl (by first | rfl | omega) (by omega) rfl) (hd 161 rfl) <| jo_st (sy_storei rfl rfl rfl one82 (by omega)) <| zas rfl (hd 14 rfl) <| jo_nil <| jc_seq <| jc_seq <| jc_H (H' := [⟨67, 1, 0, true, ints .u64 (rwJ U j (msL u v q))⟩, ⟨67, 1, 0, true, ints .u64 Q⟩]) (by show [(⟨67, 1, 0, true, ints .u64 _⟩ : Ob), _] = [⟨67, 1, 0, true, ints .u64 _⟩, _]; rw [ml_row (by omega)]) ?_
          have hW : (rwJ U j (msL u v q)).length = U.length := rwJ_len (by omega)
          refine jc_region <| zmv rfl (hd 162 rfl) <| jo_l (ly_ne rfl rfl) (hd 163 rfl) <| jo_nil ?_
          refine jc_if rfl (fun h11 => ?_) (fun h11 => ?_)
          · have hb1 : msB u v q = 1 := by omega
            have hq9 : q - 1 = vl u / vl v := by omega
            have hgl2 : gsL u v q = bkL (msL u v q) v := if_neg (by omega)
            rw [hgl2] at hgl hgu hgv
            refine zsr <| zmv rfl (hd 164 rfl) <| jo_l (ly_sub rfl rfl (r := vl u / vl v) (by rw [hq9]; exact wrap_u64 (by omega) (by omega))) (hd 165 rfl) <| zas rfl (hd 6 rfl) <| jo_nil <| jc_seq <| jc_H (H' := [⟨67, 1, 0, true, ints .u64 (rwJ (rwJ U j (msL u v q)) j (adN (msL u v q) v 0).1)⟩, ⟨67, 1, 0, true, ints .u64 Q⟩]) (by show _ = [(⟨67, 1, 0, true, ints .u64 (rwJ (rwJ U j (msL u v q)) j [])⟩ : Ob), _]; rw [rwJ_0]) <| jc_region <| zas rfl (hd 21 rfl) <| jo_nil <| jc_seq <| jc_seq ?_; refine jc_region <| zmv rfl (hd 166 rfl) <| jo_l (ly_lenn sl28 rfl) (hd 167 rfl) <| zmv rfl (hd 168 rfl) <| jo_nil <| jc_block ?_
            refine jc_loopF (G := Nat) (fun i => i ≤ v.length) (fun i => [(21, .i .u64 (adN (msL u v q) v i).2), (168, .i .i64 (i : Int)), (22, .u), (23, .u), (169, .u), (170, .u), (171, .u), (172, .u), (173, .u), (174, .u), (175, .u), (176, .u), (177, .u), (178, .u), (179, .u), (180, .u), (181, .u), (182, .u), (183, .u), (184, .u), (185, .u), (186, .u)]) (fun i => [⟨67, 1, 0, true, ints .u64 (rwJ (rwJ U j (msL u v q)) j (adN (msL u v q) v i).1)⟩, ⟨67, 1, 0, true, ints .u64 Q⟩]) (fun i => v.length - i) 0 ?_ ?_ rfl ?_
            · exact Nat.zero_le _
            · exact (.cons rfl (.cons rfl (.u (.u (.u (.u (.u (.u (.u (.u (.u (.u (.u (.u (.u (.u (.u (.u (.u (.u (.u (.u .nil))))))))))))))))))))))
            · rintro i hi1
              have hal := adN_len (msL u v q) v i
              have hf2 : (rwJ (rwJ U j (msL u v q)) j (adN (msL u v q) v i).1).length = (rwJ U j (msL u v q)).length := rwJ_len (by omega)
              have hca := adN_c hum hP.uv i
              have hxa := u64s_getD hum i
              have hya := u64s_getD hP.uv i
              refine zsr <| jo_l (ly_lt rfl rfl) (hd 169 rfl) <| jo_nil <| jc_seq ?_
              refine jc_if rfl (fun h12 => ?_) (fun h12 => ?_)
              · refine jc_skip <| jc_seq <| jc_block <| zsr <| zmv rfl (hd 170 rfl) <| jo_l (ly_ian (i := i) sl28 rfl rfl (by first | rfl | omega) (by omega)) (hd 171 rfl) <| jo_l (ly_ldq one82 rfl rfl) (hd 172 rfl) <| zas rfl (hd 22 rfl) <| zas rfl (hd 23 rfl) <| jo_nil <| jc_region <| zmv rfl (hd 174 rfl) ?_; refine zmv rfl (hd 175 rfl) <| zmv rfl (hd 176 rfl) <| zmv rfl (hd 177 rfl) <| jo_l (ly_ia (i := i) sl28 rfl rfl rfl (by first | rfl | omega) (by omega) rfl) (hd 178 rfl) <| jo_l (ly_is (ly_ldi one82 rfl rfl (by omega)) (show V.i .u64 _ = V.i .u64 ((msL u v q).getD i 0) from congrArg (V.i .u64) ((rwJ_at (by omega) (by omega)).trans (rwJ_in' (by omega) (by omega))))) (hd 179 rfl) <| zmv rfl (hd 180 rfl) <| zmv rfl (hd 181 rfl) <| jo_h (hy_ext3 (e := add64Entry) Try.func128 rfl rfl (by kernel_rfl) (by kernel_rfl) rfl rfl rfl (fun w => run_add64 _ _ _ hxa.1 hya.1 hca.1 hca.2 w) rel_pair) (hd 182 rfl) <| zmv rfl (hd 173 rfl) <| jo_l (ly_ext rfl rfl) (hd 183 rfl) <| jo_l (ly_ext rfl rfl) (hd 184 rfl) <| jo_l (ly_ia (i := i) sl28 rfl rfl rfl (by first | rfl | omega) (by omega) rfl) (hd 185 rfl) <| jo_st (sy_storei rfl rfl rfl one82 (by omega)) ?_; refine zas rfl (hd 21 rfl) <| jo_nil <| jc_region <| jo_l (ly_add rfl rfl (wrap_i64 (by omega) (by omega))) (hd 186 rfl) <| zmv rfl (hd 168 rfl) <| jo_nil ?_
                refine ⟨i + 1, ?_, ?_, (by show [(⟨67, 1, 0, true, ints .u64 _⟩ : Ob), _] = [⟨67, 1, 0, true, ints .u64 _⟩, _]; rw [ad_set (by omega)]), cov_n 44 rfl rfl ?_⟩
                · omega
                · omega
                · exact (.cons rfl (.cons rfl (.u (.u (.u (.u (.u (.u (.u (.u (.u (.u (.u (.u (.u (.u (.u (.u (.u (.u (.u (.u .nil))))))))))))))))))))))
              · obtain rfl : i = v.length := by omega
                refine jc_exit <| jc_region <| zmv rfl (hd 187 rfl) <| zmv rfl (hd 188 rfl) <| jo_l (ly_ia (i := v.length) sl28 rfl rfl rfl (by first | rfl | omega) (by omega) rfl) (hd 189 rfl) <| jo_l (ly_is (ly_ldi one82 rfl rfl (by omega)) (show V.i .u64 _ = V.i .u64 ((msL u v q).getD v.length 0) from congrArg (V.i .u64) ((rwJ_at (by omega) (by omega)).trans (rwJ_in' (by omega) (by omega))))) (hd 190 rfl) <| zmv rfl (hd 191 rfl) <| jo_l (ly_is (ly_add rfl rfl rfl) (show V.i .u64 _ = V.i .u64 (((msL u v q).getD v.length 0 + (adN (msL u v q) v v.length).2) % 18446744073709551616) from congrArg (V.i .u64) u64_wrap_mod)) (hd 192 rfl) <| jo_l (ly_ia (i := v.length) sl28 rfl rfl rfl (by first | rfl | omega) (by omega) rfl) (hd 193 rfl) <| jo_st (sy_storei rfl rfl rfl one82 (by omega)) <| jo_nil <| jc_seq <| jc_region ?_; refine zmv rfl (hd 194 rfl) <| zas rfl (hd 4 rfl) <| jo_nil <| jc_ret ?_
                refine ⟨_, (.cons rfl .nil), rfl, (.cons ints_id (.cons ints_id .nil)), ?_⟩
                exact ⟨rfl, bkL (msL u v q) v, by show [(⟨67, 1, 0, true, ints .u64 _⟩ : Ob), _] = [⟨67, 1, 0, true, ints .u64 _⟩, _]; rw [bk_row (by omega) (by omega)], by omega, hgu, hgv⟩
          · have hb0 : msB u v q = 0 := by omega
            have hq9 : q = vl u / vl v := by omega
            have hgl2 : gsL u v q = msL u v q := if_pos hb0
            rw [hgl2] at hgl hgu hgv
            refine jc_skip <| zsr <| zmv rfl (hd 194 rfl) <| zas rfl (hd 4 rfl) <| jo_nil <| jc_ret ?_
            refine ⟨_, (.cons rfl .nil), rfl, (.cons ints_id (.cons ints_id .nil)), ?_⟩
            rw [← hq9]
            exact ⟨rfl, (msL u v q), rfl, by omega, hgu, hgv⟩

set_option maxRecDepth 100000 in
theorem divide_s (a b : List Int) (la : a.length < 4294967296) (lb : b.length < 4294967296) (ua : u64s a) (ub : u64s b) (ta : tpd a) (tb : tpd b) (hb : b ≠ []) : Spec Try.prog 100 [.n false .u64 a, .n false .u64 b] (fun o => o = .ret (.t [.n false .u64 (lm (vl a / vl b)), .n false .u64 (lm (vl a % vl b))])) := by
  refine spec_of' [(0, .n false .u64 a), (1, .n false .u64 b)] rfl Try.func100 rfl (zlb rfl) fun Γ hN hds hL hR => ?_
  have hd := hdOf 104 hN
  have hcv := cmpL_val ua ub
  have hb0 := vl_pos ub tb hb
  have hva := vl_nonneg ua
  refine zsr <| zas rfl (hd 4 rfl) <| zas rfl (hd 5 rfl) <| jo_nil <| jc_seq <| zsr <| zmv rfl (hd 15 rfl) <| zmv rfl (hd 16 rfl) ?_
  refine jo_call Try.f86 (Compare_s a b la lb) rfl Try.func86 rfl rfl (ovL_cons rfl (ovL_cons rfl ovL_nil)) (.cons .n (.cons .n .nil)) (hd 17 rfl) ?_ (fun ch hp => by simp at hp)
  rintro _ ⟨⟩; refine jo_l (ly_lt rfl rfl) (hd 18 rfl) <| jo_nil ?_
  refine jc_if rfl (fun h1 => ?_) (fun h1 => ?_)
  · have hlt : vl a < vl b := by rcases hcv with ⟨c, v⟩ | ⟨c, v⟩ | ⟨c, v⟩ <;> omega
    refine zsr <| zmv rfl (hd 19 rfl) <| zas rfl (hd 4 rfl) <| zas rfl (hd 5 rfl) <| jo_nil <| jc_ret ?_
    refine ⟨_, _, (.cons rfl (.cons rfl .nil)), (.t1 (.nil (fr := false) (k := .u64)) (.t1 .nn .t0)), ?_⟩
    rw [Int.ediv_eq_zero_of_lt hva hlt, Int.emod_eq_of_lt hva hlt, lm_0, lm_id ua ta]
  · have hge : vl b ≤ vl a := by rcases hcv with ⟨c, v⟩ | ⟨c, v⟩ | ⟨c, v⟩ <;> omega
    have hlen := kn_len ua ub tb hb hge
    refine jc_skip <| jc_seq <| zsr <| zmv rfl (hd 20 rfl) <| jo_l (ly_lenn sl28 rfl) (hd 21 rfl) <| jo_l (ly_eq rfl rfl) (hd 22 rfl) <| jo_nil ?_
    refine jc_if rfl (fun h2 => ?_) (fun h2 => ?_)
    · obtain ⟨d, rfl⟩ : ∃ d, b = [d] := List.length_eq_one_iff.1 (by omega)
      have hdb := ub d (List.mem_singleton.2 rfl)
      have hd0 := tpd_one tb
      have hdp : 0 < d := by omega
      have hvd : vl [d] = d := by simp [vl]
      refine zsr <| zmv rfl (hd 23 rfl) <| jo_l (ly_lenn sl28 rfl) (hd 24 rfl) <| jo_h (hy_mk (m := a.length) el28 rfl rfl rfl (by show 8 * a.length ≤ _; omega) (by unfold maxLen; omega) rfl) (hd 25 rfl) <| zas rfl (hd 6 rfl) <| zas rfl (hd 7 rfl) <| jo_nil <| jc_seq <| zsr <| zmv rfl (hd 26 rfl) <| jo_l (ly_lenn sl28 rfl) (hd 27 rfl) ?_; refine jo_l (ly_sub rfl rfl (wrap_i64 (by omega) (by omega))) (hd 28 rfl) <| zas rfl (hd 8 rfl) <| jo_nil <| jc_block <| jc_H (H' := [⟨67, 1, 0, true, ints .u64 (List.replicate a.length 0 ++ (dvN a d (a.length - a.length)).1)⟩]) (by rw [Nat.sub_self]; show _ = [(⟨67, 1, 0, true, ints .u64 (List.replicate a.length 0 ++ [])⟩ : Ob)]; rw [List.append_nil]; rfl) ?_
      refine jc_loopF (G := Nat) (fun k => k ≤ a.length) (fun k => [(7, .i .u64 (dvN a d (a.length - k)).2), (8, .i .i64 ((k : Int) - 1)), (29, .u), (30, .u), (31, .u), (32, .u), (33, .u), (34, .u), (35, .u), (36, .u), (37, .u), (38, .u), (39, .u), (40, .u), (41, .u), (42, .u), (43, .u), (44, .u), (45, .u), (46, .u), (47, .u)]) (fun k => [⟨67, 1, 0, true, ints .u64 (List.replicate k 0 ++ (dvN a d (a.length - k)).1)⟩]) (fun k => k) a.length ?_ ?_ rfl ?_
      · exact Nat.le_refl _
      · exact (.cons (by show some (V.i .u64 0) = some (V.i .u64 (dvN a d (a.length - a.length)).2); rw [Nat.sub_self]; rfl) (.cons rfl (.u (.u (.u (.u (.u (.u (.u (.u (.u (.u (.u (.u (.u (.u (.u (.u (.u (.u (.u .nil)))))))))))))))))))))
      · rintro k hc1
        have hr := dvN_r (a := a) hdp (a.length - k)
        have hx := u64s_getD ua (k - 1)
        refine jc_seq <| zsr <| zmv rfl (hd 29 rfl) <| jo_l (ly_ge rfl rfl) (hd 30 rfl) <| jo_nil ?_
        refine jc_if rfl (fun h3 => ?_) (fun h3 => ?_)
        · refine jc_skip <| jc_seq <| jc_block <| jc_draw (n := 17) _ rfl mixed <| zal 0 (lo_l (ly_mv rfl) (hd 34 rfl)) rfl <| zal 1 (lo_l (ly_mv rfl) (hd 35 rfl)) rfl <| zal2 2 [10, 11, 12, 13, 14, 15, 16] (lo_l (ly_mv rfl) (hd 36 rfl)) rfl <| zal2 3 [5, 6, 10, 11, 12, 13, 14, 15, 16] (lo_l (ly_mv rfl) (hd 37 rfl)) rfl <| zal2 4 [5, 6, 10, 11, 12, 13, 14, 15, 16] (lo_l (ly_mv rfl) (hd 38 rfl)) rfl <| zal2 5 [6, 10, 11, 12, 13, 14, 15, 16] (lo_l (ly_ian (i := k - 1) sl28 rfl rfl (by omega) (by omega)) (hd 39 rfl)) rfl <| zal2 6 [10, 11, 12, 13, 14, 15, 16] (lo_l (ly_ldq one82 rfl rfl) (hd 40 rfl)) rfl <| zal2 7 [8, 9, 10, 11, 12, 13, 14, 15, 16] (lo_l (ly_mv rfl) (hd 41 rfl)) rfl <| zal2 8 [9, 10, 11, 12, 13, 14, 15, 16] (lo_l (ly_ian (i := 0) sl28 rfl rfl rfl (by simp)) (hd 42 rfl)) rfl ?_; refine zal2 9 [10, 11, 12, 13, 14, 15, 16] (lo_l (ly_ldq one82 rfl rfl) (hd 43 rfl)) rfl ?_
          refine ja_1 10 ?_ rfl (by kernel_rfl)
          refine js_call Try.f122 (Div64_s (dvN a d (a.length - k)).2 (a.getD (k - 1) 0) d hr.1 hr.2 hx.1 hx.2 hdb.2) rfl Try.func122 rfl rfl (ovL_cons rfl (ovL_cons rfl (ovL_cons rfl ovL_nil))) (.cons .i (.cons .i (.cons .i .nil))) (hd 44 rfl) ?_ (fun ch hp => by simp at hp)
          rintro _ ⟨⟩; refine zal 11 (lo_l (ly_mv rfl) (hd 33 rfl)) rfl <| zal 12 (lo_l (ly_ext rfl rfl) (hd 45 rfl)) rfl <| zal 13 (lo_ext rfl rfl (hd 46 rfl)) rfl <| zal 14 (lo_l (ly_ia (i := k - 1) sl28 rfl rfl rfl (by omega) (by omega) rfl) (hd 47 rfl)) rfl ?_
          refine ja_1 15 ?_ rfl (by kernel_rfl)
          refine js_st (sy_storei rfl rfl rfl one82 (by simp only [List.length_append, List.length_replicate, dvN_len]; omega)) rfl <| zal 16 (lo_l (ly_as rfl) (hd 7 rfl)) rfl <| ja_nil (by kernel_rfl) <| jc_region <| zmv rfl (hd 31 rfl) <| jo_l (ly_sub rfl rfl (wrap_i64 (by omega) (by omega))) (hd 32 rfl) <| zas rfl (hd 8 rfl) <| jo_nil ?_
          refine ⟨k - 1, ?_, ?_, (by show [(⟨67, 1, 0, true, ints .u64 _⟩ : Ob)] = [⟨67, 1, 0, true, ints .u64 _⟩]; rw [dv_row (by omega), dv_step (by omega) hc1]), cov_n 42 rfl rfl ?_⟩
          · omega
          · omega
          · exact (.cons (by show some (V.i .u64 _) = some (V.i .u64 _); rw [dv_step (by omega) hc1]) (.cons (by show some (V.i .i64 _) = some (V.i .i64 _); congr 2; omega) (.u (.u (.u (.u (.u (.u (.u (.u (.u (.u (.u (.u (.u (.u (.u (.u (.u (.u (.u .nil)))))))))))))))))))))
        · obtain rfl : k = 0 := by omega
          refine jc_exit <| zsr <| jo_frz (k := .u64) (l := List.replicate 0 0 ++ (dvN a d (a.length - 0)).1) (l' := (dvN a d a.length).1) 6 rfl rfl (by simp [dvN_len]) (by rw [Nat.sub_zero, List.drop_zero]; show List.take _ (dvN a d a.length).1 = _; rw [List.take_of_length_le (by rw [dvN_len]; exact Nat.le_refl _)]) hL <| zmv rfl (hd 48 rfl) ?_
          refine jo_call Try.f71 (Norm_s (dvN a d a.length).1 (by rw [dvN_len]; omega)) rfl Try.func71 rfl rfl (ovL_cons rfl ovL_nil) (.cons .n .nil) (hd 49 rfl) ?_ (fun ch hp => by simp at hp)
          rintro _ ⟨⟩; refine zmv rfl (hd 50 rfl) ?_
          refine jo_call Try.f58 (From_s (dvN a d (a.length - 0)).2) rfl Try.func58 rfl rfl (ovL_cons rfl ovL_nil) (.cons .i .nil) (hd 51 rfl) ?_ (fun ch hp => by simp at hp)
          rintro _ ⟨⟩; refine zas rfl (hd 4 rfl) <| zas rfl (hd 5 rfl) <| jo_nil <| jc_ret ?_
          refine ⟨_, _, (.cons rfl (.cons rfl .nil)), (.t1 .nn (.t1 .nn .t0)), ?_⟩
          have hde := dv_end ua hdp
          rw [Nat.sub_zero, hde.2, fl_lm (Int.emod_nonneg _ (by omega)) (by have := Int.emod_lt_of_pos (vl a) hdp; omega), hde.1, hvd]
    · have hbl : 0 < b.length := List.length_pos_iff.2 hb
      obtain ⟨n, hn⟩ : ∃ n, b.length = n + 2 := ⟨b.length - 2, by omega⟩
      have htb := tb hb
      rw [hn, show n + 2 - 1 = n + 1 by omega] at htb
      have hbt := u64s_getD ub (n + 1)
      obtain ⟨s, hs⟩ : ∃ s : Nat, 64 - bl 64 (b.getD (n + 1) 0).toNat = s := ⟨_, rfl⟩
      have hz := lz_int (show 0 < b.getD (n + 1) 0 by omega) hbt.2
      rw [hs] at hz
      obtain ⟨s64, y0, y1⟩ := hz
      obtain ⟨v, hv⟩ : ∃ v, (upL b s).take b.length = v := ⟨_, rfl⟩
      have hv2 := up_cut s64 ub (by rw [hn]; exact y1) hb
      have uv : u64s v := hv ▸ u64s_take (upL_u s64 ub) _
      have hlv : v.length = n + 2 := by rw [← hv, List.length_take, upL_len]; omega
      rw [hv] at hv2
      have htop := kn_top ub uv tb hn hlv hv2
      have hul := upL_len a s
      refine jc_skip <| zsr <| zmv rfl (hd 52 rfl) <| zmv rfl (hd 53 rfl) <| jo_l (ly_lenn sl28 rfl) (hd 54 rfl) <| jo_l (ly_sub rfl rfl (r := ((n + 1 : Nat) : Int)) (by rw [wrap_i64 (by omega) (by omega)]; omega)) (hd 55 rfl) <| jo_l (ly_ian (i := n + 1) sl28 rfl rfl (by first | rfl | omega) (by omega)) (hd 56 rfl) <| jo_l (ly_is (ly_ldq one82 rfl rfl) (show V.i .u64 _ = V.i .u64 (((b.getD (n + 1) 0).toNat : Int)) from congrArg (V.i .u64) (Int.toNat_of_nonneg hbt.1).symm)) (hd 57 rfl) ?_
      refine jo_call Try.f123 (Lz_s (b.getD (n + 1) 0).toNat (by omega)) rfl Try.func123 rfl rfl (ovL_cons rfl ovL_nil) (.cons .i .nil) (hd 58 rfl) ?_ (fun ch hp => by simp at hp)
      rintro _ ⟨⟩; refine jo_l (ly_conv und3 und116 rfl (r := (s : Int)) (by rw [hs]; exact wrap_u64 (by omega) (by omega))) (hd 59 rfl) <| zas rfl (hd 9 rfl) <| jo_nil <| jc_seq <| jc_draw (n := 11) _ rfl mixed <| zal2 0 [2, 5, 8, 9, 10] (lo_l (ly_mv rfl) (hd 60 rfl)) rfl <| zal2 1 [2, 5, 8, 9, 10] (lo_l (ly_mv rfl) (hd 61 rfl)) rfl <| zal2 3 [5, 8, 9, 10] (lo_l (ly_mv rfl) (hd 63 rfl)) rfl <| zal2 4 [5, 8, 9, 10] (lo_l (ly_mv rfl) (hd 64 rfl)) rfl <| zal2 6 [7, 8, 10] (lo_l (ly_mv rfl) (hd 66 rfl)) rfl <| zal 7 (lo_l (ly_lenn sl28 rfl) (hd 67 rfl)) rfl ?_
      refine ja_1 2 ?_ rfl (by kernel_rfl)
      refine js_callN Try.f124 (up_n s a (by omega) s64 ua) (fun o G ⟨_, h⟩ => h ▸ idless_cons ints_id idless_nil) rfl Try.func124 rfl rfl (ovL_cons rfl (ovL_cons rfl ovL_nil)) (.cons .n (.cons .i .nil)) (hd 62 rfl) ?_ (fun ch G hp => by simp at hp)
      rintro y G ⟨hy, rfl⟩; injection hy with hy; subst hy
      show JA _ _ _ _ _ ((62, .o 0 0 0 (a.length + 1)) :: _) _ _
      refine ja_1 5 ?_ rfl (by kernel_rfl)
      refine js_call Try.f124 (up_s s b (by omega) s64 ub) rfl Try.func124 rfl rfl (ovL_cons rfl (ovL_cons rfl ovL_nil)) (.cons .n (.cons .i .nil)) (hd 65 rfl) ?_ (fun ch hp => by simp at hp)
      rintro _ ⟨⟩; refine zal 8 (lo_l (ly_is (ly_sln sl28 rfl bnd_none (bnd_some' rfl rfl) (.inl rfl) (by omega) (by rw [upL_len]; omega)) (show V.n _ .u64 _ = V.n _ .u64 v by rw [List.drop_zero, hv])) (hd 68 rfl)) rfl <| zal 9 (lo_l (ly_as rfl) (hd 10 rfl)) rfl <| zal 10 (lo_l (ly_as rfl) (hd 11 rfl)) rfl <| ja_nil (by kernel_rfl) <| zsr <| zmv rfl (hd 69 rfl) <| jo_l (ly_lenn sl28 rfl) (hd 70 rfl) <| zas rfl (hd 12 rfl) <| jo_nil <| zsr <| zmv rfl (hd 71 rfl) ?_; refine jo_l (ly_lenn sl28 rfl) (hd 72 rfl) <| zmv rfl (hd 73 rfl) <| jo_l (ly_sub rfl rfl (r := ((a.length - v.length : Nat) : Int)) (by rw [wrap_i64 (by omega) (by omega)]; omega)) (hd 74 rfl) <| jo_l (ly_add rfl rfl (r := ((a.length - v.length + 1 : Nat) : Int)) (by rw [wrap_i64 (by omega) (by omega)]; omega)) (hd 75 rfl) <| jo_h (hy_mk (m := a.length - v.length + 1) el28 rfl rfl rfl (by show 8 * (a.length - v.length + 1) ≤ _; omega) (by unfold maxLen; omega) rfl) (hd 76 rfl) <| zas rfl (hd 13 rfl) <| jo_nil <| jc_seq <| zsr <| zmv rfl (hd 77 rfl) <| jo_l (ly_lenn sl28 rfl) (hd 78 rfl) <| zmv rfl (hd 79 rfl) ?_; refine jo_l (ly_sub rfl rfl (r := ((a.length - v.length : Nat) : Int)) (by rw [wrap_i64 (by omega) (by omega)]; omega)) (hd 80 rfl) <| zas rfl (hd 14 rfl) <| jo_nil <| jc_block <| jc_H (H' := [⟨67, 1, 0, true, ints .u64 (upL a s)⟩, ⟨67, 1, 0, true, ints .u64 (List.replicate (a.length - b.length + 1) 0 ++ [])⟩]) (by rw [List.append_nil, hn, ← hlv]; rfl) ?_
      refine jc_loopF (G := Nat × List Int × List Int) (fun g => g.1 ≤ a.length - b.length + 1 ∧ Kn (vl a * 2 ^ s) v (a.length + 1) g.1 g.2.1 g.2.2 ∧ g.2.2.length = a.length - b.length + 1 - g.1) (fun g => [(14, .i .i64 ((g.1 : Int) - 1)), (81, .u), (82, .u), (83, .u), (84, .u), (85, .u), (86, .u), (87, .u), (88, .u), (89, .u), (90, .u), (91, .u), (92, .u), (93, .u), (94, .u), (95, .u), (96, .u)]) (fun g => [⟨67, 1, 0, true, ints .u64 g.2.1⟩, ⟨67, 1, 0, true, ints .u64 (List.replicate g.1 0 ++ g.2.2)⟩]) (fun g => g.1) (a.length - b.length + 1, upL a s, []) ?_ ?_ rfl ?_
      · exact ⟨Nat.le_refl _, kn_start s64 ua ub tb hb hv2 hlen, by show 0 = _; omega⟩
      · exact (.cons (by show some (V.i .i64 _) = some (V.i .i64 _); congr 2; omega) (.u (.u (.u (.u (.u (.u (.u (.u (.u (.u (.u (.u (.u (.u (.u (.u .nil)))))))))))))))))
      · rintro ⟨k, U, Qs⟩ ⟨hk, hK, hQl⟩
        dsimp only at hk hK hQl
        refine jc_seq <| zsr <| zmv rfl (hd 81 rfl) <| jo_l (ly_ge rfl rfl) (hd 82 rfl) <| jo_nil ?_
        refine jc_if rfl (fun h4 => ?_) (fun h4 => ?_)
        · obtain ⟨k, rfl⟩ : ∃ m, k = m + 1 := ⟨k - 1, by omega⟩
          have hG := hK.gup uv hlv htop (by omega)
          have hKl := hK.lu
          refine jc_skip <| jc_seq <| jc_block <| jc_region <| zmv rfl (hd 85 rfl) <| zmv rfl (hd 86 rfl) <| zmv rfl (hd 87 rfl) <| zmv rfl (hd 88 rfl) <| zmv rfl (hd 89 rfl) <| zmv rfl (hd 90 rfl) <| jo_l (ly_add rfl rfl (r := ((k + v.length : Nat) : Int)) (by rw [wrap_i64 (by omega) (by omega)]; omega)) (hd 91 rfl) <| jo_l (ly_add rfl rfl (r := ((k + v.length + 1 : Nat) : Int)) (by rw [wrap_i64 (by omega) (by omega)]; omega)) (hd 92 rfl) <| jo_l (ly_slo (l := k) (h := k + (n + 3)) (r := k) (n := n + 3) sl28 rfl rfl (bnd_some' rfl (by omega)) (bnd_some' rfl (by omega)) (by omega) (by omega) (by omega) (by omega)) (hd 93 rfl) ?_; refine zmv rfl (hd 94 rfl) ?_
          refine jo_callM Try.f125 (guess_s U (slJ U k (n + 3)) v (List.replicate (k + 1) 0 ++ Qs) k n (by omega) (by omega) hK.uu rfl hG) rfl Try.func125 rfl rfl (ovL_cons rfl (ovL_cons rfl ovL_nil)) (.cons (.same rfl) (.cons .n .nil)) (freshless_cons ints_noFr (freshless_cons ints_noFr freshless_nil)) (hd 95 rfl) ?_ (fun ch H2 hp => by simp at hp)
          rintro y H2 ⟨hy, r, rfl, hrl, hru, hrv⟩; injection hy with hy; subst hy; refine jo_l (ly_ia (i := k) sl28 rfl rfl rfl (by omega) (by omega) rfl) (hd 96 rfl) <| jo_st (sy_storei rfl rfl rfl one82 (by simp only [List.length_append, List.length_replicate]; omega)) <| jo_nil <| jc_region <| zmv rfl (hd 83 rfl) <| jo_l (ly_sub rfl rfl (wrap_i64 (by omega) (by omega))) (hd 84 rfl) <| zas rfl (hd 14 rfl) <| jo_nil ?_
          refine ⟨(k, rwJ U k r, vl (slJ U k (n + 3)) / vl v :: Qs), ?_, ?_, (by show [_, (⟨67, 1, 0, true, ints .u64 _⟩ : Ob)] = [_, ⟨67, 1, 0, true, ints .u64 _⟩]; rw [dv_row']), cov_n 34 rfl rfl ?_⟩
          · exact ⟨by show k ≤ _; omega, hK.next hG (by omega) hrl hru hrv, by show (_ :: Qs).length = _; rw [List.length_cons]; omega⟩
          · show k < k + 1
            omega
          · exact (.cons (by show some (V.i .i64 _) = some (V.i .i64 _); congr 2; omega) (.u (.u (.u (.u (.u (.u (.u (.u (.u (.u (.u (.u (.u (.u (.u (.u .nil)))))))))))))))))
        · obtain rfl : k = 0 := by omega
          have hKl := hK.lu
          obtain ⟨hf1, hf2, hf3⟩ := hK.fin s64 hv2 hb0 ua uv (by omega)
          refine jc_exit <| jc_seq <| jc_frz (k := .u64) (l := List.replicate 0 0 ++ Qs) (l' := Qs) 13 rfl rfl (by simp only [List.length_append, List.length_replicate]; omega) (by rw [List.drop_zero]; show List.take _ Qs = _; rw [List.take_of_length_le (by omega)]) hL <| jc_frz (k := .u64) (l := U) (l' := U) 10 rfl rfl (by omega) (by rw [List.drop_zero, List.take_of_length_le (by omega)]) hL <| jc_draw (n := 9) _ rfl mixed <| zal2 0 [1, 6, 7, 8] (lo_l (ly_mv rfl) (hd 97 rfl)) rfl <| zal2 2 [4, 6, 7, 8] (lo_l (ly_mv rfl) (hd 99 rfl)) rfl <| zal2 3 [4, 6, 7, 8] (lo_l (ly_mv rfl) (hd 100 rfl)) rfl <| zal2 4 [6, 7, 8] (lo_l (ly_is (ly_sln sl28 rfl bnd_none (bnd_some' rfl rfl) (.inl rfl) (by omega) (by omega)) (show V.n _ .u64 _ = V.n _ .u64 (U.take v.length) by rw [List.drop_zero])) (hd 101 rfl)) rfl <| zal2 5 [6, 7, 8] (lo_l (ly_mv rfl) (hd 102 rfl)) rfl ?_
          refine ja_1 1 ?_ rfl (by kernel_rfl)
          refine js_call Try.f71 (Norm_s Qs (by omega)) rfl Try.func71 rfl rfl (ovL_cons rfl ovL_nil) (.cons .n .nil) (hd 98 rfl) ?_ (fun ch hp => by simp at hp)
          rintro y hy; injection hy with hy; subst hy
          refine ja_1 6 ?_ rfl (by kernel_rfl)
          refine js_call Try.f126 (div_down_s s (U.take v.length) (by rw [List.length_take]; omega) s64 (u64s_take hK.uu _)) rfl Try.func126 rfl rfl (ovL_cons rfl (ovL_cons rfl ovL_nil)) (.cons .n (.cons .i .nil)) (hd 103 rfl) ?_ (fun ch hp => by simp at hp)
          rintro _ ⟨⟩; refine zal 7 (lo_l (ly_as rfl) (hd 4 rfl)) rfl <| zal 8 (lo_l (ly_as rfl) (hd 5 rfl)) rfl <| ja_nil (by kernel_rfl) <| jc_ret ?_
          refine ⟨_, _, (.cons rfl (.cons rfl .nil)), (.t1 .nn (.t1 .nn .t0)), ?_⟩
          rw [hf1, hf3]

theorem Norm_v (v : Int) (hl : (lm v).length < 1099511627776) : Spec Try.prog 71 [.n false .u64 (lm v)] (fun o => o = .ret (.n true .u64 (lm v))) := by
  have h := Norm_s (lm v) hl
  rwa [trm_id (lm_t v)] at h
theorem Length_v (v : Int) (hl : (lm v).length < 1099511627776) : Spec Try.prog 66 [.n false .u64 (lm v)] (fun o => o = .ret (.i .i64 (lenV v : Int))) := by
  have h := Length_s (lm v) hl (lm_u v)
  rwa [lenN_lm] at h
theorem divide_v (v w : Int) (hv : (lm v).length < 4294967296) (hw : (lm w).length < 4294967296) (h0 : w ≠ 0) : Spec Try.prog 100 [.n false .u64 (lm v), .n false .u64 (lm w)] (fun o => o = .ret (.t [.n false .u64 (lm (qn v w)), .n false .u64 (lm (rn v w))])) := by
  have h := divide_s (lm v) (lm w) hv hw (lm_u v) (lm_u w) (lm_t v) (lm_t w) (lm_ne h0)
  rwa [lm_v, lm_v] at h



theorem Shl_s (x n : Nat) (hx : (digs B32 x).length < 549755813888) (hn : n < 4294967296) : Spec Try.prog 98 [.n false .u64 (digs B32 x), .i .i64 (n : Int)] (fun o => o = .ret (.n false .u64 (digs B32 (x * 2 ^ n)))) := by
  refine spec_of' [(0, .n false .u64 (digs B32 x)), (1, .i .i64 (n : Int))] rfl Try.func98 rfl (zlb rfl) fun Γ hN hds hL hR => ?_
  have hd := hdOf 55 hN
  have hr := rng_digs (b := B32) (by decide) x
  have hs : n % 32 < 32 := by omega
  refine zsr <| zas rfl (hd 4 rfl) <| jo_nil <| jc_seq <| zsr <| zmv rfl (hd 9 rfl) <| jo_l (ly_lenn sl33 rfl) (hd 10 rfl) <| jo_l (ly_eq rfl rfl) (hd 11 rfl) <| jo_nil ?_
  refine jc_if rfl (fun h1 => ?_) (fun h1 => ?_)
  · refine zsr <| zas rfl (hd 4 rfl) <| jo_nil <| jc_ret ?_
    refine ⟨_, _, (.cons rfl .nil), (.nil (fr := false) (k := .u64)), ?_⟩
    have hz : (digs B32 x) = [] := List.eq_nil_of_length_eq_zero (by omega)
    rw [digs_nil.1 hz, Nat.zero_mul, digs_0]
  · refine jc_skip <| zsr <| zmv rfl (hd 12 rfl) <| jo_l (ly_lenn sl33 rfl) (hd 13 rfl) <| zmv rfl (hd 14 rfl) <| jo_l (ly_quo rfl rfl (by omega) (r := ((n / 32 : Nat) : Int)) (quo32 (by omega))) (hd 15 rfl) <| jo_l (ly_add rfl rfl (r := (((digs B32 x).length + n / 32 : Nat) : Int)) (by rw [wrap_i64 (by omega) (by omega)]; omega)) (hd 16 rfl) <| jo_l (ly_add rfl rfl (r := (((digs B32 x).length + n / 32 + 1 : Nat) : Int)) (by rw [wrap_i64 (by omega) (by omega)]; omega)) (hd 17 rfl) <| jo_h (hy_mk (m := (digs B32 x).length + n / 32 + 1) el33 rfl rfl rfl (by show 8 * ((digs B32 x).length + n / 32 + 1) ≤ _; omega) (by unfold maxLen; omega) rfl) (hd 18 rfl) <| zas rfl (hd 5 rfl) <| jo_nil <| jc_seq ?_; refine jc_region <| zmv rfl (hd 19 rfl) <| jo_l (ly_is (ly_rem rfl rfl (by omega) rfl) (show V.i .i64 _ = V.i .i64 (((n % 32 : Nat) : Int)) from congrArg (V.i .i64) rem32)) (hd 20 rfl) <| zas rfl (hd 6 rfl) <| jo_nil <| jc_seq <| zsr <| zmv rfl (hd 21 rfl) <| jo_l (ly_lenn sl33 rfl) (hd 22 rfl) <| zmv rfl (hd 23 rfl) <| jo_nil <| jc_block ?_; refine jc_H (H' := [⟨67, 1, 0, true, ints .u64 (shR (digs B32 x) (n % 32) (n / 32) 0)⟩]) (by rw [← shR_0]; rfl) ?_
    refine jc_loopF (G := Nat) (fun i => i ≤ (digs B32 x).length) (fun i => [(23, .i .i64 (i : Int)), (7, .u), (8, .u), (24, .u), (25, .u), (26, .u), (27, .u), (28, .u), (29, .u), (30, .u), (31, .u), (32, .u), (33, .u), (34, .u), (35, .u), (36, .u), (37, .u), (38, .u), (39, .u), (40, .u), (41, .u), (42, .u), (43, .u), (44, .u), (45, .u), (46, .u), (47, .u), (48, .u), (49, .u), (50, .u), (51, .u), (52, .u)]) (fun i => [⟨67, 1, 0, true, ints .u64 (shR (digs B32 x) (n % 32) (n / 32) i)⟩]) (fun i => (digs B32 x).length - i) 0 ?_ ?_ rfl ?_
    · exact Nat.zero_le _
    · exact (.cons rfl (.u (.u (.u (.u (.u (.u (.u (.u (.u (.u (.u (.u (.u (.u (.u (.u (.u (.u (.u (.u (.u (.u (.u (.u (.u (.u (.u (.u (.u (.u (.u .nil))))))))))))))))))))))))))))))))
    · rintro i hc1
      have hf := shR_len (s := (n % 32)) (w := (n / 32)) hc1
      have hc := sh32_c hs hr i
      have hx := rng_getD (by decide) hr i
      have hp := sh_prod hs hr i
      have hel := sh_el (x := (digs B32 x).getD i 0) hs hc.1 hc.2
      refine zsr <| jo_l (ly_lt rfl rfl) (hd 24 rfl) <| jo_nil <| jc_seq ?_
      refine jc_if rfl (fun h2 => ?_) (fun h2 => ?_)
      · refine jc_skip <| jc_seq <| jc_block <| zsr <| zmv rfl (hd 25 rfl) <| jo_l (ly_ian (i := i) sl33 rfl rfl (by first | rfl | omega) (by omega)) (hd 26 rfl) <| jo_l (ly_ldq one82 rfl rfl) (hd 27 rfl) <| zas rfl (hd 7 rfl) <| zas rfl (hd 8 rfl) <| jo_nil <| jc_seq <| jc_draw (n := 14) _ rfl mixed ?_; refine zal2 0 [5, 6, 11, 12, 13] (lo_l (ly_mv rfl) (hd 28 rfl)) rfl <| zal2 1 [4, 5, 6, 11, 12, 13] (lo_l (ly_mv rfl) (hd 29 rfl)) rfl <| zal2 2 [3, 4, 5, 6, 11, 12, 13] (lo_l (ly_mv rfl) (hd 30 rfl)) rfl <| zal2 3 [4, 5, 6, 11, 12, 13] (lo_l (ly_quo rfl rfl (by omega) (r := ((n / 32 : Nat) : Int)) (quo32 (by omega))) (hd 31 rfl)) rfl <| zal2 4 [5, 6, 11, 12, 13] (lo_l (ly_add rfl rfl (r := ((i + n / 32 : Nat) : Int)) (by rw [wrap_i64 (by omega) (by omega)]; omega)) (hd 32 rfl)) rfl <| zal2 5 [6, 11, 12, 13] (lo_l (ly_ia (i := i + n / 32) sl33 rfl rfl rfl (by first | rfl | omega) (by omega) rfl) (hd 33 rfl)) rfl <| zal 6 (lo_l (ly_is (ly_ldi one82 rfl rfl (by omega)) (show V.i .u64 _ = V.i .u64 ((sh32 (digs B32 x) (n % 32) i).2) from congrArg (V.i .u64) shR_get)) (hd 34 rfl)) rfl <| zal2 7 [9, 10, 11, 12, 13] (lo_l (ly_mv rfl) (hd 35 rfl)) rfl <| zal2 8 [9, 10, 11, 12, 13] (lo_l (ly_mv rfl) (hd 36 rfl)) rfl <| zal2 9 [10, 11, 12, 13] (lo_l (ly_is (ly_shl rfl rfl (by omega) rfl) (show V.i .u64 _ = V.i .u64 (((digs B32 x).getD i 0 * 2 ^ (n % 32))) from congrArg (V.i .u64) (shl_u64 hs hx.1 hx.2))) (hd 37 rfl)) rfl <| zal 10 (lo_l (ly_is (ly_rem rfl rfl (by decide) rfl) (show V.i .u64 _ = V.i .u64 (((digs B32 x).getD i 0 * 2 ^ (n % 32)) % 4294967296) from congrArg (V.i .u64) (Int.tmod_eq_emod_of_nonneg hp.1))) (hd 38 rfl)) rfl <| zal 11 (lo_l (ly_add rfl rfl (wrap_u64 hel.1 (Int.lt_trans hel.2 (by decide)))) (hd 39 rfl)) rfl <| zal 12 (lo_l (ly_ia (i := i + n / 32) sl33 rfl rfl rfl (by first | rfl | omega) (by omega) rfl) (hd 40 rfl)) rfl ?_
        refine ja_1 13 ?_ rfl (by kernel_rfl)
        refine js_st (sy_storei rfl rfl rfl one82 (by omega)) rfl <| ja_nil (by kernel_rfl) <| jc_region <| zmv rfl (hd 41 rfl) <| zmv rfl (hd 42 rfl) <| zmv rfl (hd 43 rfl) <| jo_l (ly_quo rfl rfl (by omega) (r := ((n / 32 : Nat) : Int)) (quo32 (by omega))) (hd 44 rfl) <| jo_l (ly_add rfl rfl (r := ((i + n / 32 : Nat) : Int)) (by rw [wrap_i64 (by omega) (by omega)]; omega)) (hd 45 rfl) <| jo_l (ly_add rfl rfl (r := ((i + n / 32 + 1 : Nat) : Int)) (by rw [wrap_i64 (by omega) (by omega)]; omega)) (hd 46 rfl) <| zmv rfl (hd 47 rfl) <| zmv rfl (hd 48 rfl) <| jo_l (ly_is (ly_shl rfl rfl (by omega) rfl) (show V.i .u64 _ = V.i .u64 (((digs B32 x).getD i 0 * 2 ^ (n % 32))) from congrArg (V.i .u64) (shl_u64 hs hx.1 hx.2))) (hd 49 rfl) <| jo_l (ly_quo rfl rfl (by decide) (r := ((digs B32 x).getD i 0 * 2 ^ (n % 32)) / 4294967296) (quo_u64 hp.1 (by omega) (by decide))) (hd 50 rfl) ?_; refine jo_l (ly_ia (i := i + n / 32 + 1) sl33 rfl rfl rfl (by first | rfl | omega) (by omega) rfl) (hd 51 rfl) <| jo_st (sy_storei rfl rfl rfl one82 (by simp only [List.length_set]; omega)) <| jo_nil <| jc_region <| jo_l (ly_add rfl rfl (wrap_i64 (by omega) (by omega))) (hd 52 rfl) <| zmv rfl (hd 23 rfl) <| jo_nil ?_
        refine ⟨i + 1, ?_, ?_, (by show [(⟨67, 1, 0, true, ints .u64 _⟩ : Ob)] = [⟨67, 1, 0, true, ints .u64 _⟩]; rw [shR_set (by omega)]), cov_n 64 rfl rfl ?_⟩
        · omega
        · omega
        · exact (.cons rfl (.u (.u (.u (.u (.u (.u (.u (.u (.u (.u (.u (.u (.u (.u (.u (.u (.u (.u (.u (.u (.u (.u (.u (.u (.u (.u (.u (.u (.u (.u (.u .nil))))))))))))))))))))))))))))))))
      · obtain rfl : i = (digs B32 x).length := by omega
        refine jc_exit <| zsr <| jo_frz (k := .u64) (l := shR (digs B32 x) (n % 32) (n / 32) (digs B32 x).length) (l' := shR (digs B32 x) (n % 32) (n / 32) (digs B32 x).length) 5 rfl rfl (by omega) (by rw [List.drop_zero, List.take_of_length_le (by omega)]) hL <| zmv rfl (hd 53 rfl) ?_
        refine jo_call Try.f95 (rnorm_s (shR (digs B32 x) (n % 32) (n / 32) (digs B32 x).length) (by omega)) rfl Try.func95 rfl rfl (ovL_cons rfl ovL_nil) (.cons .n .nil) (hd 54 rfl) ?_ (fun ch hp => by simp at hp)
        rintro _ ⟨⟩; refine zas rfl (hd 4 rfl) <| jo_nil <| jc_ret ?_
        refine ⟨_, _, (.cons rfl .nil), .n, ?_⟩
        rw [shR_end]

theorem rDiv_s (x y : Nat) (hx : (digs B32 x).length < 4294967296) (hy : (digs B32 y).length < 4294967296) (h0 : 0 < y) : Spec Try.prog 56 [.n false .u64 (digs B32 x), .n false .u64 (digs B32 y)] (fun o => o = .ret (.t [.n false .u64 (digs B32 (x / y)), .n false .u64 (digs B32 (x % y))])) := by
  refine spec_of' [(0, .n false .u64 (digs B32 x)), (1, .n false .u64 (digs B32 y))] rfl Try.func56 rfl (zlb rfl) fun Γ hN hds hL hR => ?_
  have hd := hdOf 60 hN
  refine zsr <| zas rfl (hd 4 rfl) <| zas rfl (hd 5 rfl) <| jo_nil <| zsr <| zas rfl (hd 6 rfl) <| jo_nil <| zsr <| zmv rfl (hd 12 rfl) <| jo_l (ly_lenn sl33 rfl) (hd 13 rfl) ?_; refine jo_h (hy_mk (m := (digs B32 x).length) el33 rfl rfl rfl (by show 8 * (digs B32 x).length ≤ _; omega) (by unfold maxLen; omega) rfl) (hd 14 rfl) <| zas rfl (hd 7 rfl) <| jo_nil <| jc_seq <| jc_seq <| jc_nilN (k := .u64) 6 rfl <| jc_region <| zmv rfl (hd 15 rfl) <| jo_l (ly_lenn sl33 rfl) (hd 16 rfl) <| jo_l (ly_sub rfl rfl (wrap_i64 (by omega) (by omega))) (hd 17 rfl) <| zas rfl (hd 8 rfl) <| jo_nil <| jc_block ?_; refine jc_H (H' := [⟨67, 1, 0, true, ints .u64 (List.replicate (digs B32 x).length 0 ++ [])⟩]) (by rw [List.append_nil]; rfl) ?_
  refine jc_loopD (G := Nat × List Int) 1 (fun g => g.1 ≤ (digs B32 x).length ∧ Qd x y g.1 g.2) (fun g => [(6, .n false .u64 (digs B32 (x / B32 ^ g.1 % y))), (8, .i .i64 ((g.1 : Int) - 1)), (9, .u), (10, .u), (11, .u), (18, .u), (19, .u), (20, .u), (21, .u), (22, .u), (23, .u), (24, .u), (25, .u), (26, .u), (27, .u), (28, .u), (29, .u), (30, .u), (31, .u), (32, .u), (33, .u), (34, .u), (35, .u), (36, .u), (37, .u), (38, .u), (39, .u), (40, .u), (41, .u), (42, .u), (43, .u), (44, .u), (45, .u), (46, .u), (47, .u), (48, .u), (49, .u), (50, .u), (51, .u), (52, .u), (53, .u), (54, .u), (55, .u), (56, .u)]) (fun g => [⟨67, 1, 0, true, ints .u64 (List.replicate g.1 0 ++ g.2)⟩]) (fun g => g.1) ((digs B32 x).length, []) ?_ ?_ rfl hR rfl (fun _ _ => rfl) (fun g _ => .cons ints_id .nil) ?_
  · exact ⟨Nat.le_refl _, qd_0⟩
  · exact (.cons (by show some (V.n false .u64 []) = some (V.n false .u64 (digs B32 (x / B32 ^ (digs B32 x).length % y))); rw [top_0, Nat.zero_mod, digs_0]) (.cons rfl (.u (.u (.u (.u (.u (.u (.u (.u (.u (.u (.u (.u (.u (.u (.u (.u (.u (.u (.u (.u (.u (.u (.u (.u (.u (.u (.u (.u (.u (.u (.u (.u (.u (.u (.u (.u (.u (.u (.u (.u (.u (.u .nil))))))))))))))))))))))))))))))))))))))))))))
  · rintro ⟨k, Q⟩ ⟨hk, hQ⟩
    dsimp only at hk hQ
    obtain ⟨R, hR0⟩ : ∃ R, x / B32 ^ k % y * B32 + x / B32 ^ (k - 1) % B32 = R := ⟨_, rfl⟩
    have hRb := dv_R (x := x) (k := k) h0
    rw [hR0] at hRb
    have hlR := len_yB hRb
    have hlA := len_le (Nat.le_of_lt (Nat.mod_lt (x / B32 ^ k) h0))
    have hAB : x / B32 ^ k % y * 2 ^ 32 < y * B32 := Nat.mul_lt_mul_of_pos_right (Nat.mod_lt (x / B32 ^ k) h0) (by decide)
    have hlAB := len_yB hAB
    have hdB := Nat.mod_lt (x / B32 ^ (k - 1)) (show 0 < B32 by decide)
    have hlD : (digs B32 (x / B32 ^ (k - 1) % B32)).length ≤ 1 := digs_len (by decide) 1 _ (by rw [Nat.pow_one]; exact hdB)
    have hNm : Spec Try.prog 95 [.n false .u64 [((x / B32 ^ (k - 1) % B32 : Nat) : Int)]] (fun o => o = .ret (.n false .u64 (digs B32 (x / B32 ^ (k - 1) % B32)))) := by have h := rnorm_s [((x / B32 ^ (k - 1) % B32 : Nat) : Int)] (by simp); rwa [trm_1 hdB] at h
    have hAdd : Spec Try.prog 80 [.n false .u64 (digs B32 (x / B32 ^ k % y * 2 ^ 32)), .n false .u64 (digs B32 (x / B32 ^ (k - 1) % B32))] (fun o => o = .ret (.n false .u64 (digs B32 R))) := by have h := rAdd_s (x / B32 ^ k % y * 2 ^ 32) (x / B32 ^ (k - 1) % B32) (by omega) (by omega); rw [show x / B32 ^ k % y * 2 ^ 32 + x / B32 ^ (k - 1) % B32 = R from hR0] at h; exact h
    refine jc_seq <| zsr <| zmv rfl (hd 18 rfl) <| jo_l (ly_ge rfl rfl) (hd 19 rfl) <| jo_nil ?_
    refine jc_if rfl (fun h1 => ?_) (fun h1 => ?_)
    · refine jc_skip <| jc_seq <| jc_block <| jc_seq <| jc_draw (n := 10) _ rfl mixed <| zal2 0 [1, 7, 8, 9] (lo_l (ly_mv rfl) (hd 22 rfl)) rfl <| zal2 2 [4, 5, 6, 7, 8, 9] (lo_l (ly_mv rfl) (hd 24 rfl)) rfl <| zal2 3 [4, 5, 6, 7, 8, 9] (lo_l (ly_mv rfl) (hd 25 rfl)) rfl <| zal2 4 [5, 6, 7, 8, 9] (lo_l (ly_ian (i := k - 1) sl33 rfl rfl (by omega) (by omega)) (hd 26 rfl)) rfl <| zal2 5 [6, 7, 8, 9] (lo_l (ly_is (ly_ldq one82 rfl rfl) (by show V.i .u64 _ = V.i .u64 (((x / B32 ^ (k - 1) % B32 : Nat) : Int)); exact congrArg (V.i .u64) (digs_at (by decide) (k - 1) x))) (hd 27 rfl)) rfl ?_
      refine ja_2 1 6 ?_ ?_ rfl rfl (by kernel_rfl)
      · refine js_call Try.f98 (Shl_s (x / B32 ^ k % y) 32 (by omega) (by decide)) rfl Try.func98 rfl rfl (ovL_cons rfl (ovL_cons rfl ovL_nil)) (.cons .n (.cons .i .nil)) (hd 23 rfl) ?_ (fun ch hp => by simp at hp)
        rintro y hy; injection hy with hy; subst hy
        refine ja_1 6 ?_ rfl (by kernel_rfl)
        refine js_h (hy_lit (id := 1) (xs := [.tmp 27]) el33 rfl (ovL_cons rfl ovL_nil) rfl (all2_of rfl) (by decide) rfl) (hd 28 rfl) <| ja_frz (k := .u64) (l := [((x / B32 ^ (k - 1) % B32 : Nat) : Int)]) (l' := [((x / B32 ^ (k - 1) % B32 : Nat) : Int)]) 28 rfl rfl (Nat.le_refl _) rfl hL ?_
        refine ja_1 7 ?_ rfl (by kernel_rfl)
        refine js_call Try.f95 (hNm) rfl Try.func95 rfl rfl (ovL_cons rfl ovL_nil) (.cons .n .nil) (hd 29 rfl) ?_ (fun ch hp => by simp at hp)
        rintro y hy; injection hy with hy; subst hy
        refine ja_1 8 ?_ rfl (by kernel_rfl)
        refine js_call Try.f80 (hAdd) rfl Try.func80 rfl rfl (ovL_cons rfl (ovL_cons rfl ovL_nil)) (.cons .n (.cons .n .nil)) (hd 30 rfl) ?_ (fun ch hp => by simp at hp)
        rintro _ ⟨⟩; refine zal 9 (lo_l (ly_as rfl) (hd 6 rfl)) rfl <| ja_nil (by kernel_rfl) <| zsr <| zas rfl (hd 9 rfl) <| jo_nil ?_
        refine jc_meetH (G := Unit) (fun _ => True) (fun _ => [(6, .n false .u64 (digs B32 (R % y))), (9, .i .u64 ((R / y : Nat) : Int)), (10, .u), (11, .u), (31, .u), (32, .u), (33, .u), (34, .u), (35, .u), (36, .u), (37, .u), (38, .u), (39, .u), (40, .u), (41, .u), (42, .u), (43, .u), (44, .u), (45, .u), (46, .u), (47, .u), (48, .u), (49, .u), (50, .u), (51, .u), (52, .u)]) ?_ ?_
        · refine zsr <| zmv rfl (hd 31 rfl) <| zmv rfl (hd 32 rfl) ?_
          refine jo_call Try.f88 (rCmp_s R y (by omega) (by omega)) rfl Try.func88 rfl rfl (ovL_cons rfl (ovL_cons rfl ovL_nil)) (.cons .n (.cons .n .nil)) (hd 33 rfl) ?_ (fun ch hp => by simp at hp)
          rintro _ ⟨⟩; refine jo_l (ly_ge rfl rfl) (hd 34 rfl) <| jo_nil ?_
          refine jc_if rfl (fun h2 => ?_) (fun h2 => ?_)
          · refine zsr <| zas rfl (hd 10 rfl) <| jo_nil <| jc_block ?_
            refine jc_loopF (G := Nat × Nat) (fun g => Hlv R y g.1 g.2) (fun g => [(6, .n false .u64 (digs B32 (R - y * g.2))), (9, .i .u64 (g.2 : Int)), (10, .i .i64 ((g.1 : Int) - 1)), (11, .u), (35, .u), (36, .u), (37, .u), (38, .u), (39, .u), (40, .u), (41, .u), (42, .u), (43, .u), (44, .u), (45, .u), (46, .u), (47, .u), (48, .u), (49, .u), (50, .u), (51, .u), (52, .u)]) (fun _ => _) (fun g => g.1) (32, 0) ?_ ?_ rfl ?_
            · exact hlv_0 hRb
            · exact (.cons (by show some (V.n false .u64 (digs B32 R)) = some (V.n false .u64 (digs B32 (R - y * 0))); rw [Nat.mul_zero, Nat.sub_zero]) (.cons rfl (.cons rfl (.u (.u (.u (.u (.u (.u (.u (.u (.u (.u (.u (.u (.u (.u (.u (.u (.u (.u (.u .nil))))))))))))))))))))))
            · rintro ⟨t, q⟩ hH
              dsimp only at hH
              have hlq := hlv_len (t := t) (q := q) hRb
              refine jc_seq <| zsr <| zmv rfl (hd 35 rfl) <| jo_l (ly_ge rfl rfl) (hd 36 rfl) <| jo_nil ?_
              refine jc_if rfl (fun h3 => ?_) (fun h3 => ?_)
              · obtain ⟨s, rfl⟩ : ∃ s, t = s + 1 := ⟨t - 1, by omega⟩
                have hs : s < 32 := by have := hH.1; omega
                have hls := len_ys (y := y) h0 hs
                refine jc_skip ?_
                refine jc_meetH (G := Nat) (fun g => Hlv R y s g) (fun g => [(6, .n false .u64 (digs B32 (R - y * g))), (9, .i .u64 (g : Int)), (11, .u), (39, .u), (40, .u), (41, .u), (42, .u), (43, .u), (44, .u), (45, .u), (46, .u), (47, .u), (48, .u), (49, .u), (50, .u), (51, .u), (52, .u)]) ?_ ?_
                · refine jc_block <| zsr <| zmv rfl (hd 39 rfl) <| jo_l (ly_is (ly_mv rfl) (show V.i .i64 _ = V.i .i64 (s : Int) by congr 1; omega)) (hd 40 rfl) ?_
                  refine jo_call Try.f98 (Shl_s y s (by omega) (by omega)) rfl Try.func98 rfl rfl (ovL_cons rfl (ovL_cons rfl ovL_nil)) (.cons .n (.cons .i .nil)) (hd 41 rfl) ?_ (fun ch hp => by simp at hp)
                  rintro _ ⟨⟩; refine zas rfl (hd 11 rfl) <| jo_nil <| zsr <| zmv rfl (hd 42 rfl) <| zmv rfl (hd 43 rfl) ?_
                  refine jo_call Try.f88 (rCmp_s (R - y * q) (y * 2 ^ s) (by omega) (by omega)) rfl Try.func88 rfl rfl (ovL_cons rfl (ovL_cons rfl ovL_nil)) (.cons .n (.cons .n .nil)) (hd 44 rfl) ?_ (fun ch hp => by simp at hp)
                  rintro _ ⟨⟩; refine jo_l (ly_ge rfl rfl) (hd 45 rfl) <| jo_nil ?_
                  refine jc_if rfl (fun h4 => ?_) (fun h4 => ?_)
                  · have hle := cmp_le h4
                    obtain ⟨hy1, hy2⟩ := hlv_yes hH hle
                    have hqb := hy1.2.2.2
                    refine zsr <| zmv rfl (hd 46 rfl) <| zmv rfl (hd 47 rfl) ?_
                    refine jo_call Try.f99 (rSub_s (R - y * q) (y * 2 ^ s) hle (by omega) (by omega)) rfl Try.func99 rfl rfl (ovL_cons rfl (ovL_cons rfl ovL_nil)) (.cons .n (.cons .n .nil)) (hd 48 rfl) ?_ (fun ch hp => by simp at hp)
                    rintro _ ⟨⟩; refine zas rfl (hd 6 rfl) <| jo_nil <| jc_region <| zmv rfl (hd 49 rfl) <| jo_l (ly_is (ly_mv rfl) (show V.i .i64 _ = V.i .i64 (s : Int) by congr 1; omega)) (hd 50 rfl) <| jo_l (ly_is (ly_shl rfl rfl (by omega) rfl) (show V.i .u64 _ = V.i .u64 (((2 ^ s : Nat) : Int)) from congrArg (V.i .u64) (bit_shl hs))) (hd 51 rfl) <| jo_l (ly_add rfl rfl (r := ((q + 2 ^ s : Nat) : Int)) (by generalize 2 ^ s = u at *; rw [wrap_u64 (by omega) (by omega)]; omega)) (hd 52 rfl) <| zas rfl (hd 9 rfl) <| jo_nil ?_
                    refine ⟨(q + 2 ^ s), ?_, rfl, cov_n 17 rfl rfl ?_⟩
                    · exact hy1
                    · exact (.cons (by show some (V.n false .u64 _) = some (V.n false .u64 _); rw [hy2]) (.cons rfl (.u (.u (.u (.u (.u (.u (.u (.u (.u (.u (.u (.u (.u (.u (.u .nil)))))))))))))))))
                  · have hno := hlv_no hH (fun hle => h4 (cmp_ge hle))
                    refine jc_skip ?_
                    refine ⟨q, ?_, rfl, cov_n 8 rfl rfl ?_⟩
                    · exact hno
                    · exact (.cons rfl (.cons rfl (.u (.u (.u (.u (.u (.u (.u (.u (.u (.u (.u (.u (.u (.u (.u .nil)))))))))))))))))
                · rintro q' hH'; refine jc_region <| zmv rfl (hd 37 rfl) <| jo_l (ly_sub rfl rfl (wrap_i64 (by omega) (by omega))) (hd 38 rfl) <| zas rfl (hd 10 rfl) <| jo_nil ?_
                  refine ⟨(s, q'), ?_, ?_, rfl, cov_n 44 rfl rfl ?_⟩
                  · exact hH'
                  · show s < s + 1
                    omega
                  · exact (.cons rfl (.cons rfl (.cons (by show some (V.i .i64 _) = some (V.i .i64 _); congr 2; omega) (.u (.u (.u (.u (.u (.u (.u (.u (.u (.u (.u (.u (.u (.u (.u (.u (.u (.u (.u .nil))))))))))))))))))))))
              · obtain rfl : t = 0 := by omega
                obtain ⟨he1, he2⟩ := hlv_end hH
                refine jc_exit ?_
                refine ⟨(), ?_, rfl, cov_n 29 rfl rfl ?_⟩
                · trivial
                · exact (.cons (by show some (V.n false .u64 _) = some (V.n false .u64 _); rw [he2]) (.cons (by show some (V.i .u64 _) = some (V.i .u64 _); rw [he1]) (.u (.u (.u (.u (.u (.u (.u (.u (.u (.u (.u (.u (.u (.u (.u (.u (.u (.u (.u (.u (.u (.u (.u (.u .nil))))))))))))))))))))))))))
          · have hlt := cmp_lt' h2
            refine jc_skip ?_
            refine ⟨(), ?_, rfl, cov_n 4 rfl rfl ?_⟩
            · trivial
            · exact (.cons (by show some (V.n false .u64 _) = some (V.n false .u64 _); rw [Nat.mod_eq_of_lt hlt]) (.cons (by show some (V.i .u64 _) = some (V.i .u64 _); rw [Nat.div_eq_of_lt hlt]; rfl) (.u (.u (.u (.u (.u (.u (.u (.u (.u (.u (.u (.u (.u (.u (.u (.u (.u (.u (.u (.u (.u (.u (.u (.u .nil))))))))))))))))))))))))))
        · rintro _ _; refine jc_region <| zmv rfl (hd 53 rfl) <| zmv rfl (hd 54 rfl) <| zmv rfl (hd 55 rfl) <| jo_l (ly_ia (i := k - 1) sl33 rfl rfl rfl (by omega) (by omega) rfl) (hd 56 rfl) <| jo_st (sy_storei rfl rfl rfl one82 (by simp only [List.length_append, List.length_replicate]; omega)) <| jo_nil <| jc_region <| zmv rfl (hd 20 rfl) <| jo_l (ly_sub rfl rfl (wrap_i64 (by omega) (by omega))) (hd 21 rfl) <| zas rfl (hd 8 rfl) <| jo_nil ?_
          refine ⟨(k - 1, ((R / y : Nat) : Int) :: Q), ?_, ?_, (by show [(⟨67, 1, 0, true, ints .u64 _⟩ : Ob)] = [⟨67, 1, 0, true, ints .u64 _⟩]; rw [dv_row (by omega)]), cov_n 91 rfl rfl ?_⟩
          · exact ⟨by show k - 1 ≤ _; omega, by rw [← hR0]; exact hQ.next h0 (by omega) hk⟩
          · show k - 1 < k
            omega
          · exact (.cons (by show some (V.n false .u64 _) = some (V.n false .u64 _); rw [(dv_digit h0 (by omega)).2, hR0]) (.cons (by show some (V.i .i64 _) = some (V.i .i64 _); congr 2; omega) (.u (.u (.u (.u (.u (.u (.u (.u (.u (.u (.u (.u (.u (.u (.u (.u (.u (.u (.u (.u (.u (.u (.u (.u (.u (.u (.u (.u (.u (.u (.u (.u (.u (.u (.u (.u (.u (.u (.u (.u (.u (.u .nil))))))))))))))))))))))))))))))))))))))))))))
      · refine js_h (hy_lit (id := 1) (xs := [.tmp 27]) el33 rfl (ovL_cons rfl ovL_nil) rfl (all2_of rfl) (by decide) rfl) (hd 28 rfl) <| ja_frz (k := .u64) (l := [((x / B32 ^ (k - 1) % B32 : Nat) : Int)]) (l' := [((x / B32 ^ (k - 1) % B32 : Nat) : Int)]) 28 rfl rfl (Nat.le_refl _) rfl hL ?_
        refine ja_1 1 ?_ rfl (by kernel_rfl)
        refine js_call Try.f98 (Shl_s (x / B32 ^ k % y) 32 (by omega) (by decide)) rfl Try.func98 rfl rfl (ovL_cons rfl (ovL_cons rfl ovL_nil)) (.cons .n (.cons .i .nil)) (hd 23 rfl) ?_ (fun ch hp => by simp at hp)
        rintro y hy; injection hy with hy; subst hy
        refine ja_1 7 ?_ rfl (by kernel_rfl)
        refine js_call Try.f95 (hNm) rfl Try.func95 rfl rfl (ovL_cons rfl ovL_nil) (.cons .n .nil) (hd 29 rfl) ?_ (fun ch hp => by simp at hp)
        rintro y hy; injection hy with hy; subst hy
        refine ja_1 8 ?_ rfl (by kernel_rfl)
        refine js_call Try.f80 (hAdd) rfl Try.func80 rfl rfl (ovL_cons rfl (ovL_cons rfl ovL_nil)) (.cons .n (.cons .n .nil)) (hd 30 rfl) ?_ (fun ch hp => by simp at hp)
        rintro _ ⟨⟩; refine zal 9 (lo_l (ly_as rfl) (hd 6 rfl)) rfl <| ja_nil (by kernel_rfl) <| zsr <| zas rfl (hd 9 rfl) <| jo_nil ?_
        refine jc_meetH (G := Unit) (fun _ => True) (fun _ => [(6, .n false .u64 (digs B32 (R % y))), (9, .i .u64 ((R / y : Nat) : Int)), (10, .u), (11, .u), (31, .u), (32, .u), (33, .u), (34, .u), (35, .u), (36, .u), (37, .u), (38, .u), (39, .u), (40, .u), (41, .u), (42, .u), (43, .u), (44, .u), (45, .u), (46, .u), (47, .u), (48, .u), (49, .u), (50, .u), (51, .u), (52, .u)]) ?_ ?_
        · refine zsr <| zmv rfl (hd 31 rfl) <| zmv rfl (hd 32 rfl) ?_
          refine jo_call Try.f88 (rCmp_s R y (by omega) (by omega)) rfl Try.func88 rfl rfl (ovL_cons rfl (ovL_cons rfl ovL_nil)) (.cons .n (.cons .n .nil)) (hd 33 rfl) ?_ (fun ch hp => by simp at hp)
          rintro _ ⟨⟩; refine jo_l (ly_ge rfl rfl) (hd 34 rfl) <| jo_nil ?_
          refine jc_if rfl (fun h5 => ?_) (fun h5 => ?_)
          · refine zsr <| zas rfl (hd 10 rfl) <| jo_nil <| jc_block ?_
            refine jc_loopF (G := Nat × Nat) (fun g => Hlv R y g.1 g.2) (fun g => [(6, .n false .u64 (digs B32 (R - y * g.2))), (9, .i .u64 (g.2 : Int)), (10, .i .i64 ((g.1 : Int) - 1)), (11, .u), (35, .u), (36, .u), (37, .u), (38, .u), (39, .u), (40, .u), (41, .u), (42, .u), (43, .u), (44, .u), (45, .u), (46, .u), (47, .u), (48, .u), (49, .u), (50, .u), (51, .u), (52, .u)]) (fun _ => _) (fun g => g.1) (32, 0) ?_ ?_ rfl ?_
            · exact hlv_0 hRb
            · exact (.cons (by show some (V.n false .u64 (digs B32 R)) = some (V.n false .u64 (digs B32 (R - y * 0))); rw [Nat.mul_zero, Nat.sub_zero]) (.cons rfl (.cons rfl (.u (.u (.u (.u (.u (.u (.u (.u (.u (.u (.u (.u (.u (.u (.u (.u (.u (.u (.u .nil))))))))))))))))))))))
            · rintro ⟨t, q⟩ hH
              dsimp only at hH
              have hlq := hlv_len (t := t) (q := q) hRb
              refine jc_seq <| zsr <| zmv rfl (hd 35 rfl) <| jo_l (ly_ge rfl rfl) (hd 36 rfl) <| jo_nil ?_
              refine jc_if rfl (fun h6 => ?_) (fun h6 => ?_)
              · obtain ⟨s, rfl⟩ : ∃ s, t = s + 1 := ⟨t - 1, by omega⟩
                have hs : s < 32 := by have := hH.1; omega
                have hls := len_ys (y := y) h0 hs
                refine jc_skip ?_
                refine jc_meetH (G := Nat) (fun g => Hlv R y s g) (fun g => [(6, .n false .u64 (digs B32 (R - y * g))), (9, .i .u64 (g : Int)), (11, .u), (39, .u), (40, .u), (41, .u), (42, .u), (43, .u), (44, .u), (45, .u), (46, .u), (47, .u), (48, .u), (49, .u), (50, .u), (51, .u), (52, .u)]) ?_ ?_
                · refine jc_block <| zsr <| zmv rfl (hd 39 rfl) <| jo_l (ly_is (ly_mv rfl) (show V.i .i64 _ = V.i .i64 (s : Int) by congr 1; omega)) (hd 40 rfl) ?_
                  refine jo_call Try.f98 (Shl_s y s (by omega) (by omega)) rfl Try.func98 rfl rfl (ovL_cons rfl (ovL_cons rfl ovL_nil)) (.cons .n (.cons .i .nil)) (hd 41 rfl) ?_ (fun ch hp => by simp at hp)
                  rintro _ ⟨⟩; refine zas rfl (hd 11 rfl) <| jo_nil <| zsr <| zmv rfl (hd 42 rfl) <| zmv rfl (hd 43 rfl) ?_
                  refine jo_call Try.f88 (rCmp_s (R - y * q) (y * 2 ^ s) (by omega) (by omega)) rfl Try.func88 rfl rfl (ovL_cons rfl (ovL_cons rfl ovL_nil)) (.cons .n (.cons .n .nil)) (hd 44 rfl) ?_ (fun ch hp => by simp at hp)
                  rintro _ ⟨⟩; refine jo_l (ly_ge rfl rfl) (hd 45 rfl) <| jo_nil ?_
                  refine jc_if rfl (fun h7 => ?_) (fun h7 => ?_)
                  · have hle := cmp_le h7
                    obtain ⟨hy1, hy2⟩ := hlv_yes hH hle
                    have hqb := hy1.2.2.2
                    refine zsr <| zmv rfl (hd 46 rfl) <| zmv rfl (hd 47 rfl) ?_
                    refine jo_call Try.f99 (rSub_s (R - y * q) (y * 2 ^ s) hle (by omega) (by omega)) rfl Try.func99 rfl rfl (ovL_cons rfl (ovL_cons rfl ovL_nil)) (.cons .n (.cons .n .nil)) (hd 48 rfl) ?_ (fun ch hp => by simp at hp)
                    rintro _ ⟨⟩; refine zas rfl (hd 6 rfl) <| jo_nil <| jc_region <| zmv rfl (hd 49 rfl) <| jo_l (ly_is (ly_mv rfl) (show V.i .i64 _ = V.i .i64 (s : Int) by congr 1; omega)) (hd 50 rfl) <| jo_l (ly_is (ly_shl rfl rfl (by omega) rfl) (show V.i .u64 _ = V.i .u64 (((2 ^ s : Nat) : Int)) from congrArg (V.i .u64) (bit_shl hs))) (hd 51 rfl) <| jo_l (ly_add rfl rfl (r := ((q + 2 ^ s : Nat) : Int)) (by generalize 2 ^ s = u at *; rw [wrap_u64 (by omega) (by omega)]; omega)) (hd 52 rfl) <| zas rfl (hd 9 rfl) <| jo_nil ?_
                    refine ⟨(q + 2 ^ s), ?_, rfl, cov_n 17 rfl rfl ?_⟩
                    · exact hy1
                    · exact (.cons (by show some (V.n false .u64 _) = some (V.n false .u64 _); rw [hy2]) (.cons rfl (.u (.u (.u (.u (.u (.u (.u (.u (.u (.u (.u (.u (.u (.u (.u .nil)))))))))))))))))
                  · have hno := hlv_no hH (fun hle => h7 (cmp_ge hle))
                    refine jc_skip ?_
                    refine ⟨q, ?_, rfl, cov_n 8 rfl rfl ?_⟩
                    · exact hno
                    · exact (.cons rfl (.cons rfl (.u (.u (.u (.u (.u (.u (.u (.u (.u (.u (.u (.u (.u (.u (.u .nil)))))))))))))))))
                · rintro q' hH'; refine jc_region <| zmv rfl (hd 37 rfl) <| jo_l (ly_sub rfl rfl (wrap_i64 (by omega) (by omega))) (hd 38 rfl) <| zas rfl (hd 10 rfl) <| jo_nil ?_
                  refine ⟨(s, q'), ?_, ?_, rfl, cov_n 44 rfl rfl ?_⟩
                  · exact hH'
                  · show s < s + 1
                    omega
                  · exact (.cons rfl (.cons rfl (.cons (by show some (V.i .i64 _) = some (V.i .i64 _); congr 2; omega) (.u (.u (.u (.u (.u (.u (.u (.u (.u (.u (.u (.u (.u (.u (.u (.u (.u (.u (.u .nil))))))))))))))))))))))
              · obtain rfl : t = 0 := by omega
                obtain ⟨he1, he2⟩ := hlv_end hH
                refine jc_exit ?_
                refine ⟨(), ?_, rfl, cov_n 29 rfl rfl ?_⟩
                · trivial
                · exact (.cons (by show some (V.n false .u64 _) = some (V.n false .u64 _); rw [he2]) (.cons (by show some (V.i .u64 _) = some (V.i .u64 _); rw [he1]) (.u (.u (.u (.u (.u (.u (.u (.u (.u (.u (.u (.u (.u (.u (.u (.u (.u (.u (.u (.u (.u (.u (.u (.u .nil))))))))))))))))))))))))))
          · have hlt := cmp_lt' h5
            refine jc_skip ?_
            refine ⟨(), ?_, rfl, cov_n 4 rfl rfl ?_⟩
            · trivial
            · exact (.cons (by show some (V.n false .u64 _) = some (V.n false .u64 _); rw [Nat.mod_eq_of_lt hlt]) (.cons (by show some (V.i .u64 _) = some (V.i .u64 _); rw [Nat.div_eq_of_lt hlt]; rfl) (.u (.u (.u (.u (.u (.u (.u (.u (.u (.u (.u (.u (.u (.u (.u (.u (.u (.u (.u (.u (.u (.u (.u (.u .nil))))))))))))))))))))))))))
        · rintro _ _; refine jc_region <| zmv rfl (hd 53 rfl) <| zmv rfl (hd 54 rfl) <| zmv rfl (hd 55 rfl) <| jo_l (ly_ia (i := k - 1) sl33 rfl rfl rfl (by omega) (by omega) rfl) (hd 56 rfl) <| jo_st (sy_storei rfl rfl rfl one82 (by simp only [List.length_append, List.length_replicate]; omega)) <| jo_nil <| jc_region <| zmv rfl (hd 20 rfl) <| jo_l (ly_sub rfl rfl (wrap_i64 (by omega) (by omega))) (hd 21 rfl) <| zas rfl (hd 8 rfl) <| jo_nil ?_
          refine ⟨(k - 1, ((R / y : Nat) : Int) :: Q), ?_, ?_, (by show [(⟨67, 1, 0, true, ints .u64 _⟩ : Ob)] = [⟨67, 1, 0, true, ints .u64 _⟩]; rw [dv_row (by omega)]), cov_n 91 rfl rfl ?_⟩
          · exact ⟨by show k - 1 ≤ _; omega, by rw [← hR0]; exact hQ.next h0 (by omega) hk⟩
          · show k - 1 < k
            omega
          · exact (.cons (by show some (V.n false .u64 _) = some (V.n false .u64 _); rw [(dv_digit h0 (by omega)).2, hR0]) (.cons (by show some (V.i .i64 _) = some (V.i .i64 _); congr 2; omega) (.u (.u (.u (.u (.u (.u (.u (.u (.u (.u (.u (.u (.u (.u (.u (.u (.u (.u (.u (.u (.u (.u (.u (.u (.u (.u (.u (.u (.u (.u (.u (.u (.u (.u (.u (.u (.u (.u (.u (.u (.u (.u .nil))))))))))))))))))))))))))))))))))))))))))))
    · obtain rfl : k = 0 := by omega
      refine jc_exit <| zsr <| jo_frz (k := .u64) (l := List.replicate 0 0 ++ Q) (l' := Q) 7 rfl rfl (by have := hQ.l; simp only [List.length_append, List.length_replicate]; omega) (by have := hQ.l; rw [List.drop_zero]; show List.take _ Q = _; rw [List.take_of_length_le (by omega)]) hL <| zmv rfl (hd 57 rfl) ?_
      refine jo_call Try.f95 (rnorm_s Q (by have := hQ.l; omega)) rfl Try.func95 rfl rfl (ovL_cons rfl ovL_nil) (.cons .n .nil) (hd 58 rfl) ?_ (fun ch hp => by simp at hp)
      rintro _ ⟨⟩; refine zmv rfl (hd 59 rfl) <| zas rfl (hd 4 rfl) <| zas rfl (hd 5 rfl) <| jo_nil <| jc_ret ?_
      refine ⟨_, _, (.cons rfl (.cons rfl .nil)), (.t1 .n (.t1 .n .t0)), ?_⟩
      rw [hQ.fin, Nat.pow_zero, Nat.div_one]






def lx_cls (b : Int) : Int :=
  if b = 9 ∨ b = 10 ∨ b = 13 ∨ b = 32 then 1
  else if 48 ≤ b ∧ b ≤ 57 then 2
  else if 97 ≤ b ∧ b ≤ 122 then 3
  else if b = 40 ∨ b = 41 ∨ b = 44 ∨ b = 43 ∨ b = 45 ∨ b = 42 ∨ b = 47 then 4
  else 0
def lx_tblI : List Int := (List.range 256).map fun (b : Nat) => lx_cls (b : Int)
def lx_tbl : List V := ints .i64 lx_tblI
theorem lx_tbl_at {b : Int} (h0 : 0 ≤ b) (h1 : b < 256) : (lx_tbl.drop (b.toNat * 1))[0]? = some (.i .i64 (lx_cls b)) := by
  have : b.toNat < 256 := by omega
  rw [Nat.mul_one, List.getElem?_drop, Nat.add_zero]
  unfold lx_tbl
  rw [ints_at]
  unfold lx_tblI
  rw [List.getElem?_map, List.getElem?_range this]
  show some (V.i IntKind.i64 (lx_cls (b.toNat : Int))) = _
  rw [Int.toNat_of_nonneg h0]
theorem lx_tbl_len : lx_tbl.length = 256 := by simp [lx_tbl, lx_tblI, ints_length]
def lx_setAll (l : List Int) (bs : List Int) (v : Int) : List Int := bs.foldl (fun l b => l.set b.toNat v) l
theorem lx_setAll_length (bs : List Int) (v : Int) : ∀ l : List Int, (lx_setAll l bs v).length = l.length := by
  induction bs with
  | nil => intro l; rfl
  | cons b bs ih => intro l; show (lx_setAll (l.set b.toNat v) bs v).length = _; rw [ih, List.length_set]
theorem lx_setAll_take {l bs : List Int} {v : Int} {i : Nat} (h : i < bs.length) : lx_setAll l (bs.take (i + 1)) v = (lx_setAll l (bs.take i) v).set (bs.getD i 0).toNat v := by
  have e : bs.getD i 0 = bs[i] := by rw [List.getD_eq_getElem?_getD, List.getElem?_eq_getElem h]; rfl
  rw [e]
  unfold lx_setAll
  rw [List.take_succ_eq_append_getElem h, List.foldl_append]
  rfl
def lx_z256 : List Int := List.replicate 256 0
def lx_blks : List Int := [9, 10, 13, 32]
def lx_dgts : List Int := [48, 49, 50, 51, 52, 53, 54, 55, 56, 57]
def lx_lets : List Int := [97, 98, 99, 100, 101, 102, 103, 104, 105, 106, 107, 108, 109, 110, 111, 112, 113, 114, 115, 116, 117, 118, 119, 120, 121, 122]
def lx_sgns : List Int := [40, 41, 44, 43, 45, 42, 47]
theorem lx_all_classes : lx_setAll (lx_setAll (lx_setAll (lx_setAll lx_z256 (lx_blks.take 4) 1) (lx_dgts.take 10) 2) (lx_lets.take 26) 3) (lx_sgns.take 7) 4 = lx_tblI := by kernel_rfl
theorem lx_z256_len : lx_z256.length = 256 := List.length_replicate
theorem lx_z256_cV : (List.replicate 256 (Value.int .i64 0)).map cV = ints .i64 lx_z256 := by unfold ints lx_z256; rw [List.map_replicate, List.map_replicate]; rfl
theorem lx_blks_in {i : Nat} (h : i < 4) : 0 ≤ lx_blks.getD i 0 ∧ (lx_blks.getD i 0).toNat < 256 := by
  match i, h with | 0, _ => decide | 1, _ => decide | 2, _ => decide | 3, _ => decide
theorem lx_sgns_in {i : Nat} (h : i < 7) : 0 ≤ lx_sgns.getD i 0 ∧ (lx_sgns.getD i 0).toNat < 256 := by
  match i, h with | 0, _ => decide | 1, _ => decide | 2, _ => decide | 3, _ => decide | 4, _ => decide | 5, _ => decide | 6, _ => decide
theorem lx_dgts_at {i : Nat} (h : i < 10) : lx_dgts.getD i 0 = 48 + (i : Int) := by
  match i, h with | 0, _ => decide | 1, _ => decide | 2, _ => decide | 3, _ => decide | 4, _ => decide | 5, _ => decide | 6, _ => decide | 7, _ => decide | 8, _ => decide | 9, _ => decide
theorem lx_lets_at {i : Nat} (h : i < 26) : lx_lets.getD i 0 = 97 + (i : Int) := by
  have : ∀ j : Fin 26, lx_lets.getD j.val 0 = 97 + (j.val : Int) := by decide
  exact this ⟨i, h⟩
def lx_runN (s : ByteArray) (c : Int) (i : Nat) : Nat :=
  if i < s.size ∧ lx_cls (byteAt s i) = c then lx_runN s c (i + 1) else i
termination_by s.size - i
theorem lx_runN_end {s : ByteArray} {c : Int} {i : Nat} (h : ¬ (i < s.size ∧ lx_cls (byteAt s i) = c)) : lx_runN s c i = i := by rw [lx_runN, if_neg h]
theorem lx_runN_step {s : ByteArray} {c : Int} {i : Nat} (h : i < s.size) (h2 : lx_cls (byteAt s i) = c) : lx_runN s c i = lx_runN s c (i + 1) := by rw [lx_runN, if_pos ⟨h, h2⟩]
theorem lx_runN_ge (s : ByteArray) (c : Int) (i : Nat) : i ≤ lx_runN s c i := by
  induction i using lx_runN.induct s c with
  | case1 i h ih => rw [lx_runN, if_pos h]; omega
  | case2 i h => rw [lx_runN, if_neg h]; exact Nat.le_refl _
theorem lx_runN_le (s : ByteArray) (c : Int) (i : Nat) (hi : i ≤ s.size) : lx_runN s c i ≤ s.size := by
  induction i using lx_runN.induct s c with
  | case1 i h ih => rw [lx_runN, if_pos h]; exact ih (by omega)
  | case2 i h => rw [lx_runN, if_neg h]; exact hi
def lx_numEnd (s : ByteArray) (j : Nat) : Nat :=
  if lx_runN s 2 j + 1 < s.size ∧ byteAt s (lx_runN s 2 j) = 46 ∧ lx_cls (byteAt s (lx_runN s 2 j + 1)) = 2 then lx_runN s 2 (lx_runN s 2 j + 1) else lx_runN s 2 j
def lx_nx (s : ByteArray) (p : Nat) : Int × ByteArray × Nat × Nat × Bool :=
  if lx_runN s 1 p = s.size then (3, .empty, lx_runN s 1 p, lx_runN s 1 p, true)
  else if lx_cls (byteAt s (lx_runN s 1 p)) = 4 then (2, s.extract (lx_runN s 1 p) (lx_runN s 1 p + 1), lx_runN s 1 p, lx_runN s 1 p + 1, true)
  else if lx_cls (byteAt s (lx_runN s 1 p)) = 3 then (1, s.extract (lx_runN s 1 p) (lx_runN s 3 (lx_runN s 1 p)), lx_runN s 1 p, lx_runN s 3 (lx_runN s 1 p), true)
  else if lx_cls (byteAt s (lx_runN s 1 p)) = 2 then (0, s.extract (lx_runN s 1 p) (lx_numEnd s (lx_runN s 1 p)), lx_runN s 1 p, lx_numEnd s (lx_runN s 1 p), true)
  else (0, .empty, 0, lx_runN s 1 p, false)
def lx_nxV (x : Int × ByteArray × Nat × Nat × Bool) : V := .t [.a [.i .i64 x.1, .s x.2.1, .i .i64 (x.2.2.1 : Int)], .i .i64 (x.2.2.2.1 : Int), .b x.2.2.2.2]
theorem lx_nx_end {s : ByteArray} {p j : Nat} (hj : lx_runN s 1 p = j) (h : j = s.size) : lx_nx s p = (3, .empty, j, j, true) := by
  unfold lx_nx; rw [hj, if_pos h]
theorem lx_nx_sign {s : ByteArray} {p j : Nat} (hj : lx_runN s 1 p = j) (h : ¬ j = s.size) (h1 : lx_cls (byteAt s j) = 4) : lx_nx s p = (2, s.extract j (j + 1), j, j + 1, true) := by
  unfold lx_nx; rw [hj, if_neg h, if_pos h1]
theorem lx_nx_word {s : ByteArray} {p j : Nat} (hj : lx_runN s 1 p = j) (h : ¬ j = s.size) (h1 : lx_cls (byteAt s j) = 3) : lx_nx s p = (1, s.extract j (lx_runN s 3 j), j, lx_runN s 3 j, true) := by
  unfold lx_nx; rw [hj, if_neg h, if_neg (by rw [h1]; decide), if_pos h1]
theorem lx_nx_num {s : ByteArray} {p j e : Nat} (hj : lx_runN s 1 p = j) (h : ¬ j = s.size) (h1 : lx_cls (byteAt s j) = 2) (he : lx_numEnd s j = e) : lx_nx s p = (0, s.extract j e, j, e, true) := by
  unfold lx_nx; rw [hj, if_neg h, if_neg (by rw [h1]; decide), if_neg (by rw [h1]; decide), if_pos h1, he]
theorem lx_nx_bad {s : ByteArray} {p j : Nat} (hj : lx_runN s 1 p = j) (h : ¬ j = s.size) (h1 : ¬ lx_cls (byteAt s j) = 4) (h2 : ¬ lx_cls (byteAt s j) = 3) (h3 : ¬ lx_cls (byteAt s j) = 2) : lx_nx s p = (0, .empty, 0, j, false) := by
  unfold lx_nx; rw [hj, if_neg h, if_neg h1, if_neg h2, if_neg h3]
theorem lx_numEnd_dot {s : ByteArray} {j : Nat} (h1 : lx_runN s 2 j + 1 < s.size) (h2 : byteAt s (lx_runN s 2 j) = 46) (h3 : lx_cls (byteAt s (lx_runN s 2 j + 1)) = 2) : lx_numEnd s j = lx_runN s 2 (lx_runN s 2 j + 1) := by
  unfold lx_numEnd; rw [if_pos ⟨h1, h2, h3⟩]
theorem lx_numEnd_no {s : ByteArray} {j : Nat} (h : ¬ (lx_runN s 2 j + 1 < s.size ∧ byteAt s (lx_runN s 2 j) = 46 ∧ lx_cls (byteAt s (lx_runN s 2 j + 1)) = 2)) : lx_numEnd s j = lx_runN s 2 j := by
  unfold lx_numEnd; rw [if_neg h]
theorem lx_tbl_set : setV (List.map cV (List.replicate 256 (Value.int .i64 0))) 0 lx_tbl = lx_tbl := setV_all _ _ (by rw [List.length_map, List.length_replicate, lx_tbl_len])
theorem lx_jc_tbl {P : Program} {Γ : Ctx} {F : Fr} {H : List Ob} {Q : Exit → Fr → List Ob → Prop} {c : Code} (t : Nat) {id T sz ver : Nat} (hx : getO F t = some (.p id ver 0)) (hH : H[id]? = some ⟨T, sz, ver, true, setV (List.map cV (List.replicate 256 (Value.int .i64 0))) 0 lx_tbl⟩) (hp : ∀ b, ¬ Γ.L0 b)
    (j : JC P c Γ ((t, .q lx_tbl) :: F) (deadAt H id) Q) : JC P c Γ F H Q := jc_frzp t hx hH (by rw [lx_tbl_set]; exact ints_pure) (by rw [lx_tbl_set]; rfl) hp j
theorem lx_tbl_fit : 0 + 256 ≤ (List.map cV (List.replicate 256 (Value.int .i64 0))).length := by rw [List.length_map, List.length_replicate]; exact Nat.le_refl _
def lx_s2pi : ByteArray := ⟨#[50, 42, 112, 105]⟩
def lx_tok0 : V := .a [.i .i64 0, .s .empty, .i .i64 0]
def lx_NextV (s : ByteArray) (q : Int) : V :=
  if q < 0 ∨ (s.size : Int) < q then .t [lx_tok0, .i .i64 0, .i .i64 1]
  else if (lx_nx s q.toNat).2.2.2.2 = true then .t [.a [.i .i64 (lx_nx s q.toNat).1, .s (lx_nx s q.toNat).2.1, .i .i64 ((lx_nx s q.toNat).2.2.1 : Int)], .i .i64 ((lx_nx s q.toNat).2.2.2.1 : Int), .i .i64 0]
  else .t [lx_tok0, .i .i64 ((lx_nx s q.toNat).2.2.2.1 : Int), .i .i64 140]
theorem lx_runN_gt {s : ByteArray} {c : Int} {i : Nat} (h : i < s.size) (h2 : lx_cls (byteAt s i) = c) : i < lx_runN s c i := by
  rw [lx_runN_step h h2]; have := lx_runN_ge s c (i + 1); omega
theorem lx_numEnd_ge (s : ByteArray) (j : Nat) : lx_runN s 2 j ≤ lx_numEnd s j := by
  unfold lx_numEnd; split
  · have := lx_runN_ge s 2 (lx_runN s 2 j + 1); omega
  · exact Nat.le_refl _
theorem lx_numEnd_le (s : ByteArray) (j : Nat) (h : j ≤ s.size) : lx_numEnd s j ≤ s.size := by
  unfold lx_numEnd; split
  · rename_i h; exact lx_runN_le s 2 _ (by omega)
  · exact lx_runN_le s 2 _ h
theorem lx_nx_le (s : ByteArray) (p : Nat) (hp : p ≤ s.size) : p ≤ (lx_nx s p).2.2.2.1 ∧ (lx_nx s p).2.2.2.1 ≤ s.size := by
  have h1 := lx_runN_ge s 1 p
  have h2 := lx_runN_le s 1 p hp
  have h3 := lx_runN_ge s 3 (lx_runN s 1 p)
  have h4 := lx_runN_le s 3 _ h2
  have h5 := lx_runN_ge s 2 (lx_runN s 1 p)
  have h6 := lx_numEnd_ge s (lx_runN s 1 p)
  have h7 := lx_numEnd_le s (lx_runN s 1 p) h2
  unfold lx_nx
  (repeat' split) <;> simp only <;> omega
theorem lx_nx_lt (s : ByteArray) (p : Nat) (hp : p ≤ s.size) (hok : (lx_nx s p).2.2.2.2 = true) (hk : (lx_nx s p).1 ≠ 3) : p < (lx_nx s p).2.2.2.1 := by
  have h1 := lx_runN_ge s 1 p
  have h2 := lx_runN_le s 1 p hp
  revert hok hk
  unfold lx_nx
  split
  · intro _ h; simp at h
  · rename_i hne
    split
    · intro _ _; simp only; omega
    · split
      · rename_i h; intro _ _; simp only; have := lx_runN_gt (by omega) h; omega
      · split
        · rename_i h; intro _ _; simp only; have := lx_runN_gt (by omega) h; have := lx_numEnd_ge s (lx_runN s 1 p); omega
        · intro h; simp at h
abbrev lx_Tok := Int × ByteArray × Nat
def lx_tokRow (t : lx_Tok) : List V := [.i .i64 t.1, .s t.2.1, .i .i64 (t.2.2 : Int)]
def lx_lexGo (s : ByteArray) (p : Nat) : List lx_Tok × Option Nat :=
  if (lx_nx s p).2.2.2.2 = false then ([], some (lx_nx s p).2.2.2.1)
  else if (lx_nx s p).1 = 3 then ([], none)
  else if h : p < (lx_nx s p).2.2.2.1 ∧ (lx_nx s p).2.2.2.1 ≤ s.size then (((lx_nx s p).1, (lx_nx s p).2.1, (lx_nx s p).2.2.1) :: (lx_lexGo s (lx_nx s p).2.2.2.1).1, (lx_lexGo s (lx_nx s p).2.2.2.1).2)
  else ([], none)
termination_by s.size - p
theorem lx_lexGo_bad {s : ByteArray} {p : Nat} (h : (lx_nx s p).2.2.2.2 = false) : lx_lexGo s p = ([], some (lx_nx s p).2.2.2.1) := by rw [lx_lexGo, if_pos h]
theorem lx_lexGo_end {s : ByteArray} {p : Nat} (h : (lx_nx s p).2.2.2.2 = true) (h1 : (lx_nx s p).1 = 3) : lx_lexGo s p = ([], none) := by rw [lx_lexGo, if_neg (by rw [h]; simp), if_pos h1]
theorem lx_lexGo_more {s : ByteArray} {p : Nat} (hp : p ≤ s.size) (h : (lx_nx s p).2.2.2.2 = true) (h1 : (lx_nx s p).1 ≠ 3) : lx_lexGo s p = (((lx_nx s p).1, (lx_nx s p).2.1, (lx_nx s p).2.2.1) :: (lx_lexGo s (lx_nx s p).2.2.2.1).1, (lx_lexGo s (lx_nx s p).2.2.2.1).2) := by
  rw [lx_lexGo, if_neg (by rw [h]; simp), if_neg h1, dif_pos ⟨lx_nx_lt s p hp h h1, (lx_nx_le s p hp).2⟩]
def lx_rowsV (l : List lx_Tok) : V := .l true 3 (l.map lx_tokRow)
def lx_LexV (s : ByteArray) : V :=
  match lx_lexGo s 0 with
  | (l, none) => .t [lx_rowsV l, .i .i64 0, .i .i64 0]
  | (_, some p) => .t [lx_rowsV [], .i .i64 (p : Int), .i .i64 140]
theorem lx_tok_len (l : List lx_Tok) : ∀ r ∈ l.map lx_tokRow, r.length = 3 := fun r h => by
  obtain ⟨t, _, rfl⟩ := List.mem_map.1 h; rfl
theorem lx_tok_pure (l : List lx_Tok) : ∀ r ∈ l.map lx_tokRow, r.all pureV = true := fun r h => by
  obtain ⟨t, _, rfl⟩ := List.mem_map.1 h; rfl
theorem lx_tok_flat (l : List lx_Tok) : (l.map lx_tokRow).flatten.length = l.length * 3 := by
  induction l with
  | nil => rfl
  | cons t l ih => rw [List.map_cons, List.flatten_cons, List.length_append, ih]; simp [lx_tokRow]; omega
theorem lx_tok_id (n : Nat) (l : List lx_Tok) : (l.map lx_tokRow).flatten.all (idB n) = true := by
  induction l with
  | nil => rfl
  | cons t l ih => rw [List.map_cons, List.flatten_cons, List.all_append, ih]; rfl
theorem lx_tok_snoc (l : List lx_Tok) (t : lx_Tok) : ((l ++ [t]).map lx_tokRow).flatten = (l.map lx_tokRow).flatten ++ lx_tokRow t := by simp
theorem lx_r2pi : lx_runN lx_s2pi 1 0 = 0 ∧ lx_runN lx_s2pi 1 1 = 1 ∧ lx_runN lx_s2pi 1 2 = 2 ∧ lx_runN lx_s2pi 1 4 = 4 ∧ lx_runN lx_s2pi 2 0 = 1 ∧ lx_runN lx_s2pi 3 2 = 4 := by
  refine ⟨lx_runN_end (by decide), lx_runN_end (by decide), lx_runN_end (by decide), lx_runN_end (by decide), ?_, ?_⟩
  · rw [lx_runN_step (by decide) (by decide)]; exact lx_runN_end (by decide)
  · rw [lx_runN_step (by decide) (by decide), lx_runN_step (by decide) (by decide)]; exact lx_runN_end (by decide)
def lx_l2pi : List lx_Tok := [(0, ⟨#[50]⟩, 0), (2, ⟨#[42]⟩, 1), (1, ⟨#[112, 105]⟩, 2)]
theorem lx_lex_2pi : lx_lexGo lx_s2pi 0 = (lx_l2pi, none) := by
  obtain ⟨h1, h2, h3, h4, h5, h6⟩ := lx_r2pi
  have e0 : lx_numEnd lx_s2pi 0 = 1 := by rw [lx_numEnd_no (by rw [h5]; decide), h5]
  have n0 : lx_nx lx_s2pi 0 = (0, ⟨#[50]⟩, 0, 1, true) := by rw [lx_nx_num h1 (by decide) (by decide) e0]; rfl
  have n1 : lx_nx lx_s2pi 1 = (2, ⟨#[42]⟩, 1, 2, true) := by rw [lx_nx_sign h2 (by decide) (by decide)]; rfl
  have n2 : lx_nx lx_s2pi 2 = (1, ⟨#[112, 105]⟩, 2, 4, true) := by rw [lx_nx_word h3 (by decide) (by decide), h6]; rfl
  have n4 : lx_nx lx_s2pi 4 = (3, .empty, 4, 4, true) := lx_nx_end h4 (by decide)
  rw [lx_lexGo_more (by decide) (by rw [n0]) (by rw [n0]; decide), n0, lx_lexGo_more (by decide) (by rw [n1]) (by rw [n1]; decide), n1, lx_lexGo_more (by decide) (by rw [n2]) (by rw [n2]; decide), n2, lx_lexGo_end (by rw [n4]) (by rw [n4])]
  rfl
def lx_refV (x : Int × ByteArray × Nat × Nat × Bool) : V := .t [.a [.i .i64 x.1, .s x.2.1, .i .i64 (x.2.2.1 : Int)], .i .i64 (x.2.2.2.1 : Int), .i .i64 (if x.2.2.2.2 = true then 0 else 140)]
def lx_GoodV (s : ByteArray) : V :=
  match lx_lexGo s 0 with
  | (l, none) => .t [lx_rowsV l, .i .i64 0, .i .i64 0]
  | (l, some p) => .t [lx_rowsV l, .i .i64 (p : Int), .i .i64 140]

theorem lx_num_s (n : Int) : Spec Try.prog 37 [.i .i64 n] (fun o => o = .ret (.i .i64 n)) := by
  refine spec_of' [(0, .i .i64 n)] rfl Try.func37 rfl (zlb rfl) fun Γ hN hds hL hR => ?_
  have hd := hdOf 4 hN
  refine zsr <| zas rfl (hd 2 rfl) <| jo_nil <| zsr <| zmv rfl (hd 3 rfl) <| zas rfl (hd 2 rfl) <| jo_nil <| jc_ret ?_
  refine ⟨_, _, (.cons rfl .nil), .i, ?_⟩
  exact rfl

theorem lx_digit_s (b : Int) : Spec Try.prog 120 [.i .u8 b] (fun o => o = .ret (.b (decide (48 ≤ b ∧ b ≤ 57)))) := by
  refine spec_of' [(0, .i .u8 b)] rfl Try.func120 rfl (zlb rfl) fun Γ hN hds hL hR => ?_
  have hd := hdOf 9 hN
  refine zsr <| zas rfl (hd 2 rfl) <| jo_nil <| zsr <| zmv rfl (hd 3 rfl) <| jo_l (ly_ge rfl rfl) (hd 4 rfl) <| zmv rfl (hd 5 rfl) ?_
  refine jo_ifp 5 rfl (fun h1 => ?_) (fun h1 => ?_)
  · refine jo_g 5 rfl rfl (ly_mv rfl) (hd 6 rfl) <| jo_g 5 rfl rfl (ly_le rfl rfl) (hd 7 rfl) <| jo_l (ly_pick_t rfl rfl) (hd 8 rfl) <| zas rfl (hd 2 rfl) <| jo_nil <| jc_ret ?_
    refine ⟨_, _, (.cons rfl .nil), .b, ?_⟩
    first | (simp_all; done) | (simp_all; omega)
  · refine jo_s 5 rfl rfl rfl (hd 6 rfl) <| jo_s 5 rfl rfl rfl (hd 7 rfl) <| jo_l (ly_pick_f rfl rfl) (hd 8 rfl) <| zas rfl (hd 2 rfl) <| jo_nil <| jc_ret ?_
    refine ⟨_, _, (.cons rfl .nil), .b, ?_⟩
    first | (simp_all; done) | (simp_all; omega)


theorem lx_run_s (s : ByteArray) (j : Nat) (c : Int) (hj : j ≤ s.size) (hs : s.size < 4611686018427387904) : Spec Try.prog 119 [.q lx_tbl, .s s, .i .i64 (j : Int), .i .i64 c] (fun o => o = .ret (.i .i64 (lx_runN s c j : Int))) := by
  refine spec_of' [(0, .q lx_tbl), (1, .s s), (2, .i .i64 (j : Int)), (3, .i .i64 c)] rfl Try.func119 rfl (zlb rfl) fun Γ hN hds hL hR => ?_
  have hd := hdOf 27 hN
  refine zsr <| zas rfl (hd 8 rfl) <| jo_nil <| jc_seq <| jc_block ?_
  refine jc_loopF (G := Nat) (fun k => j ≤ k ∧ k ≤ s.size ∧ lx_runN s c k = lx_runN s c j) (fun k => [(2, .i .i64 (k : Int)), (9, .u), (10, .u), (11, .u), (12, .u), (13, .u), (14, .u), (15, .u), (16, .u), (17, .u), (18, .u), (19, .u), (20, .u), (21, .u), (22, .u), (23, .u), (24, .u), (25, .u)]) (fun _ => _) (fun k => s.size - k) j ?_ ?_ rfl ?_
  · exact ⟨Nat.le_refl _, hj, rfl⟩
  · exact (.cons rfl (.u (.u (.u (.u (.u (.u (.u (.u (.u (.u (.u (.u (.u (.u (.u (.u (.u .nil))))))))))))))))))
  · rintro k ⟨hc1, hc2, hc3⟩; refine jc_seq <| jc_seq <| jc_draw (n := 15) _ rfl mixed <| zal2 0 [3, 4, 5, 6, 7, 8, 9, 10, 11, 12, 13, 14] (lo_l (ly_mv rfl) (hd 9 rfl)) rfl <| zal2 1 [2, 3, 4, 5, 6, 7, 8, 9, 10, 11, 12, 13, 14] (lo_l (ly_mv rfl) (hd 10 rfl)) rfl <| zal2 2 [3, 4, 5, 6, 7, 8, 9, 10, 11, 12, 13, 14] (lo_l (ly_lens und9 rfl) (hd 11 rfl)) rfl <| zal2 3 [4, 5, 6, 7, 8, 9, 10, 11, 12, 13, 14] (lo_l (ly_lt rfl rfl) (hd 12 rfl)) rfl <| zal 4 (lo_l (ly_mv rfl) (hd 13 rfl)) rfl ?_
    refine ja_ifp 13 rfl (fun h1 => ?_) (fun h1 => ?_)
    · refine zal2 5 [9, 10, 11, 13, 14] (lo_g 13 rfl rfl (ly_mv rfl) (hd 14 rfl)) rfl <| zal2 6 [8, 10, 11, 13, 14] (lo_g 13 rfl rfl (ly_mv rfl) (hd 15 rfl)) rfl <| zal2 7 [8, 10, 11, 13, 14] (lo_g 13 rfl rfl (ly_mv rfl) (hd 16 rfl)) rfl <| zal2 8 [10, 11, 13, 14] (lo_g 13 rfl rfl (ly_ixs (i := k) und9 rfl rfl (by first | rfl | omega) (by omega)) (hd 17 rfl)) rfl <| zal2 9 [10, 11, 13, 14] (lo_g 13 rfl rfl (ly_nilq rfl) (hd 18 rfl)) rfl <| zal2 10 [11, 13, 14] (lo_g 13 rfl rfl (ly_iaq (i := (byteAt s k).toNat) ar1110 rfl rfl (by have := byteAt_range s k; omega) (by have := byteAt_range s k; omega) rfl) (hd 19 rfl)) rfl <| zal 11 (lo_g 13 rfl rfl (ly_ldqz one1109 rfl (lx_tbl_at (byteAt_range s k).1 (byteAt_range s k).2) rfl) (hd 20 rfl)) rfl <| zal2 12 [13, 14] (lo_g 13 rfl rfl (ly_mv rfl) (hd 21 rfl)) rfl <| zal 13 (lo_g 13 rfl rfl (ly_eq rfl rfl) (hd 22 rfl)) rfl <| zal 14 (lo_l (ly_pick_t rfl rfl) (hd 23 rfl)) rfl <| ja_nil (by kernel_rfl) ?_
      refine jc_if rfl (fun h2 => ?_) (fun h2 => ?_)
      · refine jc_skip <| jc_block <| jc_region <| zmv rfl (hd 24 rfl) <| jo_l (ly_add rfl rfl (wrap_i64 (by omega) (by omega))) (hd 25 rfl) <| zas rfl (hd 2 rfl) <| jo_nil ?_
        refine ⟨k + 1, ?_, ?_, rfl, cov_n 37 rfl rfl ?_⟩
        · exact ⟨by omega, by omega, by rw [← hc3, ← lx_runN_step (by omega) ‹_›]⟩
        · omega
        · exact (.cons rfl (.u (.u (.u (.u (.u (.u (.u (.u (.u (.u (.u (.u (.u (.u (.u (.u (.u .nil))))))))))))))))))
      · refine jc_exit <| zsr <| zmv rfl (hd 26 rfl) <| zas rfl (hd 8 rfl) <| jo_nil <| jc_ret ?_
        refine ⟨_, _, (.cons rfl .nil), .i, ?_⟩
        rw [← hc3, lx_runN_end (by rintro ⟨a, b⟩; first | omega | (simp_all; done))]
    · refine zal2 5 [9, 10, 11, 13, 14] (lo_s 13 rfl rfl rfl (hd 14 rfl)) rfl <| zal2 6 [8, 10, 11, 13, 14] (lo_s 13 rfl rfl rfl (hd 15 rfl)) rfl <| zal2 7 [8, 10, 11, 13, 14] (lo_s 13 rfl rfl rfl (hd 16 rfl)) rfl <| zal2 8 [10, 11, 13, 14] (lo_s 13 rfl rfl rfl (hd 17 rfl)) rfl <| zal2 9 [10, 11, 13, 14] (lo_s 13 rfl rfl rfl (hd 18 rfl)) rfl <| zal2 10 [11, 13, 14] (lo_s 13 rfl rfl rfl (hd 19 rfl)) rfl <| zal2 11 [13, 14] (lo_s 13 rfl rfl rfl (hd 20 rfl)) rfl <| zal2 12 [13, 14] (lo_s 13 rfl rfl rfl (hd 21 rfl)) rfl <| zal 13 (lo_s 13 rfl rfl rfl (hd 22 rfl)) rfl <| zal 14 (lo_l (ly_pick_f rfl rfl) (hd 23 rfl)) rfl <| ja_nil (by kernel_rfl) <| jc_litf rfl <| jc_exit ?_; refine zsr <| zmv rfl (hd 26 rfl) <| zas rfl (hd 8 rfl) <| jo_nil <| jc_ret ?_
      refine ⟨_, _, (.cons rfl .nil), .i, ?_⟩
      rw [← hc3, lx_runN_end (by rintro ⟨a, b⟩; first | omega | (simp_all; done))]

theorem lx_classes_s  : Spec Try.prog 89 [] (fun o => o = .ret (.a lx_tbl)) := by
  refine spec_of' [] rfl Try.func89 rfl (zlb rfl) fun Γ hN hds hL hR => ?_
  have hd := hdOf 40 hN
  refine zsr <| jo_h (hy_alloc (id := 0) zero1110 (by kernel_rfl) List.length_replicate (by decide) rfl) (hd 0 rfl) <| jo_nil <| zsr <| jo_h (hy_alloc (id := 1) zero1110 (by kernel_rfl) List.length_replicate (by decide) rfl) (hd 1 rfl) <| jo_nil <| jc_seq <| jc_seq <| jc_H (H' := [⟨110, 256, 0, true, ints .i64 lx_z256⟩, ⟨110, 256, 0, true, ints .i64 lx_z256⟩]) (by rw [← lx_z256_cV]; rfl) <| jc_region <| jo_h (hy_lit (id := 2) (xs := [.const (.int .u8 9), .const (.int .u8 10), .const (.int .u8 13), .const (.int .u8 32)]) el1144 rfl (ovL_cons rfl (ovL_cons rfl (ovL_cons rfl (ovL_cons rfl ovL_nil)))) rfl (all2_of rfl) (by decide) rfl) (hd 8 rfl) ?_; refine jo_frz (k := .u8) (l := lx_blks) (l' := lx_blks) 8 rfl rfl (by decide) rfl hL <| jo_l (ly_lenn sl1144 rfl) (hd 9 rfl) <| zmv rfl (hd 10 rfl) <| jo_nil <| jc_block ?_
  refine jc_loopF (G := Nat) (fun i => i ≤ 4) (fun i => [(10, .i .i64 (i : Int)), (3, .u), (11, .u), (12, .u), (13, .u), (14, .u), (15, .u), (16, .u)]) (fun i => [⟨110, 256, 0, true, ints .i64 lx_z256⟩, ⟨110, 256, 0, true, ints .i64 (lx_setAll lx_z256 (lx_blks.take i) 1)⟩, ⟨5, 1, 0, false, []⟩]) (fun i => 4 - i) 0 ?_ ?_ rfl ?_
  · exact Nat.zero_le _
  · exact (.cons rfl (.u (.u (.u (.u (.u (.u (.u .nil))))))))
  · rintro i hC
    have hlen : lx_blks.length = 4 := rfl
    refine zsr <| jo_l (ly_lt rfl rfl) (hd 11 rfl) <| jo_nil <| jc_seq ?_
    refine jc_if rfl (fun h1 => ?_) (fun h1 => ?_)
    · refine jc_skip <| jc_seq <| jc_block <| zsr <| jo_l (ly_ian (i := i) sl1144 rfl rfl (by first | rfl | omega) (by have e : lx_blks.length = 4 := rfl; omega)) (hd 12 rfl) <| jo_l (ly_ldq one5 rfl rfl) (hd 13 rfl) <| zas rfl (hd 3 rfl) <| jo_nil <| jc_region <| zmv rfl (hd 14 rfl) <| jo_l (ly_iar (i := (lx_blks.getD i 0).toNat) (r := (lx_blks.getD i 0).toNat) ar1110 rfl rfl rfl (by have e : lx_blks.length = 4 := rfl; have := lx_blks_in (i := i) (by omega); omega) (by have e : lx_blks.length = 4 := rfl; have := lx_blks_in (i := i) (by omega); omega) (by omega)) (hd 15 rfl) <| jo_st (sy_storei rfl rfl rfl one1109 (by have e : lx_blks.length = 4 := rfl; have := lx_blks_in (i := i) (by omega); simp only [lx_setAll_length, lx_z256_len]; omega)) ?_; refine jo_nil <| jc_region <| jo_l (ly_add rfl rfl (wrap_i64 (by omega) (by omega))) (hd 16 rfl) <| zmv rfl (hd 10 rfl) <| jo_nil ?_
      refine ⟨i + 1, ?_, ?_, (by rw [lx_setAll_take (show i < lx_blks.length by omega)]; rfl), cov_n 16 rfl rfl ?_⟩
      · omega
      · omega
      · exact (.cons rfl (.u (.u (.u (.u (.u (.u (.u .nil))))))))
    · refine jc_exit <| jc_seq <| jc_seq ?_
      obtain rfl : i = 4 := by have e : lx_blks.length = 4 := rfl; omega
      refine jc_region <| zas rfl (hd 4 rfl) <| jo_nil <| jc_block ?_
      refine jc_loopF (G := Nat) (fun i => i ≤ 10) (fun i => [(4, .i .i32 (48 + (i : Int))), (17, .u), (18, .u), (19, .u), (20, .u), (21, .u), (22, .u)]) (fun i => [⟨110, 256, 0, true, ints .i64 lx_z256⟩, ⟨110, 256, 0, true, ints .i64 (lx_setAll (lx_setAll lx_z256 (lx_blks.take 4) 1) (lx_dgts.take i) 2)⟩, ⟨5, 1, 0, false, []⟩]) (fun i => 10 - i) 0 ?_ ?_ rfl ?_
      · exact Nat.zero_le _
      · exact (.cons rfl (.u (.u (.u (.u (.u (.u .nil)))))))
      · rintro i hC
        have hlen : lx_dgts.length = 10 := rfl
        refine jc_seq <| zsr <| zmv rfl (hd 17 rfl) <| jo_l (ly_le rfl rfl) (hd 18 rfl) <| jo_nil ?_
        refine jc_if rfl (fun h2 => ?_) (fun h2 => ?_)
        · refine jc_skip <| jc_seq <| jc_block <| jc_region <| zmv rfl (hd 21 rfl) <| jo_l (ly_iar (i := (48 + i)) (r := (lx_dgts.getD i 0).toNat) ar1110 rfl rfl rfl (by omega) (by omega) (by have := lx_dgts_at (i := i) (by omega); omega)) (hd 22 rfl) <| jo_st (sy_storei rfl rfl rfl one1109 (by have := lx_dgts_at (i := i) (by omega); simp only [lx_setAll_length, lx_z256_len]; omega)) <| jo_nil <| jc_region <| zmv rfl (hd 19 rfl) <| jo_l (ly_add rfl rfl (wrap_i32 (by omega) (by omega))) (hd 20 rfl) <| zas rfl (hd 4 rfl) <| jo_nil ?_
          refine ⟨i + 1, ?_, ?_, (by rw [lx_setAll_take (show i < lx_dgts.length by omega)]; rfl), cov_n 14 rfl rfl ?_⟩
          · omega
          · omega
          · exact (.cons (show _ = some (V.i .i32 (48 + ((i + 1 : Nat) : Int))) from (by show some _ = some _; congr 2)) (.u (.u (.u (.u (.u (.u .nil)))))))
        · refine jc_exit <| jc_seq <| jc_seq ?_
          obtain rfl : i = 10 := by omega
          refine jc_region <| zas rfl (hd 5 rfl) <| jo_nil <| jc_block ?_
          refine jc_loopF (G := Nat) (fun i => i ≤ 26) (fun i => [(5, .i .i32 (97 + (i : Int))), (23, .u), (24, .u), (25, .u), (26, .u), (27, .u), (28, .u)]) (fun i => [⟨110, 256, 0, true, ints .i64 lx_z256⟩, ⟨110, 256, 0, true, ints .i64 (lx_setAll (lx_setAll (lx_setAll lx_z256 (lx_blks.take 4) 1) (lx_dgts.take 10) 2) (lx_lets.take i) 3)⟩, ⟨5, 1, 0, false, []⟩]) (fun i => 26 - i) 0 ?_ ?_ rfl ?_
          · exact Nat.zero_le _
          · exact (.cons rfl (.u (.u (.u (.u (.u (.u .nil)))))))
          · rintro i hC
            have hlen : lx_lets.length = 26 := rfl
            refine jc_seq <| zsr <| zmv rfl (hd 23 rfl) <| jo_l (ly_le rfl rfl) (hd 24 rfl) <| jo_nil ?_
            refine jc_if rfl (fun h3 => ?_) (fun h3 => ?_)
            · refine jc_skip <| jc_seq <| jc_block <| jc_region <| zmv rfl (hd 27 rfl) <| jo_l (ly_iar (i := (97 + i)) (r := (lx_lets.getD i 0).toNat) ar1110 rfl rfl rfl (by omega) (by omega) (by have := lx_lets_at (i := i) (by omega); omega)) (hd 28 rfl) <| jo_st (sy_storei rfl rfl rfl one1109 (by have := lx_lets_at (i := i) (by omega); simp only [lx_setAll_length, lx_z256_len]; omega)) <| jo_nil <| jc_region <| zmv rfl (hd 25 rfl) <| jo_l (ly_add rfl rfl (wrap_i32 (by omega) (by omega))) (hd 26 rfl) <| zas rfl (hd 5 rfl) <| jo_nil ?_
              refine ⟨i + 1, ?_, ?_, (by rw [lx_setAll_take (show i < lx_lets.length by omega)]; rfl), cov_n 14 rfl rfl ?_⟩
              · omega
              · omega
              · exact (.cons (show _ = some (V.i .i32 (97 + ((i + 1 : Nat) : Int))) from (by show some _ = some _; congr 2)) (.u (.u (.u (.u (.u (.u .nil)))))))
            · refine jc_exit <| jc_seq <| jc_seq ?_
              obtain rfl : i = 26 := by omega
              refine jc_region <| jo_h (hy_lit (id := 3) (xs := [.const (.int .u8 40), .const (.int .u8 41), .const (.int .u8 44), .const (.int .u8 43), .const (.int .u8 45), .const (.int .u8 42), .const (.int .u8 47)]) el1144 rfl (ovL_cons rfl (ovL_cons rfl (ovL_cons rfl (ovL_cons rfl (ovL_cons rfl (ovL_cons rfl (ovL_cons rfl ovL_nil))))))) rfl (all2_of rfl) (by decide) rfl) (hd 29 rfl) <| jo_h (hy_convb (k := .u8) (l := lx_sgns) undS1144 und5 rfl rfl rfl rfl hL) (hd 30 rfl) <| jo_l (ly_lenn sl1144 rfl) (hd 31 rfl) <| zmv rfl (hd 32 rfl) <| jo_nil <| jc_block ?_
              refine jc_loopF (G := Nat) (fun i => i ≤ 7) (fun i => [(32, .i .i64 (i : Int)), (7, .u), (33, .u), (34, .u), (35, .u), (36, .u), (37, .u), (38, .u)]) (fun i => [⟨110, 256, 0, true, ints .i64 lx_z256⟩, ⟨110, 256, 0, true, ints .i64 (lx_setAll (lx_setAll (lx_setAll (lx_setAll lx_z256 (lx_blks.take 4) 1) (lx_dgts.take 10) 2) (lx_lets.take 26) 3) (lx_sgns.take i) 4)⟩, ⟨5, 1, 0, false, []⟩, ⟨5, 1, 0, false, []⟩]) (fun i => 7 - i) 0 ?_ ?_ rfl ?_
              · exact Nat.zero_le _
              · exact (.cons rfl (.u (.u (.u (.u (.u (.u (.u .nil))))))))
              · rintro i hC
                have hlen : lx_sgns.length = 7 := rfl
                refine zsr <| jo_l (ly_lt rfl rfl) (hd 33 rfl) <| jo_nil <| jc_seq ?_
                refine jc_if rfl (fun h4 => ?_) (fun h4 => ?_)
                · refine jc_skip <| jc_seq <| jc_block <| zsr <| jo_l (ly_ian (i := i) sl1144 rfl rfl (by first | rfl | omega) (by have e : lx_sgns.length = 7 := rfl; omega)) (hd 34 rfl) <| jo_l (ly_ldq one5 rfl rfl) (hd 35 rfl) <| zas rfl (hd 7 rfl) <| jo_nil <| jc_region <| zmv rfl (hd 36 rfl) <| jo_l (ly_iar (i := (lx_sgns.getD i 0).toNat) (r := (lx_sgns.getD i 0).toNat) ar1110 rfl rfl rfl (by have e : lx_sgns.length = 7 := rfl; have := lx_sgns_in (i := i) (by omega); omega) (by have e : lx_sgns.length = 7 := rfl; have := lx_sgns_in (i := i) (by omega); omega) (by omega)) (hd 37 rfl) <| jo_st (sy_storei rfl rfl rfl one1109 (by have e : lx_sgns.length = 7 := rfl; have := lx_sgns_in (i := i) (by omega); simp only [lx_setAll_length, lx_z256_len]; omega)) ?_; refine jo_nil <| jc_region <| jo_l (ly_add rfl rfl (wrap_i64 (by omega) (by omega))) (hd 38 rfl) <| zmv rfl (hd 32 rfl) <| jo_nil ?_
                  refine ⟨i + 1, ?_, ?_, (by rw [lx_setAll_take (show i < lx_sgns.length by omega)]; rfl), cov_n 16 rfl rfl ?_⟩
                  · omega
                  · omega
                  · exact (.cons rfl (.u (.u (.u (.u (.u (.u (.u .nil))))))))
                · refine jc_exit <| jc_seq ?_
                  obtain rfl : i = 7 := by have e : lx_sgns.length = 7 := rfl; omega
                  rw [lx_all_classes]
                  refine jc_region <| jo_l (ly_lda agg1110 rfl rfl (takeV_all lx_tbl_len) lx_tbl_len) (hd 39 rfl) <| jo_st (sy_store rfl rfl rfl siz1110 lx_tbl_len ints_one (by simp [ints_length, lx_z256_len])) <| jo_nil <| jc_ret ?_
                  refine ⟨_, _, .cons (ResV.cell agg1110 rfl rfl (show takeV (setV (ints .i64 lx_z256) 0 lx_tbl) 0 256 = lx_tbl by rw [setV_all _ _ (by rw [ints_length, lx_z256_len, lx_tbl_len])]; exact takeV_all lx_tbl_len) lx_tbl_len) .nil, retv_ints lx_tblI, ?_⟩
                  exact rfl

theorem lx_next_s (s : ByteArray) (p : Nat) (hp : p ≤ s.size) (hs : s.size < 4611686018427387904) : Spec Try.prog 90 [.q lx_tbl, .s s, .i .i64 (p : Int)] (fun o => o = .ret (lx_nxV (lx_nx s p))) := by
  refine spec_of' [(0, .q lx_tbl), (1, .s s), (2, .i .i64 (p : Int))] rfl Try.func90 rfl (zlb rfl) fun Γ hN hds hL hR => ?_
  have hd := hdOf 83 hN
  obtain ⟨j, hj⟩ : ∃ j, lx_runN s 1 p = j := ⟨_, rfl⟩
  have hjge := lx_runN_ge s 1 p
  have hjle := lx_runN_le s 1 p hp
  rw [hj] at hjge hjle
  have r1 : Spec Try.prog 119 [.q lx_tbl, .s s, .i .i64 (p : Int), .i .i64 1] (fun o => o = .ret (.i .i64 (j : Int))) := hj ▸ lx_run_s s p 1 hp hs
  have g3 := lx_runN_ge s 3 j
  have l3 := lx_runN_le s 3 j hjle
  have g2 := lx_runN_ge s 2 j
  have l2 := lx_runN_le s 2 j hjle
  refine zsr <| jo_h (hy_alloc (id := 0) zero1114 (by decide) rfl (by decide) rfl) (hd 6 rfl) <| zas rfl (hd 7 rfl) <| zas rfl (hd 8 rfl) <| jo_nil <| zsr <| zmv rfl (hd 12 rfl) <| zmv rfl (hd 13 rfl) <| zmv rfl (hd 14 rfl) ?_
  refine jo_call Try.f119 (r1) rfl Try.func119 rfl rfl (ovL_cons rfl (ovL_cons rfl (ovL_cons rfl (ovL_cons rfl ovL_nil)))) (.cons .q (.cons .s (.cons .i (.cons .i .nil)))) (hd 15 rfl) ?_ (fun ch hp => by simp at hp)
  rintro _ ⟨⟩; refine zas rfl (hd 9 rfl) <| jo_nil <| jc_seq <| zsr <| zmv rfl (hd 16 rfl) <| zmv rfl (hd 17 rfl) <| jo_l (ly_lens und9 rfl) (hd 18 rfl) <| jo_l (ly_eq rfl rfl) (hd 19 rfl) <| jo_nil ?_
  refine jc_if rfl (fun h1 => ?_) (fun h1 => ?_)
  · refine zsr <| zmv rfl (hd 20 rfl) <| jo_l (ly_build (is := [0, 2]) (xs := [.const (.int .i64 3), .tmp 20]) zero1114 pls1114_0_2 rfl (ovL_cons rfl (ovL_cons rfl ovL_nil)) rfl (by first | (simp [plsOk, cellsV]; done) | (simp [plsOk, cellsV, old]; done)) (all_of rfl) rfl) (hd 21 rfl) <| zmv rfl (hd 22 rfl) <| jo_st (sy_store rfl rfl rfl siz1114 rfl rfl (zlb rfl)) <| zas rfl (hd 7 rfl) <| zas rfl (hd 8 rfl) <| jo_nil <| jc_ret ?_
    refine ⟨_, _, (.cons (ResV.cell agg1114 rfl rfl rfl rfl) (.cons rfl (.cons rfl .nil))), (.t1 (.a1 .i (.a1 .s (.a1 .i .a0))) (.t1 .i (.t1 .b .t0))), ?_⟩
    rw [lx_nx_end hj (by omega)]
    rfl
  · refine jc_skip <| zsr <| zmv rfl (hd 23 rfl) <| jo_l (ly_add rfl rfl (r := ((j + 1 : Nat) : Int)) (by rw [wrap_i64 (by omega) (by omega)]; omega)) (hd 24 rfl) <| zas rfl (hd 10 rfl) <| zas rfl (hd 11 rfl) <| jo_nil <| jc_seq <| jc_seq <| jc_draw (n := 7) _ rfl mixed <| zal2 0 [4, 5, 6] (lo_l (ly_mv rfl) (hd 25 rfl)) rfl <| zal2 1 [3, 5, 6] (lo_l (ly_mv rfl) (hd 26 rfl)) rfl ?_; refine zal2 2 [3, 5, 6] (lo_l (ly_mv rfl) (hd 27 rfl)) rfl <| zal2 3 [5, 6] (lo_l (ly_ixs (i := j) und9 rfl rfl (by first | rfl | omega) (by omega)) (hd 28 rfl)) rfl <| zal2 4 [5, 6] (lo_l (ly_nilq rfl) (hd 29 rfl)) rfl <| zal 5 (lo_l (ly_iaq (i := (byteAt s j).toNat) ar1110 rfl rfl (by have := byteAt_range s j; omega) (by have := byteAt_range s j; omega) rfl) (hd 30 rfl)) rfl <| zal 6 (lo_l (ly_ldqz one1109 rfl (lx_tbl_at (byteAt_range s j).1 (byteAt_range s j).2) rfl) (hd 31 rfl)) rfl <| ja_nil (by kernel_rfl) <| jc_block <| zsr <| jo_l (ly_eq rfl rfl) (hd 35 rfl) <| zas rfl (hd 34 rfl) <| jo_nil ?_
    refine jc_if rfl (fun h2 => ?_) (fun h2 => ?_)
    · refine jc_skip <| zsr <| zmv rfl (hd 75 rfl) <| zmv rfl (hd 76 rfl) <| zmv rfl (hd 77 rfl) <| zmv rfl (hd 78 rfl) <| jo_l (ly_sls und9 rfl (bnd_some' rfl (by first | rfl | omega)) (bnd_some' rfl (by first | rfl | omega)) (by omega) (by omega)) (hd 79 rfl) <| zmv rfl (hd 80 rfl) <| jo_l (ly_build (is := [0, 1, 2]) (xs := [.tmp 75, .tmp 79, .tmp 80]) zero1114 pls1114_0_1_2 rfl (ovL_cons rfl (ovL_cons rfl (ovL_cons rfl ovL_nil))) rfl (by first | (simp [plsOk, cellsV]; done) | (simp [plsOk, cellsV, old]; done)) (all_of rfl) rfl) (hd 81 rfl) <| zmv rfl (hd 82 rfl) <| jo_st (sy_store rfl rfl rfl siz1114 rfl rfl (zlb rfl)) <| zas rfl (hd 7 rfl) ?_; refine zas rfl (hd 8 rfl) <| jo_nil <| jc_ret ?_
      refine ⟨_, _, (.cons (ResV.cell agg1114 rfl rfl rfl rfl) (.cons rfl (.cons rfl .nil))), (.t1 (.a1 .i (.a1 .s (.a1 .i .a0))) (.t1 .i (.t1 .b .t0))), ?_⟩
      rw [lx_nx_sign hj (by omega) (by assumption)]
      rfl
    · refine zsr <| jo_l (ly_eq rfl rfl) (hd 37 rfl) <| zas rfl (hd 36 rfl) <| jo_nil ?_
      refine jc_if rfl (fun h3 => ?_) (fun h3 => ?_)
      · refine jc_region <| zmv rfl (hd 38 rfl) <| zmv rfl (hd 39 rfl) <| zmv rfl (hd 40 rfl) ?_
        refine jo_call Try.f119 (lx_run_s s j 3 hjle hs) rfl Try.func119 rfl rfl (ovL_cons rfl (ovL_cons rfl (ovL_cons rfl (ovL_cons rfl ovL_nil)))) (.cons .q (.cons .s (.cons .i (.cons .i .nil)))) (hd 41 rfl) ?_ (fun ch hp => by simp at hp)
        rintro _ ⟨⟩; refine zas rfl (hd 10 rfl) <| zas rfl (hd 11 rfl) <| jo_nil <| zsr <| zmv rfl (hd 75 rfl) <| zmv rfl (hd 76 rfl) <| zmv rfl (hd 77 rfl) <| zmv rfl (hd 78 rfl) <| jo_l (ly_sls und9 rfl (bnd_some' rfl (by first | rfl | omega)) (bnd_some' rfl (by first | rfl | omega)) (by omega) (by omega)) (hd 79 rfl) <| zmv rfl (hd 80 rfl) <| jo_l (ly_build (is := [0, 1, 2]) (xs := [.tmp 75, .tmp 79, .tmp 80]) zero1114 pls1114_0_1_2 rfl (ovL_cons rfl (ovL_cons rfl (ovL_cons rfl ovL_nil))) rfl (by first | (simp [plsOk, cellsV]; done) | (simp [plsOk, cellsV, old]; done)) (all_of rfl) rfl) (hd 81 rfl) <| zmv rfl (hd 82 rfl) ?_; refine jo_st (sy_store rfl rfl rfl siz1114 rfl rfl (zlb rfl)) <| zas rfl (hd 7 rfl) <| zas rfl (hd 8 rfl) <| jo_nil <| jc_ret ?_
        refine ⟨_, _, (.cons (ResV.cell agg1114 rfl rfl rfl rfl) (.cons rfl (.cons rfl .nil))), (.t1 (.a1 .i (.a1 .s (.a1 .i .a0))) (.t1 .i (.t1 .b .t0))), ?_⟩
        rw [lx_nx_word hj (by omega) (by assumption)]
        rfl
      · refine zsr <| jo_l (ly_eq rfl rfl) (hd 43 rfl) <| zas rfl (hd 42 rfl) <| jo_nil ?_
        refine jc_if rfl (fun h4 => ?_) (fun h4 => ?_)
        · refine zsr <| zmv rfl (hd 44 rfl) <| zmv rfl (hd 45 rfl) <| zmv rfl (hd 46 rfl) ?_
          refine jo_call Try.f119 (lx_run_s s j 2 hjle hs) rfl Try.func119 rfl rfl (ovL_cons rfl (ovL_cons rfl (ovL_cons rfl (ovL_cons rfl ovL_nil)))) (.cons .q (.cons .s (.cons .i (.cons .i .nil)))) (hd 47 rfl) ?_ (fun ch hp => by simp at hp)
          rintro _ ⟨⟩; refine zas rfl (hd 10 rfl) <| zas rfl (hd 11 rfl) <| jo_nil <| jc_seq <| jc_draw (n := 22) _ rfl mixed <| zal2 0 [1, 4, 5, 6, 7, 8, 9, 10, 11, 12, 13, 14, 15, 16, 17, 18, 19, 20, 21] (lo_l (ly_mv rfl) (hd 48 rfl)) rfl <| zal2 1 [4, 5, 6, 7, 8, 9, 10, 11, 12, 13, 14, 15, 16, 17, 18, 19, 20, 21] (lo_l (ly_add rfl rfl (r := ((lx_runN s 2 j + 1 : Nat) : Int)) (by rw [wrap_i64 (by omega) (by omega)]; omega)) (hd 49 rfl)) rfl <| zal2 2 [3, 4, 5, 6, 7, 8, 9, 10, 11, 12, 13, 14, 15, 16, 17, 18, 19, 20, 21] (lo_l (ly_mv rfl) (hd 50 rfl)) rfl <| zal2 3 [4, 5, 6, 7, 8, 9, 10, 11, 12, 13, 14, 15, 16, 17, 18, 19, 20, 21] (lo_l (ly_lens und9 rfl) (hd 51 rfl)) rfl <| zal2 4 [5, 6, 7, 8, 9, 10, 11, 12, 13, 14, 15, 16, 17, 18, 19, 20, 21] (lo_l (ly_lt rfl rfl) (hd 52 rfl)) rfl <| zal2 5 [6, 7, 8, 9, 10, 11, 12, 13, 14, 15, 16, 17, 18, 19, 20, 21] (lo_l (ly_mv rfl) (hd 53 rfl)) rfl ?_
          refine ja_ifp 53 rfl (fun h5 => ?_) (fun h5 => ?_)
          · refine zal2 6 [8, 9, 10, 11, 12, 13, 14, 15, 16, 17, 18, 19, 20, 21] (lo_g 53 rfl rfl (ly_mv rfl) (hd 54 rfl)) rfl <| zal2 7 [8, 9, 10, 11, 12, 13, 14, 15, 16, 17, 18, 19, 20, 21] (lo_g 53 rfl rfl (ly_mv rfl) (hd 55 rfl)) rfl <| zal2 8 [9, 10, 11, 12, 13, 14, 15, 16, 17, 18, 19, 20, 21] (lo_g 53 rfl rfl (ly_ixs (i := lx_runN s 2 j) und9 rfl rfl (by first | rfl | omega) (by omega)) (hd 56 rfl)) rfl <| zal2 9 [10, 11, 12, 13, 14, 15, 16, 17, 18, 19, 20, 21] (lo_g 53 rfl rfl (ly_eq rfl rfl) (hd 57 rfl)) rfl <| zal2 10 [11, 12, 13, 14, 15, 16, 17, 18, 19, 20, 21] (lo_l (ly_pick_t rfl rfl) (hd 58 rfl)) rfl <| zal 11 (lo_l (ly_mv rfl) (hd 59 rfl)) rfl ?_
            refine ja_ifp 59 rfl (fun h6 => ?_) (fun h6 => ?_)
            · refine zal2 12 [17, 18, 19, 20, 21] (lo_g 59 rfl rfl (ly_mv rfl) (hd 60 rfl)) rfl <| zal2 13 [16, 18, 19, 20, 21] (lo_g 59 rfl rfl (ly_mv rfl) (hd 61 rfl)) rfl <| zal2 14 [15, 16, 18, 19, 20, 21] (lo_g 59 rfl rfl (ly_mv rfl) (hd 62 rfl)) rfl <| zal2 15 [16, 18, 19, 20, 21] (lo_g 59 rfl rfl (ly_add rfl rfl (r := ((lx_runN s 2 j + 1 : Nat) : Int)) (by rw [wrap_i64 (by omega) (by omega)]; omega)) (hd 63 rfl)) rfl <| zal2 16 [18, 19, 20, 21] (lo_g 59 rfl rfl (ly_ixs (i := (lx_runN s 2 j + 1)) und9 rfl rfl (by first | rfl | omega) (by omega)) (hd 64 rfl)) rfl <| zal2 17 [18, 19, 20, 21] (lo_g 59 rfl rfl (ly_nilq rfl) (hd 65 rfl)) rfl <| zal2 18 [19, 20, 21] (lo_g 59 rfl rfl (ly_iaq (i := (byteAt s (lx_runN s 2 j + 1)).toNat) ar1110 rfl rfl (by have := byteAt_range s (lx_runN s 2 j + 1); omega) (by have := byteAt_range s (lx_runN s 2 j + 1); omega) rfl) (hd 66 rfl)) rfl <| zal2 19 [20, 21] (lo_g 59 rfl rfl (ly_ldqz one1109 rfl (lx_tbl_at (byteAt_range s (lx_runN s 2 j + 1)).1 (byteAt_range s (lx_runN s 2 j + 1)).2) rfl) (hd 67 rfl)) rfl <| zal 20 (lo_g 59 rfl rfl (ly_eq rfl rfl) (hd 68 rfl)) rfl <| zal 21 (lo_l (ly_pick_t rfl rfl) (hd 69 rfl)) rfl <| ja_nil (by kernel_rfl) ?_
              refine jc_if rfl (fun h7 => ?_) (fun h7 => ?_)
              · have g4 := lx_runN_ge s 2 (lx_runN s 2 j + 1)
                have l4 := lx_runN_le s 2 (lx_runN s 2 j + 1) (by omega)
                refine jc_region <| zmv rfl (hd 70 rfl) <| zmv rfl (hd 71 rfl) <| zmv rfl (hd 72 rfl) <| jo_l (ly_add rfl rfl (r := ((lx_runN s 2 j + 1 : Nat) : Int)) (by rw [wrap_i64 (by omega) (by omega)]; omega)) (hd 73 rfl) ?_
                refine jo_call Try.f119 (lx_run_s s (lx_runN s 2 j + 1) 2 (by omega) hs) rfl Try.func119 rfl rfl (ovL_cons rfl (ovL_cons rfl (ovL_cons rfl (ovL_cons rfl ovL_nil)))) (.cons .q (.cons .s (.cons .i (.cons .i .nil)))) (hd 74 rfl) ?_ (fun ch hp => by simp at hp)
                rintro _ ⟨⟩; refine zas rfl (hd 10 rfl) <| jo_nil <| zsr <| zmv rfl (hd 75 rfl) <| zmv rfl (hd 76 rfl) <| zmv rfl (hd 77 rfl) <| zmv rfl (hd 78 rfl) <| jo_l (ly_sls und9 rfl (bnd_some' rfl (by first | rfl | omega)) (bnd_some' rfl (by first | rfl | omega)) (by omega) (by omega)) (hd 79 rfl) <| zmv rfl (hd 80 rfl) <| jo_l (ly_build (is := [0, 1, 2]) (xs := [.tmp 75, .tmp 79, .tmp 80]) zero1114 pls1114_0_1_2 rfl (ovL_cons rfl (ovL_cons rfl (ovL_cons rfl ovL_nil))) rfl (by first | (simp [plsOk, cellsV]; done) | (simp [plsOk, cellsV, old]; done)) (all_of rfl) rfl) (hd 81 rfl) <| zmv rfl (hd 82 rfl) <| jo_st (sy_store rfl rfl rfl siz1114 rfl rfl (zlb rfl)) ?_; refine zas rfl (hd 7 rfl) <| zas rfl (hd 8 rfl) <| jo_nil <| jc_ret ?_
                refine ⟨_, _, (.cons (ResV.cell agg1114 rfl rfl rfl rfl) (.cons rfl (.cons rfl .nil))), (.t1 (.a1 .i (.a1 .s (.a1 .i .a0))) (.t1 .i (.t1 .b .t0))), ?_⟩
                rw [lx_nx_num hj (by omega) (by assumption) (lx_numEnd_dot (by omega) (by assumption) (by assumption))]
                rfl
              · refine jc_skip <| zsr <| zmv rfl (hd 75 rfl) <| zmv rfl (hd 76 rfl) <| zmv rfl (hd 77 rfl) <| zmv rfl (hd 78 rfl) <| jo_l (ly_sls und9 rfl (bnd_some' rfl (by first | rfl | omega)) (bnd_some' rfl (by first | rfl | omega)) (by omega) (by omega)) (hd 79 rfl) <| zmv rfl (hd 80 rfl) <| jo_l (ly_build (is := [0, 1, 2]) (xs := [.tmp 75, .tmp 79, .tmp 80]) zero1114 pls1114_0_1_2 rfl (ovL_cons rfl (ovL_cons rfl (ovL_cons rfl ovL_nil))) rfl (by first | (simp [plsOk, cellsV]; done) | (simp [plsOk, cellsV, old]; done)) (all_of rfl) rfl) (hd 81 rfl) <| zmv rfl (hd 82 rfl) <| jo_st (sy_store rfl rfl rfl siz1114 rfl rfl (zlb rfl)) <| zas rfl (hd 7 rfl) ?_; refine zas rfl (hd 8 rfl) <| jo_nil <| jc_ret ?_
                refine ⟨_, _, (.cons (ResV.cell agg1114 rfl rfl rfl rfl) (.cons rfl (.cons rfl .nil))), (.t1 (.a1 .i (.a1 .s (.a1 .i .a0))) (.t1 .i (.t1 .b .t0))), ?_⟩
                rw [lx_nx_num hj (by omega) (by assumption) (lx_numEnd_no (by rintro ⟨a, b, c⟩; first | omega | (simp_all; done)))]
                rfl
            · refine zal2 12 [17, 18, 19, 20, 21] (lo_s 59 rfl rfl rfl (hd 60 rfl)) rfl <| zal2 13 [16, 18, 19, 20, 21] (lo_s 59 rfl rfl rfl (hd 61 rfl)) rfl <| zal2 14 [15, 16, 18, 19, 20, 21] (lo_s 59 rfl rfl rfl (hd 62 rfl)) rfl <| zal2 15 [16, 18, 19, 20, 21] (lo_s 59 rfl rfl rfl (hd 63 rfl)) rfl <| zal2 16 [18, 19, 20, 21] (lo_s 59 rfl rfl rfl (hd 64 rfl)) rfl <| zal2 17 [18, 19, 20, 21] (lo_s 59 rfl rfl rfl (hd 65 rfl)) rfl <| zal2 18 [19, 20, 21] (lo_s 59 rfl rfl rfl (hd 66 rfl)) rfl <| zal2 19 [20, 21] (lo_s 59 rfl rfl rfl (hd 67 rfl)) rfl <| zal 20 (lo_s 59 rfl rfl rfl (hd 68 rfl)) rfl <| zal 21 (lo_l (ly_pick_f rfl rfl) (hd 69 rfl)) rfl <| ja_nil (by kernel_rfl) <| jc_litf rfl <| jc_skip ?_; refine zsr <| zmv rfl (hd 75 rfl) <| zmv rfl (hd 76 rfl) <| zmv rfl (hd 77 rfl) <| zmv rfl (hd 78 rfl) <| jo_l (ly_sls und9 rfl (bnd_some' rfl (by first | rfl | omega)) (bnd_some' rfl (by first | rfl | omega)) (by omega) (by omega)) (hd 79 rfl) <| zmv rfl (hd 80 rfl) <| jo_l (ly_build (is := [0, 1, 2]) (xs := [.tmp 75, .tmp 79, .tmp 80]) zero1114 pls1114_0_1_2 rfl (ovL_cons rfl (ovL_cons rfl (ovL_cons rfl ovL_nil))) rfl (by first | (simp [plsOk, cellsV]; done) | (simp [plsOk, cellsV, old]; done)) (all_of rfl) rfl) (hd 81 rfl) <| zmv rfl (hd 82 rfl) <| jo_st (sy_store rfl rfl rfl siz1114 rfl rfl (zlb rfl)) <| zas rfl (hd 7 rfl) <| zas rfl (hd 8 rfl) ?_; refine jo_nil <| jc_ret ?_
              refine ⟨_, _, (.cons (ResV.cell agg1114 rfl rfl rfl rfl) (.cons rfl (.cons rfl .nil))), (.t1 (.a1 .i (.a1 .s (.a1 .i .a0))) (.t1 .i (.t1 .b .t0))), ?_⟩
              rw [lx_nx_num hj (by omega) (by assumption) (lx_numEnd_no (by rintro ⟨a, b, c⟩; first | omega | (simp_all; done)))]
              rfl
          · refine zal2 6 [8, 9, 10, 11, 12, 13, 14, 15, 16, 17, 18, 19, 20, 21] (lo_s 53 rfl rfl rfl (hd 54 rfl)) rfl <| zal2 7 [8, 9, 10, 11, 12, 13, 14, 15, 16, 17, 18, 19, 20, 21] (lo_s 53 rfl rfl rfl (hd 55 rfl)) rfl <| zal2 8 [9, 10, 11, 12, 13, 14, 15, 16, 17, 18, 19, 20, 21] (lo_s 53 rfl rfl rfl (hd 56 rfl)) rfl <| zal2 9 [10, 11, 12, 13, 14, 15, 16, 17, 18, 19, 20, 21] (lo_s 53 rfl rfl rfl (hd 57 rfl)) rfl <| zal2 10 [11, 12, 13, 14, 15, 16, 17, 18, 19, 20, 21] (lo_l (ly_pick_f rfl rfl) (hd 58 rfl)) rfl <| zal 11 (lo_l (ly_mv rfl) (hd 59 rfl)) rfl <| zal2 12 [17, 18, 19, 20, 21] (lo_s 59 rfl rfl rfl (hd 60 rfl)) rfl <| zal2 13 [16, 18, 19, 20, 21] (lo_s 59 rfl rfl rfl (hd 61 rfl)) rfl <| zal2 14 [15, 16, 18, 19, 20, 21] (lo_s 59 rfl rfl rfl (hd 62 rfl)) rfl <| zal2 15 [16, 18, 19, 20, 21] (lo_s 59 rfl rfl rfl (hd 63 rfl)) rfl <| zal2 16 [18, 19, 20, 21] (lo_s 59 rfl rfl rfl (hd 64 rfl)) rfl <| zal2 17 [18, 19, 20, 21] (lo_s 59 rfl rfl rfl (hd 65 rfl)) rfl <| zal2 18 [19, 20, 21] (lo_s 59 rfl rfl rfl (hd 66 rfl)) rfl ?_; refine zal2 19 [20, 21] (lo_s 59 rfl rfl rfl (hd 67 rfl)) rfl <| zal 20 (lo_s 59 rfl rfl rfl (hd 68 rfl)) rfl <| zal 21 (lo_l (ly_pick_f rfl rfl) (hd 69 rfl)) rfl <| ja_nil (by kernel_rfl) <| jc_litf rfl <| jc_skip <| zsr <| zmv rfl (hd 75 rfl) <| zmv rfl (hd 76 rfl) <| zmv rfl (hd 77 rfl) <| zmv rfl (hd 78 rfl) <| jo_l (ly_sls und9 rfl (bnd_some' rfl (by first | rfl | omega)) (bnd_some' rfl (by first | rfl | omega)) (by omega) (by omega)) (hd 79 rfl) ?_; refine zmv rfl (hd 80 rfl) <| jo_l (ly_build (is := [0, 1, 2]) (xs := [.tmp 75, .tmp 79, .tmp 80]) zero1114 pls1114_0_1_2 rfl (ovL_cons rfl (ovL_cons rfl (ovL_cons rfl ovL_nil))) rfl (by first | (simp [plsOk, cellsV]; done) | (simp [plsOk, cellsV, old]; done)) (all_of rfl) rfl) (hd 81 rfl) <| zmv rfl (hd 82 rfl) <| jo_st (sy_store rfl rfl rfl siz1114 rfl rfl (zlb rfl)) <| zas rfl (hd 7 rfl) <| zas rfl (hd 8 rfl) <| jo_nil <| jc_ret ?_
            refine ⟨_, _, (.cons (ResV.cell agg1114 rfl rfl rfl rfl) (.cons rfl (.cons rfl .nil))), (.t1 (.a1 .i (.a1 .s (.a1 .i .a0))) (.t1 .i (.t1 .b .t0))), ?_⟩
            rw [lx_nx_num hj (by omega) (by assumption) (lx_numEnd_no (by rintro ⟨a, b, c⟩; first | omega | (simp_all; done)))]
            rfl
        · refine zsr <| jo_l (ly_build (is := []) (xs := []) (pls := []) zero1114 pls1114_ rfl ovL_nil rfl trivial (all_of rfl) rfl) (hd 32 rfl) <| zmv rfl (hd 33 rfl) <| jo_st (sy_store rfl rfl rfl siz1114 rfl rfl (zlb rfl)) <| zas rfl (hd 7 rfl) <| zas rfl (hd 8 rfl) <| jo_nil <| jc_ret ?_
          refine ⟨_, _, (.cons (ResV.cell agg1114 rfl rfl rfl rfl) (.cons rfl (.cons rfl .nil))), (.t1 (.a1 .i (.a1 .s (.a1 .i .a0))) (.t1 .i (.t1 .b .t0))), ?_⟩
          rw [lx_nx_bad hj (by omega) (by assumption) (by assumption) (by assumption)]
          rfl
end Go.Proofs.Ytpldmajdiljoaaa.Vc
