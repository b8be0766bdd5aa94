/- The contract of surdlaw14.LexBlanks. -/
import Derived.Test.YtnpbpiommpgikaaWi
import Derived.Test.YtnpbpiommpgikaaMb
set_option linter.unusedVariables false
set_option linter.unusedSimpArgs false
namespace Go.Proofs.Ytnpbpiommpgikaa.Vc
open Go Go.RowKit
theorem same_er (l l2 : List Tok) (f g : Bool) (hl : l.length < 4294967296) (he : erase l2 = erase l) : Spec Try.prog 16 [.l f 3 (l.map tokRow), .l g 3 (l2.map tokRow)] (fun o => o = .ret (.b true)) := by
  refine spec_of' [(0, .l f 3 (l.map tokRow)), (1, .l g 3 (l2.map tokRow))] rfl Try.func16 rfl (Nat.le_of_ble_eq_true rfl) fun Γ hN hds hL hR => ?_
  have hd : ∀ d, Nat.blt d 41 = true → d < Γ.N := fun d h => by rw [hN]; exact Nat.le_of_ble_eq_true h
  have hm : (l.map tokRow).length = l.length := by simp
  refine jc_seq ?_
  refine jc_region ?_
  refine jo_l (ly_as rfl) (hd 4 rfl) ?_
  refine jo_nil ?_
  refine jc_seq ?_
  refine jc_seq ?_
  refine jc_region ?_
  refine jo_l (ly_mv rfl) (hd 6 rfl) ?_
  refine jo_l (ly_lenl sl25 rfl) (hd 7 rfl) ?_
  refine jo_l (ly_mv rfl) (hd 8 rfl) ?_
  refine jo_l (ly_lenl sl25 rfl) (hd 9 rfl) ?_
  refine jo_l (ly_ff (ly_ne rfl rfl) (by rw [List.length_map, List.length_map, erase_len he]; simp)) (hd 10 rfl) ?_
  refine jo_nil ?_
  refine jc_litf rfl ?_
  refine jc_skip ?_
  refine jc_seq ?_
  refine jc_seq ?_
  refine jc_region ?_
  refine jo_l (ly_mv rfl) (hd 11 rfl) ?_
  refine jo_l (ly_lenl sl25 rfl) (hd 12 rfl) ?_
  refine jo_l (ly_mv rfl) (hd 13 rfl) ?_
  refine jo_nil ?_
  refine jc_block ?_
  refine jc_loopF (G := Nat) (fun i => i ≤ l.length) (fun i => [(13, .i .i64 (i : Int)), (4, .u), (5, .u), (14, .u), (15, .u), (16, .u), (17, .u), (18, .u), (19, .u), (20, .u), (21, .u), (22, .u), (23, .u), (24, .u), (25, .u), (26, .u), (27, .u), (28, .u), (29, .u), (30, .u), (31, .u), (32, .u), (33, .u), (34, .u), (35, .u), (36, .u), (37, .u), (38, .u), (39, .u), (40, .u)]) (fun _ => _) (fun i => l.length - i) 0 ?_ ?_ rfl ?_
  · exact Nat.zero_le _
  · exact (.cons rfl (.u (.u (.u (.u (.u (.u (.u (.u (.u (.u (.u (.u (.u (.u (.u (.u (.u (.u (.u (.u (.u (.u (.u (.u (.u (.u (.u (.u (.u .nil))))))))))))))))))))))))))))))
  · rintro i hC
    refine jc_seq ?_
    refine jc_region ?_
    refine jo_l (ly_lt rfl rfl) (hd 14 rfl) ?_
    refine jo_nil ?_
    refine jc_seq ?_
    refine jc_if rfl (fun h2 => ?_) (fun h2 => ?_)
    · refine jc_skip ?_
      refine jc_seq ?_
      refine jc_block ?_
      refine jc_seq ?_
      obtain ⟨t, ht⟩ : ∃ t, l[i]? = some t := ⟨_, List.getElem?_eq_getElem (by omega)⟩
      obtain ⟨t2, ht2, he1, he2⟩ := erase_at he ht
      refine jc_region ?_
      refine jo_l (ly_mv rfl) (hd 15 rfl) ?_
      refine jo_l (ly_as rfl) (hd 5 rfl) ?_
      refine jo_nil ?_
      refine jc_seq ?_
      refine jc_draw (n := 24) _ rfl mixed ?_
      refine ja_l 0 (lo_l (ly_mv rfl) (hd 16 rfl)) rfl (by kernel_rfl) (by kernel_rfl) (by kernel_rfl) (fun _ _ _ _ h => h) ?_
      refine ja_l 1 (lo_l (ly_mv rfl) (hd 17 rfl)) rfl (by kernel_rfl) (by kernel_rfl) (by kernel_rfl) (fun _ _ _ _ h => h) ?_
      refine ja_l 2 (lo_l (ly_ial (i := i) (row := [.i .i64 t.1, .s t.2.1, .i .i64 (t.2.2 : Int)]) sl25 rfl rfl rfl (by rw [List.getElem?_map, ht]; rfl)) (hd 18 rfl)) rfl (by kernel_rfl) (by kernel_rfl) (by kernel_rfl) (fun _ _ _ _ h => h) ?_
      refine ja_l 3 (lo_l (ly_faq fld30_0 rfl rfl) (hd 19 rfl)) rfl (by kernel_rfl) (by kernel_rfl) (by kernel_rfl) (fun _ _ _ _ h => h) ?_
      refine ja_l 4 (lo_l (ly_ldq one28 rfl rfl) (hd 20 rfl)) rfl (by kernel_rfl) (by kernel_rfl) (by kernel_rfl) (fun _ _ _ _ h => h) ?_
      refine ja_l 5 (lo_l (ly_mv rfl) (hd 21 rfl)) rfl (by kernel_rfl) (by kernel_rfl) (by kernel_rfl) (fun _ _ _ _ h => h) ?_
      refine ja_l 6 (lo_l (ly_mv rfl) (hd 22 rfl)) rfl (by kernel_rfl) (by kernel_rfl) (by kernel_rfl) (fun _ _ _ _ h => h) ?_
      refine ja_l 7 (lo_l (ly_ial (i := i) (row := [.i .i64 t2.1, .s t2.2.1, .i .i64 (t2.2.2 : Int)]) sl25 rfl rfl rfl (by rw [List.getElem?_map, ht2]; rfl)) (hd 23 rfl)) rfl (by kernel_rfl) (by kernel_rfl) (by kernel_rfl) (fun _ _ _ _ h => h) ?_
      refine ja_l 8 (lo_l (ly_faq fld30_0 rfl rfl) (hd 24 rfl)) rfl (by kernel_rfl) (by kernel_rfl) (by kernel_rfl) (fun _ _ _ _ h => h) ?_
      refine ja_l 9 (lo_l (ly_ldq one28 rfl rfl) (hd 25 rfl)) rfl (by kernel_rfl) (by kernel_rfl) (by kernel_rfl) (fun _ _ _ _ h => h) ?_
      refine ja_l 10 (lo_l (ly_ff (ly_ne rfl rfl) (by rw [he1]; simp)) (hd 26 rfl)) rfl (by kernel_rfl) (by kernel_rfl) (by kernel_rfl) (fun _ _ _ _ h => h) ?_
      refine ja_l 11 (lo_l (ly_mv rfl) (hd 27 rfl)) rfl (by kernel_rfl) (by kernel_rfl) (by kernel_rfl) (fun _ _ _ _ h => h) ?_
      refine ja_l 12 (lo_g 27 rfl rfl (ly_mv rfl) (hd 28 rfl)) rfl (by kernel_rfl) (by kernel_rfl) (by kernel_rfl) (fun _ _ _ _ h => h) ?_
      refine ja_l 13 (lo_g 27 rfl rfl (ly_mv rfl) (hd 29 rfl)) rfl (by kernel_rfl) (by kernel_rfl) (by kernel_rfl) (fun _ _ _ _ h => h) ?_
      refine ja_l 14 (lo_g 27 rfl rfl (ly_ial (i := i) (row := [.i .i64 t.1, .s t.2.1, .i .i64 (t.2.2 : Int)]) sl25 rfl rfl rfl (by rw [List.getElem?_map, ht]; rfl)) (hd 30 rfl)) rfl (by kernel_rfl) (by kernel_rfl) (by kernel_rfl) (fun _ _ _ _ h => h) ?_
      refine ja_l 15 (lo_g 27 rfl rfl (ly_faq fld30_1 rfl rfl) (hd 31 rfl)) rfl (by kernel_rfl) (by kernel_rfl) (by kernel_rfl) (fun _ _ _ _ h => h) ?_
      refine ja_l 16 (lo_g 27 rfl rfl (ly_ldq one9 rfl rfl) (hd 32 rfl)) rfl (by kernel_rfl) (by kernel_rfl) (by kernel_rfl) (fun _ _ _ _ h => h) ?_
      refine ja_l 17 (lo_g 27 rfl rfl (ly_mv rfl) (hd 33 rfl)) rfl (by kernel_rfl) (by kernel_rfl) (by kernel_rfl) (fun _ _ _ _ h => h) ?_
      refine ja_l 18 (lo_g 27 rfl rfl (ly_mv rfl) (hd 34 rfl)) rfl (by kernel_rfl) (by kernel_rfl) (by kernel_rfl) (fun _ _ _ _ h => h) ?_
      refine ja_l 19 (lo_g 27 rfl rfl (ly_ial (i := i) (row := [.i .i64 t2.1, .s t2.2.1, .i .i64 (t2.2.2 : Int)]) sl25 rfl rfl rfl (by rw [List.getElem?_map, ht2]; rfl)) (hd 35 rfl)) rfl (by kernel_rfl) (by kernel_rfl) (by kernel_rfl) (fun _ _ _ _ h => h) ?_
      refine ja_l 20 (lo_g 27 rfl rfl (ly_faq fld30_1 rfl rfl) (hd 36 rfl)) rfl (by kernel_rfl) (by kernel_rfl) (by kernel_rfl) (fun _ _ _ _ h => h) ?_
      refine ja_l 21 (lo_g 27 rfl rfl (ly_ldq one9 rfl rfl) (hd 37 rfl)) rfl (by kernel_rfl) (by kernel_rfl) (by kernel_rfl) (fun _ _ _ _ h => h) ?_
      refine ja_l 22 (lo_g 27 rfl rfl (ly_ff (ly_neS rfl rfl) (by rw [he2]; simp)) (hd 38 rfl)) rfl (by kernel_rfl) (by kernel_rfl) (by kernel_rfl) (fun _ _ _ _ h => h) ?_
      refine ja_l 23 (lo_l (ly_pick_f rfl rfl) (hd 39 rfl)) rfl (by kernel_rfl) (by kernel_rfl) (by kernel_rfl) (fun _ _ _ _ h => h) ?_
      refine ja_nil (by kernel_rfl) ?_
      refine jc_litf rfl ?_
      refine jc_skip ?_
      refine jc_region ?_
      refine jo_l (ly_add rfl rfl (wrap_i64 (by omega) (by omega))) (hd 40 rfl) ?_
      refine jo_l (ly_mv rfl) (hd 13 rfl) ?_
      refine jo_nil ?_
      refine ⟨i + 1, ?_, ?_, rfl, cov_n 59 rfl rfl ?_⟩
      · omega
      · omega
      · exact (.cons rfl (.u (.u (.u (.u (.u (.u (.u (.u (.u (.u (.u (.u (.u (.u (.u (.u (.u (.u (.u (.u (.u (.u (.u (.u (.u (.u (.u (.u (.u .nil))))))))))))))))))))))))))))))
    · refine jc_exit ?_
      refine jc_seq ?_
      refine jc_region ?_
      refine jo_l (ly_as rfl) (hd 4 rfl) ?_
      refine jo_nil ?_
      refine jc_ret ?_
      refine ⟨_, _, (.cons rfl .nil), .b, ?_⟩
      exact rfl

theorem LexBlanks_ok {s : ByteArray} {l : List Tok} (w q : Int) (hs : s.size ≤ 1048576) (h : lexGo s 0 = (l, none)) : Spec Try.prog 5 [.s s, .i .i64 w, .i .i64 q] (fun o => o = .ret (.b true)) := by
  refine spec_of' [(0, .s s), (1, .i .i64 w), (2, .i .i64 q)] rfl Try.func5 rfl (Nat.le_of_ble_eq_true rfl) fun Γ hN hds hL hR => ?_
  have hd : ∀ d, Nat.blt d 99 = true → d < Γ.N := fun d h => by rw [hN]; exact Nat.le_of_ble_eq_true h
  have hm : (l.map tokRow).length = l.length := by simp
  have hll := lexGo_len l 0 none (Nat.zero_le _) h
  obtain ⟨i4, hi4, h4⟩ := wrapped (w := q) (n := 4) (by decide)
  have ht4 := tm_pos (k := q) (n := 4) (by decide)
  obtain ⟨m, hma, hmb, hm0, hm4⟩ := mores_at hi4
  obtain ⟨l2, hl2, he2⟩ := blanks_out h hmb hm0
  have y1 : (m ++ s).size = m.size + s.size := size_app _ _
  have y2 : ((m ++ s) ++ m).size = (m ++ s).size + m.size := size_app _ _
  refine jc_seq ?_
  refine jc_region ?_
  refine jo_l (ly_as rfl) (hd 6 rfl) ?_
  refine jo_nil ?_
  refine jc_seq ?_
  refine jc_region ?_
  refine jo_l (ly_mv rfl) (hd 19 rfl) ?_
  refine jo_call Try.f14 (Lex_ok (by omega) h) rfl Try.func14 rfl rfl (ovL_cons rfl ovL_nil) (.cons .s .nil) (hd 20 rfl) ?_ (fun ch hp => by simp at hp)
  rintro y hy; injection hy with hy; subst hy
  refine jo_l (ly_mv rfl) (hd 18 rfl) ?_
  refine jo_l (ly_ext rfl rfl) (hd 21 rfl) ?_
  refine jo_l (ly_ext rfl rfl) (hd 22 rfl) ?_
  refine jo_l (ly_ext rfl rfl) (hd 23 rfl) ?_
  refine jo_l (ly_as rfl) (hd 7 rfl) ?_
  refine jo_l (ly_as rfl) (hd 8 rfl) ?_
  refine jo_l (ly_as rfl) (hd 9 rfl) ?_
  refine jo_nil ?_
  refine jc_seq ?_
  refine jc_seq ?_
  refine jc_region ?_
  refine jo_l (ly_mv rfl) (hd 24 rfl) ?_
  refine jo_call Try.f12 (num_s _) rfl Try.func12 rfl rfl (ovL_cons rfl ovL_nil) (.cons .i .nil) (hd 25 rfl) ?_ (fun ch hp => by simp at hp)
  rintro y hy; injection hy with hy; subst hy
  refine jo_l (ly_ff (ly_ne rfl rfl) (by decide)) (hd 26 rfl) ?_
  refine jo_nil ?_
  refine jc_litf rfl ?_
  refine jc_skip ?_
  refine jc_seq ?_
  refine jc_region ?_
  refine jo_h (hy_lit (id := 0) (xs := [_, _, _, _]) el33 rfl (ovL_cons rfl (ovL_cons rfl (ovL_cons rfl (ovL_cons rfl ovL_nil)))) rfl (all2_of rfl) (by decide) rfl) (hd 28 rfl) ?_
  refine jo_l (ly_mv rfl) (hd 29 rfl) ?_
  refine jo_l (ly_rem rfl rfl (by omega) rfl) (hd 30 rfl) ?_
  refine jo_l (ly_add rfl rfl (wrap_i64 (by omega) (by omega))) (hd 31 rfl) ?_
  refine jo_l (ly_is (ly_rem rfl rfl (by omega) rfl) (show V.i .i64 ((q.tmod 4 + 4).tmod 4) = V.i .i64 (i4 : Int) from congrArg _ h4)) (hd 32 rfl) ?_
  refine jo_l (ly_ia (i := i4) sl33 rfl rfl rfl rfl hi4 rfl) (hd 33 rfl) ?_
  refine jo_l (ly_ld one9 rfl rfl (show (mores.map V.s)[(0 + i4) * 1]? = some (.s m) by rw [Nat.zero_add, Nat.mul_one, List.getElem?_map, hma]; rfl)) (hd 34 rfl) ?_
  refine jo_l (ly_as rfl) (hd 10 rfl) ?_
  refine jo_nil ?_
  refine jc_seq ?_
  refine jc_region ?_
  refine jo_l (ly_mv rfl) (hd 35 rfl) ?_
  refine jo_l (ly_lens und9 rfl) (hd 36 rfl) ?_
  refine jo_l (ly_as rfl) (hd 11 rfl) ?_
  refine jo_nil ?_
  refine jc_meetH (G := Nat) (fun a => a ≤ s.size ∧ Bd s 0 a) (fun a => [(11, .i .i64 (a : Int)), (37, .u), (38, .u), (39, .u), (40, .u), (41, .u), (42, .u), (43, .u), (44, .u), (45, .u), (46, .u), (47, .u), (48, .u), (49, .u), (50, .u), (51, .u), (52, .u), (53, .u)]) ?_ ?_
  · refine jc_seq ?_
    refine jc_region ?_
    refine jo_l (ly_mv rfl) (hd 37 rfl) ?_
    refine jo_l (ly_lenl sl25 rfl) (hd 38 rfl) ?_
    refine jo_l (ly_gt rfl rfl) (hd 39 rfl) ?_
    refine jo_nil ?_
    refine jc_if rfl (fun h2 => ?_) (fun h2 => ?_)
    · have hL : 0 < l.length := by
        have h0 : (0 : Int) < ((l.map tokRow).length : Int) := by assumption
        omega
      obtain ⟨i, hi, hie⟩ := wrapped (w := w) (n := (l.map tokRow).length) (by omega)
      have hw := tm_pos (k := w) (n := ((l.map tokRow).length : Int)) (by omega)
      obtain ⟨t, ht⟩ : ∃ t, l[i]? = some t := ⟨_, List.getElem?_eq_getElem (by omega)⟩
      refine jc_region ?_
      refine jo_l (ly_mv rfl) (hd 40 rfl) ?_
      refine jo_l (ly_mv rfl) (hd 41 rfl) ?_
      refine jo_l (ly_mv rfl) (hd 42 rfl) ?_
      refine jo_l (ly_lenl sl25 rfl) (hd 43 rfl) ?_
      refine jo_l (ly_rem rfl rfl (by omega) rfl) (hd 44 rfl) ?_
      refine jo_l (ly_mv rfl) (hd 45 rfl) ?_
      refine jo_l (ly_lenl sl25 rfl) (hd 46 rfl) ?_
      refine jo_l (ly_add rfl rfl (wrap_i64 (by omega) (by omega))) (hd 47 rfl) ?_
      refine jo_l (ly_mv rfl) (hd 48 rfl) ?_
      refine jo_l (ly_lenl sl25 rfl) (hd 49 rfl) ?_
      refine jo_l (ly_is (ly_rem rfl rfl (by omega) rfl) (show V.i .i64 ((w.tmod ((l.map tokRow).length : Int) + ((l.map tokRow).length : Int)).tmod ((l.map tokRow).length : Int)) = V.i .i64 (i : Int) from congrArg _ hie)) (hd 50 rfl) ?_
      refine jo_l (ly_ial (i := i) (row := [.i .i64 t.1, .s t.2.1, .i .i64 (t.2.2 : Int)]) sl25 rfl rfl rfl (by rw [List.getElem?_map, ht]; rfl)) (hd 51 rfl) ?_
      refine jo_l (ly_faq fld30_2 rfl rfl) (hd 52 rfl) ?_
      refine jo_l (ly_ldq one3 rfl rfl) (hd 53 rfl) ?_
      refine jo_l (ly_as rfl) (hd 11 rfl) ?_
      refine jo_nil ?_
      refine ⟨t.2.2, ?_, rfl, cov_n 18 rfl rfl ?_⟩
      · have hbt := bd_tok i 0 l t (Nat.zero_le _) h ht
        exact ⟨hbt.2.1, hbt.2.2⟩
      · exact (.cons rfl (.u (.u (.u (.u (.u (.u (.u (.u (.u (.u (.u (.u (.u (.u (.u (.u (.u .nil))))))))))))))))))
    · refine jc_skip ?_
      refine ⟨s.size, ?_, rfl, cov_n 3 rfl rfl ?_⟩
      · exact ⟨Nat.le_refl _, bd_end 0 (Nat.zero_le _) h⟩
      · exact (.cons rfl (.u (.u (.u (.u (.u (.u (.u (.u (.u (.u (.u (.u (.u (.u (.u (.u (.u .nil))))))))))))))))))
  · rintro a ⟨ha, hb⟩
    obtain ⟨l1, hl1, he1⟩ := blanks_in h hmb hm0 ha hb
    have z1 : (s.extract 0 a).size = a - 0 := ex_size ha
    have z2 : (s.extract a s.size).size = s.size - a := ex_size (Nat.le_refl _)
    have z3 : (s.extract 0 a ++ m).size = (s.extract 0 a).size + m.size := size_app _ _
    have z4 : ((s.extract 0 a ++ m) ++ s.extract a s.size).size = (s.extract 0 a ++ m).size + (s.extract a s.size).size := size_app _ _
    refine jc_seq ?_
    refine jc_draw (n := 17) _ rfl mixed ?_
    refine ja_l 0 (lo_l (ly_mv rfl) (hd 55 rfl)) rfl (by kernel_rfl) (by kernel_rfl) (by kernel_rfl) (fun _ _ _ _ h => h) ?_
    refine ja_l 1 (lo_l (ly_mv rfl) (hd 56 rfl)) rfl (by kernel_rfl) (by kernel_rfl) (by kernel_rfl) (fun _ _ _ _ h => h) ?_
    refine ja_l 2 (lo_l (ly_sls und9 rfl bnd_none (bnd_some' rfl (by first | rfl | omega)) (by omega) (by omega)) (hd 57 rfl)) rfl (by kernel_rfl) (by kernel_rfl) (by kernel_rfl) (fun _ _ _ _ h => h) ?_
    refine ja_l 3 (lo_l (ly_mv rfl) (hd 58 rfl)) rfl (by kernel_rfl) (by kernel_rfl) (by kernel_rfl) (fun _ _ _ _ h => h) ?_
    refine ja_l 4 (lo_l (ly_adds rfl rfl (by show _ ≤ (9223372036854775807 : Int); omega)) (hd 59 rfl)) rfl (by kernel_rfl) (by kernel_rfl) (by kernel_rfl) (fun _ _ _ _ h => h) ?_
    refine ja_l 5 (lo_l (ly_mv rfl) (hd 60 rfl)) rfl (by kernel_rfl) (by kernel_rfl) (by kernel_rfl) (fun _ _ _ _ h => h) ?_
    refine ja_l 6 (lo_l (ly_mv rfl) (hd 61 rfl)) rfl (by kernel_rfl) (by kernel_rfl) (by kernel_rfl) (fun _ _ _ _ h => h) ?_
    refine ja_l 7 (lo_l (ly_sls und9 rfl (bnd_some' rfl (by first | rfl | omega)) bnd_none (by omega) (by omega)) (hd 62 rfl)) rfl (by kernel_rfl) (by kernel_rfl) (by kernel_rfl) (fun _ _ _ _ h => h) ?_
    refine ja_l 8 (lo_l (ly_adds rfl rfl (by show _ ≤ (9223372036854775807 : Int); omega)) (hd 63 rfl)) rfl (by kernel_rfl) (by kernel_rfl) (by kernel_rfl) (fun _ _ _ _ h => h) ?_
    refine ja_1 9 ?_ rfl (by kernel_rfl)
    refine js_call Try.f14 (Lex_ok (by omega) hl1) rfl Try.func14 rfl rfl (ovL_cons rfl ovL_nil) (.cons .s .nil) (hd 64 rfl) ?_ (fun ch hp => by simp at hp)
    rintro y hy; injection hy with hy; subst hy
    refine ja_l 10 (lo_l (ly_mv rfl) (hd 54 rfl)) rfl (by kernel_rfl) (by kernel_rfl) (by kernel_rfl) (fun _ _ _ _ h => h) ?_
    refine ja_l 11 (lo_l (ly_ext rfl rfl) (hd 65 rfl)) rfl (by kernel_rfl) (by kernel_rfl) (by kernel_rfl) (fun _ _ _ _ h => h) ?_
    refine ja_l 12 (lo_l (ly_ext rfl rfl) (hd 66 rfl)) rfl (by kernel_rfl) (by kernel_rfl) (by kernel_rfl) (fun _ _ _ _ h => h) ?_
    refine ja_l 13 (lo_l (ly_ext rfl rfl) (hd 67 rfl)) rfl (by kernel_rfl) (by kernel_rfl) (by kernel_rfl) (fun _ _ _ _ h => h) ?_
    refine ja_l 14 (lo_l (ly_as rfl) (hd 12 rfl)) rfl (by kernel_rfl) (by kernel_rfl) (by kernel_rfl) (fun _ _ _ _ h => h) ?_
    refine ja_l 15 (lo_l (ly_as rfl) (hd 13 rfl)) rfl (by kernel_rfl) (by kernel_rfl) (by kernel_rfl) (fun _ _ _ _ h => h) ?_
    refine ja_l 16 (lo_l (ly_as rfl) (hd 14 rfl)) rfl (by kernel_rfl) (by kernel_rfl) (by kernel_rfl) (fun _ _ _ _ h => h) ?_
    refine ja_nil (by kernel_rfl) ?_
    refine jc_seq ?_
    refine jc_region ?_
    refine jo_l (ly_mv rfl) (hd 69 rfl) ?_
    refine jo_l (ly_mv rfl) (hd 70 rfl) ?_
    refine jo_l (ly_adds rfl rfl (by show _ ≤ (9223372036854775807 : Int); omega)) (hd 71 rfl) ?_
    refine jo_l (ly_mv rfl) (hd 72 rfl) ?_
    refine jo_l (ly_adds rfl rfl (by show _ ≤ (9223372036854775807 : Int); omega)) (hd 73 rfl) ?_
    refine jo_call Try.f14 (Lex_ok (by omega) hl2) rfl Try.func14 rfl rfl (ovL_cons rfl ovL_nil) (.cons .s .nil) (hd 74 rfl) ?_ (fun ch hp => by simp at hp)
    rintro y hy; injection hy with hy; subst hy
    refine jo_l (ly_mv rfl) (hd 68 rfl) ?_
    refine jo_l (ly_ext rfl rfl) (hd 75 rfl) ?_
    refine jo_l (ly_ext rfl rfl) (hd 76 rfl) ?_
    refine jo_l (ly_ext rfl rfl) (hd 77 rfl) ?_
    refine jo_l (ly_as rfl) (hd 15 rfl) ?_
    refine jo_l (ly_as rfl) (hd 16 rfl) ?_
    refine jo_l (ly_as rfl) (hd 17 rfl) ?_
    refine jo_nil ?_
    refine jc_seq ?_
    refine jc_region ?_
    refine jo_l (ly_mv rfl) (hd 78 rfl) ?_
    refine jo_call Try.f12 (num_s _) rfl Try.func12 rfl rfl (ovL_cons rfl ovL_nil) (.cons .i .nil) (hd 79 rfl) ?_ (fun ch hp => by simp at hp)
    rintro y hy; injection hy with hy; subst hy
    refine jo_l (ly_tt (ly_eq rfl rfl) rfl) (hd 80 rfl) ?_
    refine jo_l (ly_mv rfl) (hd 81 rfl) ?_
    refine jo_g 81 rfl rfl (ly_mv rfl) (hd 82 rfl) ?_
    refine jo_callg Try.f12 81 rfl rfl (num_s _) rfl Try.func12 rfl rfl (ovL_cons rfl ovL_nil) (.cons .i .nil) (hd 83 rfl) ?_ (fun ch hp => by simp at hp)
    rintro y hy; injection hy with hy; subst hy
    refine jo_g 81 rfl rfl (ly_tt (ly_eq rfl rfl) rfl) (hd 84 rfl) ?_
    refine jo_l (ly_pick_t rfl rfl) (hd 85 rfl) ?_
    refine jo_l (ly_mv rfl) (hd 86 rfl) ?_
    refine jo_g 86 rfl rfl (ly_mv rfl) (hd 87 rfl) ?_
    refine jo_g 86 rfl rfl (ly_mv rfl) (hd 88 rfl) ?_
    refine jo_callg Try.f16 86 rfl rfl (same_er l l1 false false (by omega) he1) rfl Try.func16 rfl rfl (ovL_cons rfl (ovL_cons rfl ovL_nil)) (.cons .l (.cons .l .nil)) (hd 89 rfl) ?_ (fun ch hp => by simp at hp)
    rintro y hy; injection hy with hy; subst hy
    refine jo_l (ly_pick_t rfl rfl) (hd 90 rfl) ?_
    refine jo_l (ly_mv rfl) (hd 91 rfl) ?_
    refine jo_g 91 rfl rfl (ly_mv rfl) (hd 92 rfl) ?_
    refine jo_g 91 rfl rfl (ly_mv rfl) (hd 93 rfl) ?_
    refine jo_callg Try.f16 91 rfl rfl (same_er l l2 false false (by omega) he2) rfl Try.func16 rfl rfl (ovL_cons rfl (ovL_cons rfl ovL_nil)) (.cons .l (.cons .l .nil)) (hd 94 rfl) ?_ (fun ch hp => by simp at hp)
    rintro y hy; injection hy with hy; subst hy
    refine jo_l (ly_pick_t rfl rfl) (hd 95 rfl) ?_
    refine jo_l (ly_mv rfl) (hd 96 rfl) ?_
    refine jo_callg Try.f13 96 rfl rfl (awake_s) rfl Try.func13 rfl rfl ovL_nil .nil (hd 97 rfl) ?_ (fun ch hp => by simp at hp)
    rintro y hy; injection hy with hy; subst hy
    refine jo_l (ly_pick_t rfl rfl) (hd 98 rfl) ?_
    refine jo_l (ly_as rfl) (hd 6 rfl) ?_
    refine jo_nil ?_
    refine jc_ret ?_
    refine ⟨_, _, (.cons rfl .nil), .b, ?_⟩
    exact rfl

theorem LexBlanks_bad {s : ByteArray} {l : List Tok} {p : Nat} (w q : Int) (hs : s.size ≤ 1048576) (h : lexGo s 0 = (l, some p)) : Spec Try.prog 5 [.s s, .i .i64 w, .i .i64 q] (fun o => o = .ret (.b true)) := by
  refine spec_of' [(0, .s s), (1, .i .i64 w), (2, .i .i64 q)] rfl Try.func5 rfl (Nat.le_of_ble_eq_true rfl) fun Γ hN hds hL hR => ?_
  have hd : ∀ d, Nat.blt d 99 = true → d < Γ.N := fun d h => by rw [hN]; exact Nat.le_of_ble_eq_true h
  refine jc_seq ?_
  refine jc_region ?_
  refine jo_l (ly_as rfl) (hd 6 rfl) ?_
  refine jo_nil ?_
  refine jc_seq ?_
  refine jc_region ?_
  refine jo_l (ly_mv rfl) (hd 19 rfl) ?_
  refine jo_call Try.f14 (Lex_bad (by omega) h) rfl Try.func14 rfl rfl (ovL_cons rfl ovL_nil) (.cons .s .nil) (hd 20 rfl) ?_ (fun ch hp => by simp at hp)
  rintro y hy; injection hy with hy; subst hy
  refine jo_l (ly_mv rfl) (hd 18 rfl) ?_
  refine jo_l (ly_ext rfl rfl) (hd 21 rfl) ?_
  refine jo_l (ly_ext rfl rfl) (hd 22 rfl) ?_
  refine jo_l (ly_ext rfl rfl) (hd 23 rfl) ?_
  refine jo_l (ly_as rfl) (hd 7 rfl) ?_
  refine jo_l (ly_as rfl) (hd 8 rfl) ?_
  refine jo_l (ly_as rfl) (hd 9 rfl) ?_
  refine jo_nil ?_
  refine jc_seq ?_
  refine jc_seq ?_
  refine jc_region ?_
  refine jo_l (ly_mv rfl) (hd 24 rfl) ?_
  refine jo_call Try.f12 (num_s _) rfl Try.func12 rfl rfl (ovL_cons rfl ovL_nil) (.cons .i .nil) (hd 25 rfl) ?_ (fun ch hp => by simp at hp)
  rintro y hy; injection hy with hy; subst hy
  refine jo_l (ly_tt (ly_ne rfl rfl) (by decide)) (hd 26 rfl) ?_
  refine jo_nil ?_
  refine jc_litt rfl ?_
  refine jc_seq ?_
  refine jc_region ?_
  refine jo_call Try.f13 (awake_s) rfl Try.func13 rfl rfl ovL_nil .nil (hd 27 rfl) ?_ (fun ch hp => by simp at hp)
  rintro y hy; injection hy with hy; subst hy
  refine jo_l (ly_as rfl) (hd 6 rfl) ?_
  refine jo_nil ?_
  refine jc_ret ?_
  refine ⟨_, _, (.cons rfl .nil), .b, ?_⟩
  exact rfl

theorem LexBlanks_s (s : ByteArray) (w q : Int) (hs : s.size ≤ 1048576) : Spec Try.prog 5 [.s s, .i .i64 w, .i .i64 q] (fun o => o = .ret (.b true)) := by
  rcases h : lexGo s 0 with ⟨l, r⟩
  cases r with
  | none => exact LexBlanks_ok w q hs h
  | some p => exact LexBlanks_bad w q hs h
end Go.Proofs.Ytnpbpiommpgikaa.Vc
