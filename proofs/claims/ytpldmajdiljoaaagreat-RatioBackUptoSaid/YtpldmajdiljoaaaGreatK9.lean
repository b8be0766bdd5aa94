/- surdlaw07.RatioBack answers true for every rational of bulk at most 1048576, and leaves its input as it was: Parse undoes Print, Unchain undoes Chain Texts joined: Jn, Jo, Rf, Jp, Jq, RRBack. -/
import Derived.Test.YtpldmajdiljoaaaGreatK8
import Derived.Test.YtpldmajdiljoaaaGreatRows
import Derived.WalkKit
import Derived.ProofKit
import Derived.OpenShut
import Derived.Carry
import Derived.JoinedCond
set_option linter.unusedVariables false
set_option linter.unusedSimpArgs false
set_option maxHeartbeats 4000000
namespace Go.Proofs.YtpldmajdiljoaaaGreat.Vc
open Go Go.RowKit
theorem eu_s2' {v : Int} {w k : Nat} (hb : (eu v w k).2 ≠ 0) : ((eu v w (k + 1)).2 : Int) = (eu v w k).1 - wq 1 (eu v w k).1 ((eu v w k).2 : Int) * ((eu v w k).2 : Int) := by rw [(wq1_div hb).2, eu_s2 hb]
theorem Chn.end_is {v : Int} {w n k : Nat} (hc : Chn v w n) (h : ((eu v w (k + 1)).2 : Int) = 0) (hk : k < n) : n = k + 1 := by
  rcases Nat.lt_or_ge (k + 1) n with h1 | h1
  · have := hc.lt (k + 1) h1; omega
  · omega
theorem Chn.more {v : Int} {w n k : Nat} (hc : Chn v w n) (h : ¬ ((eu v w (k + 1)).2 : Int) = 0) (hk : k < n) : k + 1 < n := by
  rcases Nat.lt_or_ge (k + 1) n with h1 | h1
  · exact h1
  · have e : n = k + 1 := by omega
    subst e
    exact absurd (by rw [hc.z]; rfl) h

theorem Floor_eu {v : Int} {w k : Nat} (hb : (eu v w k).2 ≠ 0) (h1 : lenV (eu v w k).1 ≤ 1048600) (h2 : lenV ((eu v w k).2 : Int) ≤ 1048600) : Spec Tryz.prog 75 [.a [.b (decide ((eu v w k).1 < 0)), .n false .u64 (lm (eu v w k).1)], .a [.b false, .n false .u64 (lm ((eu v w k).2 : Int))]] (fun o => o = .ret (.t [.a [.b (decide ((eqt v w k) < 0)), .n false .u64 (lm (eqt v w k))], .a [.b false, .n false .u64 (lm ((eu v w (k + 1)).2 : Int))], .i .i64 0])) := by
  have l1 := lenV_lm (v := (eu v w k).1) (by omega)
  have l2 := lenV_lm (v := ((eu v w k).2 : Int)) (by omega)
  have h := (Floor_z (decide ((eu v w k).1 < 0)) false (lm (eu v w k).1) (lm ((eu v w k).2 : Int)) (eu v w k).1 ((eu v w k).2 : Int) (by omega) (by omega) (lm_u _) (lm_u _) (sv_lm _) (sv_zs (s := false)) (by omega) (by omega) (by omega)).olds
  have h9 : Spec Tryz.prog 75 [.a [.b (decide ((eu v w k).1 < 0)), .n false .u64 (lm (eu v w k).1)], .a [.b false, .n false .u64 (lm ((eu v w k).2 : Int))]] (fun o => o = .ret (.t [.a [.b (decide ((wq 1 (eu v w k).1 ((eu v w k).2 : Int)) < 0)), .n false .u64 (lm (wq 1 (eu v w k).1 ((eu v w k).2 : Int)))], .a [.b (decide (((eu v w k).1 - wq 1 (eu v w k).1 ((eu v w k).2 : Int) * ((eu v w k).2 : Int)) < 0)), .n false .u64 (lm ((eu v w k).1 - wq 1 (eu v w k).1 ((eu v w k).2 : Int) * ((eu v w k).2 : Int)))], .i .i64 0])) := h
  rw [← eu_s2' hb, (wq1_div hb).1, show decide (((eu v w (k + 1)).2 : Int) < 0) = false from decide_eq_false (by omega)] at h9
  exact h9

theorem Chain_s (s : Bool) (l d : List Int) (x y : Nat) (hx : Rw l x) (hy : Rw d y) (h0 : y ≠ 0) (v : Int) (w n : Nat) (hc : Chn v w n) (hv9 : lenV v ≤ 1048600) (hw9 : lenV (w : Int) ≤ 1048600) (hs1 : sgq s x = decide (v < 0)) (hl1 : (lm ((rn0 x y : Nat) : Int)) = lm v) (hw : rd0 x y = w) : Spec Tryz.prog 23 [(.a [.b s, .n false .u64 l, .n false .u64 d])] (fun o => o = .ret (.t [.l true 2 (cfR v w n), .i .i64 0])) := by
  refine spec_ofD [(0, (.a [.b s, .n false .u64 l, .n false .u64 d]))] rfl Tryz.func23 rfl (zlb rfl) fun Γ 𝓡 hN hds hL hR hE => ?_
  have hd := hdOf 43 hN
  have hNo : Spec Tryz.prog 32 [(.a [.b s, .n false .u64 l, .n false .u64 d])] (fun o => o = .ret (.a [.b (decide ((eu v w 0).1 < 0)), .n false .u64 (lm (eu v w 0).1), .n false .u64 (lm ((eu v w 0).2 : Int))])) := by have h := qnorm_s s l d x y hx hy h0; rw [hs1, hl1, hw] at h; exact h
  have hnl := hc.len hw9
  refine jcp_seq <| jc_region <| jo_h (hy_box (id := 0) (n := 3) rfl rfl rfl (by decide) rfl) (hd 1 rfl) <| jo_h (hy_alloc (id := 1) zero56 (by decide) rfl (by decide) rfl) (hd 2 rfl) <| jo_h (hy_alloc (id := 2) zero23 (by decide) rfl (by decide) rfl) (hd 3 rfl) <| jo_nil <| jcd_defer (g := 73) (caps := [.p 1 0 0, .p 2 0 0]) 3 [_] (ops := [_, _]) rfl Tryz.func73 rfl rfl rfl hds hR hL hE <| jo_l (ly_mf (ovL_cons rfl (ovL_cons rfl ovL_nil))) (hd 10 rfl) <| jo_nil ?_
  refine ⟨rfl, rfl, rfl, ?_⟩
  intro Γ1 hN1 hL hR1
  replace hd : ∀ d, Nat.blt d 43 = true → d < Γ1.N := fun d h => by rw [hN1]; exact hd d h
  refine jo_nil <| zsr <| jo_l (ly_lda agg1027 rfl rfl rfl rfl) (hd 11 rfl) <| jo_h (hy_lit (id := 3) (xs := [.tmp 11]) el1084 rfl (ovL_cons rfl ovL_nil) rfl (all2_of rfl) (by decide) rfl) (hd 12 rfl) <| jo_frzr 12 (sz := 3) [[V.b s, V.n false .u64 l, V.n false .u64 d]] rfl rfl rfl rfl (by simp) (by simp [pureV]) (by decide) hL ?_
  refine jo_call Tryz.f31 (looked_1 s l d y hy h0) rfl Tryz.func31 rfl rfl (ovL_cons rfl ovL_nil) (.cons .l .nil) (hd 13 rfl) ?_ (fun ch hp => by simp at hp)
  rintro _ ⟨⟩; refine jo_nil <| zsr <| jo_l (ly_lda agg1027 rfl rfl rfl rfl) (hd 14 rfl) ?_
  refine jo_call Tryz.f32 (hNo) rfl Tryz.func32 rfl rfl (ovL_cons rfl ovL_nil) (.cons (.a1 .b (.a1 .n (.a1 .n .a0))) .nil) (hd 15 rfl) ?_ (fun ch hp => by simp at hp)
  rintro _ ⟨⟩; refine jo_h (hy_alloc (id := 4) zero1027 (by decide) rfl (by decide) rfl) (hd 4 rfl) <| jo_st (sy_store rfl rfl rfl siz1027 rfl rfl (zlb rfl)) <| jo_nil <| jc_seq <| jc_nopan <| jc_hold 2 _ <| jc_draw (n := 9) _ rfl mixed ?_; refine ja_gen (fun _ _ _ _ h => h) fun ops1 Q1 F0 hpan ho hq hF => ?_
  have S4_111111111 : JA Tryz.prog ops1 0 #[true, true, true, true, true, true, true, true, true] Γ1 ([(5, .p 5 1 0), (6, .p 6 1 0), (16, .p 4 0 0), (17, .a [.b (decide ((eu v w 0).1 < 0)), .n false .u64 (lm (eu v w 0).1)]), (18, .p 4 0 2), (19, .n false .u64 (lm ((eu v w 0).2 : Int))), (20, .a [.b false, .n false .u64 (lm ((eu v w 0).2 : Int))])] ++ F0) [⟨27, 3, 0, true, [.b s, .n false .u64 l, .n false .u64 d]⟩, ⟨48, 1, 0, true, [.c (.slice none 0 0)]⟩, ⟨33, 1, 0, true, [.i .i64 0]⟩, ⟨27, 3, 0, false, []⟩, ⟨27, 3, 0, true, [.b (decide ((eu v w 0).1 < 0)), .n false .u64 (lm (eu v w 0).1), .n false .u64 (lm ((eu v w 0).2 : Int))]⟩, ⟨25, 2, 1, true, [.b (decide ((eu v w 0).1 < 0)), .n false .u64 (lm (eu v w 0).1)]⟩, ⟨25, 2, 1, true, [.b false, .n false .u64 (lm ((eu v w 0).2 : Int))]⟩] Q1 := by
    subst ho; subst hq; subst hF; refine ja_nil (by kernel_rfl) <| jc_block <| jc_own0c (id := 1) 0 25 2 rfl rfl rfl ?_
    refine jc_loopDD (G := Nat) 8 (fun k => k < n) (fun k => [(7, .u), (8, .u), (9, .u), (21, .u), (22, .u), (23, .u), (24, .u), (25, .u), (26, .u), (27, .u), (28, .u), (29, .u), (30, .u), (31, .u), (32, .u), (33, .u), (34, .u), (35, .u), (36, .u), (37, .u), (38, .u), (39, .u), (40, .u), (41, .u), (42, .u)]) (fun k => [⟨27, 3, 0, true, [.b s, .n false .u64 l, .n false .u64 d]⟩, ⟨48, 1, 0, true, [.o 7 k 0 k]⟩, ⟨33, 1, 0, true, [.i .i64 0]⟩, ⟨27, 3, 0, false, []⟩, ⟨27, 3, 0, true, [.b (decide ((eu v w 0).1 < 0)), .n false .u64 (lm (eu v w 0).1), .n false .u64 (lm ((eu v w 0).2 : Int))]⟩, ⟨25, 2, 1, true, [.b (decide ((eu v w k).1 < 0)), .n false .u64 (lm (eu v w k).1)]⟩, ⟨25, 2, 1, true, [.b false, .n false .u64 (lm ((eu v w k).2 : Int))]⟩, ⟨25, 2, k, true, (cfR v w k).flatten⟩]) (fun k => n - k) 0 ?_ ?_ rfl (Nat.le_trans (Nat.le_of_eq hR1) (by decide)) rfl (fun _ _ => rfl) (fun k hk => .cons (by simp [idB]) (.cons rfl (.cons rfl (.dead rfl (.cons rfl (.cons rfl (.cons rfl (.cons (cfR_id 8) .nil)))))))) ?_
    · exact Nat.pos_of_ne_zero hc.n0
    · exact (.u (.u (.u (.u (.u (.u (.u (.u (.u (.u (.u (.u (.u (.u (.u (.u (.u (.u (.u (.u (.u (.u (.u (.u (.u .nil)))))))))))))))))))))))))
    · rintro k hk
      have hb := hc.lt k hk
      have hln := eu_len hv9 hw9 (k := k) (fun j hj => hc.lt j (by omega))
      have hln1 := eu_len hv9 hw9 (k := k + 1) (fun j hj => hc.lt j (by omega))
      have hFl := Floor_eu hb hln.1 hln.2
      have l3 := lenV_lm (v := ((eu v w (k + 1)).2 : Int)) (Nat.le_trans hln1.2 (by decide))
      have hSg : Spec Tryz.prog 76 [.a [.b false, .n false .u64 (lm ((eu v w (k + 1)).2 : Int))]] (fun o => o = .ret (.i .i64 (sgnI ((eu v w (k + 1)).2 : Int)))) := by have h := WSign_s false (lm ((eu v w (k + 1)).2 : Int)) (by omega) (lm_u _); rwa [sv_zs (s := false)] at h
      refine jc_block <| zsr <| jo_l (ly_lda agg30 rfl rfl rfl rfl) (hd 22 rfl) <| jo_l (ly_lda agg30 rfl rfl rfl rfl) (hd 23 rfl) ?_
      refine jo_call Tryz.f75 (hFl) rfl Tryz.func75 rfl rfl (ovL_cons rfl (ovL_cons rfl ovL_nil)) (.cons (.a1 .b (.a1 .n .a0)) (.cons (.a1 .b (.a1 .n .a0)) .nil)) (hd 24 rfl) ?_ (fun ch hp => by simp at hp)
      rintro _ ⟨⟩; refine zmv rfl (hd 21 rfl) <| jo_l (ly_ext rfl rfl) (hd 25 rfl) <| jo_l (ly_ext rfl rfl) (hd 26 rfl) <| jo_l (ly_ext rfl rfl) (hd 27 rfl) <| jo_h (hy_alloc (id := 8) zero30 (by decide) rfl (by decide) rfl) (hd 7 rfl) <| jo_h (hy_alloc (id := 9) zero30 (by decide) rfl (by decide) rfl) (hd 8 rfl) <| jo_st (sy_store rfl rfl rfl siz30 rfl rfl (zlb rfl)) <| jo_st (sy_store rfl rfl rfl siz30 rfl rfl (zlb rfl)) <| zas rfl (hd 9 rfl) <| jo_nil <| jc_seq <| jc_seq <| jc_region ?_; refine zmv rfl (hd 28 rfl) <| jo_l (ly_ff (ly_ne rfl rfl) (by decide)) (hd 29 rfl) <| jo_nil <| jc_litf rfl <| jc_skip <| zsr <| jo_l (ly_ld one56 rfl rfl rfl) (hd 33 rfl) <| jo_l (ly_lda agg30 rfl rfl rfl rfl) (hd 34 rfl) <| jo_h (hy_lit (id := 10) (xs := [.tmp 34]) el56 rfl (ovL_cons rfl ovL_nil) rfl (all2_of rfl) (by decide) rfl) (hd 35 rfl) <| jo_app el56 rfl rfl cfR_flat rfl (src_o rfl rfl rfl) (by omega) (by unfold maxLen; omega) (hd 36 rfl) <| jo_st (sy_store rfl rfl rfl siz56 rfl (by simp [cellsV, oneO]) (zlb rfl)) <| jo_nil ?_; refine jc_seq <| zsr <| jo_l (ly_lda agg30 rfl rfl rfl rfl) (hd 37 rfl) ?_
      refine jo_call Tryz.f76 (hSg) rfl Tryz.func76 rfl rfl (ovL_cons rfl ovL_nil) (.cons (.a1 .b (.a1 .n .a0)) .nil) (hd 38 rfl) ?_ (fun ch hp => by simp at hp)
      rintro _ ⟨⟩; refine jo_l (ly_eq rfl rfl) (hd 39 rfl) <| jo_nil ?_
      refine jc_if rfl (fun h2 => ?_) (fun h2 => ?_)
      · have hz := hc.end_is (sgnI_0.1 h2) hk
        subst hz; refine zsr <| jo_l (ly_ld one56 rfl rfl rfl) (hd 40 rfl) <| jo_st (sy_store rfl rfl rfl siz56 rfl (by simp [cellsV, oneO]) (zlb rfl)) <| jo_st (sy_store rfl rfl rfl siz23 rfl rfl (zlb rfl)) <| jo_nil <| jc_ret <| Clo.fin clo_2383 (m := 3) (i := 1) (j := 2) (zlb rfl) rfl rfl rfl rfl ?_
        refine ⟨_, _, (.cons (ResV.cell1 one56 rfl rfl rfl) (.cons (ResV.cell1 one23 rfl rfl rfl) .nil)), (.t1 (.ol (rows := cfR v w (k + 1)) rfl cfR_snoc.symm cfR_len cfR_row cfR_pure (by decide)) (.t1 .i .t0)), ?_⟩
        exact rfl
      · have hk1 : k + 1 < n := hc.more (fun e => h2 (sgnI_0.2 e)) hk
        refine jc_skip <| jc_nopan <| jc_draw (n := 4) _ rfl mixed <| zal 0 (lo_l (ly_lda agg30 rfl rfl rfl rfl) (hd 41 rfl)) rfl ?_
        refine ja_2 1 2 ?_ ?_ rfl rfl (by kernel_rfl)
        · refine js_l (ly_lda agg30 rfl rfl rfl rfl) (hd 42 rfl) ?_
          refine ja_1 2 ?_ rfl (by kernel_rfl)
          refine js_st (sy_store rfl rfl rfl siz30 rfl rfl (zlb rfl)) rfl ?_
          refine ja_1 3 ?_ rfl (by kernel_rfl)
          refine js_st (sy_store rfl rfl rfl siz30 rfl rfl (zlb rfl)) rfl <| ja_nil (by kernel_rfl) ?_
          refine ⟨k + 1, ?_, ?_, (by show [(_ : Ob), _, _, _, _, _, _, _] = [_, _, _, _, _, _, _, _]; rw [cfR_snoc, eu_s1, show decide (((eu v w k).2 : Int) < 0) = false from decide_eq_false (by omega)]; rfl), cov_n 46 rfl rfl ?_⟩
          · exact hk1
          · show n - (k + 1) < n - k
            omega
          · exact (.u (.u (.u (.u (.u (.u (.u (.u (.u (.u (.u (.u (.u (.u (.u (.u (.u (.u (.u (.u (.u (.u (.u (.u (.u .nil)))))))))))))))))))))))))
        · refine js_st (sy_store rfl rfl rfl siz30 rfl rfl (zlb rfl)) rfl <| zal 1 (lo_l (ly_lda agg30 rfl rfl rfl rfl) (hd 42 rfl)) rfl ?_
          refine ja_1 3 ?_ rfl (by kernel_rfl)
          refine js_st (sy_store rfl rfl rfl siz30 rfl rfl (zlb rfl)) rfl <| ja_nil (by kernel_rfl) ?_
          refine ⟨k + 1, ?_, ?_, (by show [(_ : Ob), _, _, _, _, _, _, _] = [_, _, _, _, _, _, _, _]; rw [cfR_snoc, eu_s1, show decide (((eu v w k).2 : Int) < 0) = false from decide_eq_false (by omega)]; rfl), cov_n 46 rfl rfl ?_⟩
          · exact hk1
          · show n - (k + 1) < n - k
            omega
          · exact (.u (.u (.u (.u (.u (.u (.u (.u (.u (.u (.u (.u (.u (.u (.u (.u (.u (.u (.u (.u (.u (.u (.u (.u (.u .nil)))))))))))))))))))))))))
  have S4_111111110 : JA Tryz.prog ops1 1 #[true, true, true, true, true, true, true, true, false] Γ1 ([(5, .p 5 1 0), (6, .p 6 1 0), (16, .p 4 0 0), (17, .a [.b (decide ((eu v w 0).1 < 0)), .n false .u64 (lm (eu v w 0).1)]), (18, .p 4 0 2), (19, .n false .u64 (lm ((eu v w 0).2 : Int))), (20, .a [.b false, .n false .u64 (lm ((eu v w 0).2 : Int))])] ++ F0) [⟨27, 3, 0, true, [.b s, .n false .u64 l, .n false .u64 d]⟩, ⟨48, 1, 0, true, [.c (.slice none 0 0)]⟩, ⟨33, 1, 0, true, [.i .i64 0]⟩, ⟨27, 3, 0, false, []⟩, ⟨27, 3, 0, true, [.b (decide ((eu v w 0).1 < 0)), .n false .u64 (lm (eu v w 0).1), .n false .u64 (lm ((eu v w 0).2 : Int))]⟩, ⟨25, 2, 1, true, [.b (decide ((eu v w 0).1 < 0)), .n false .u64 (lm (eu v w 0).1)]⟩, ⟨25, 2, 1, true, [.b false, .c (.slice none 0 0)]⟩] Q1 := by
    subst ho; subst hF
    refine ja_1 8 ?_ rfl (by kernel_rfl)
    refine js_st (sy_store rfl rfl rfl siz30 rfl rfl (zlb rfl)) rfl ?_
    refine ja_to (m := [(5, .p 5 1 0), (6, .p 6 1 0), (16, .p 4 0 0), (17, .a [.b (decide ((eu v w 0).1 < 0)), .n false .u64 (lm (eu v w 0).1)]), (18, .p 4 0 2), (19, .n false .u64 (lm ((eu v w 0).2 : Int))), (20, .a [.b false, .n false .u64 (lm ((eu v w 0).2 : Int))])]) (by decide) rfl (cov_n 7 rfl rfl (.cons rfl (.cons rfl (.cons rfl (.cons rfl (.cons rfl (.cons rfl (.cons rfl .nil)))))))) S4_111111111
  have S4_111111100 : JA Tryz.prog ops1 2 #[true, true, true, true, true, true, true, false, false] Γ1 ([(5, .p 5 1 0), (6, .p 6 1 0), (16, .p 4 0 0), (17, .a [.b (decide ((eu v w 0).1 < 0)), .n false .u64 (lm (eu v w 0).1)]), (18, .p 4 0 2), (19, .n false .u64 (lm ((eu v w 0).2 : Int))), (20, .a [.b false, .n false .u64 (lm ((eu v w 0).2 : Int))])] ++ F0) [⟨27, 3, 0, true, [.b s, .n false .u64 l, .n false .u64 d]⟩, ⟨48, 1, 0, true, [.c (.slice none 0 0)]⟩, ⟨33, 1, 0, true, [.i .i64 0]⟩, ⟨27, 3, 0, false, []⟩, ⟨27, 3, 0, true, [.b (decide ((eu v w 0).1 < 0)), .n false .u64 (lm (eu v w 0).1), .n false .u64 (lm ((eu v w 0).2 : Int))]⟩, ⟨25, 2, 1, true, [.b false, .c (.slice none 0 0)]⟩, ⟨25, 2, 1, true, [.b false, .c (.slice none 0 0)]⟩] Q1 := by
    subst ho; subst hF
    refine ja_1 7 ?_ rfl (by kernel_rfl)
    refine js_st (sy_store rfl rfl rfl siz30 rfl rfl (zlb rfl)) rfl ?_
    refine ja_to (m := [(5, .p 5 1 0), (6, .p 6 1 0), (16, .p 4 0 0), (17, .a [.b (decide ((eu v w 0).1 < 0)), .n false .u64 (lm (eu v w 0).1)]), (18, .p 4 0 2), (19, .n false .u64 (lm ((eu v w 0).2 : Int))), (20, .a [.b false, .n false .u64 (lm ((eu v w 0).2 : Int))])]) (by decide) rfl (cov_n 7 rfl rfl (.cons rfl (.cons rfl (.cons rfl (.cons rfl (.cons rfl (.cons rfl (.cons rfl .nil)))))))) S4_111111110
  have S4_111111000 : JA Tryz.prog ops1 3 #[true, true, true, true, true, true, false, false, false] Γ1 ([(5, .p 5 1 0), (16, .p 4 0 0), (17, .a [.b (decide ((eu v w 0).1 < 0)), .n false .u64 (lm (eu v w 0).1)]), (18, .p 4 0 2), (19, .n false .u64 (lm ((eu v w 0).2 : Int))), (20, .a [.b false, .n false .u64 (lm ((eu v w 0).2 : Int))])] ++ F0) [⟨27, 3, 0, true, [.b s, .n false .u64 l, .n false .u64 d]⟩, ⟨48, 1, 0, true, [.c (.slice none 0 0)]⟩, ⟨33, 1, 0, true, [.i .i64 0]⟩, ⟨27, 3, 0, false, []⟩, ⟨27, 3, 0, true, [.b (decide ((eu v w 0).1 < 0)), .n false .u64 (lm (eu v w 0).1), .n false .u64 (lm ((eu v w 0).2 : Int))]⟩, ⟨25, 2, 1, true, [.b false, .c (.slice none 0 0)]⟩, ⟨0, 1, 0, true, []⟩] Q1 := by
    subst ho; subst hF
    refine ja_1 6 ?_ rfl (by kernel_rfl)
    refine js_h (hy_allocAt (id := 6) zero30 (by decide) rfl (by decide) rfl) (hd 6 rfl) ?_
    refine ja_to (m := [(5, .p 5 1 0), (6, .p 6 1 0), (16, .p 4 0 0), (17, .a [.b (decide ((eu v w 0).1 < 0)), .n false .u64 (lm (eu v w 0).1)]), (18, .p 4 0 2), (19, .n false .u64 (lm ((eu v w 0).2 : Int))), (20, .a [.b false, .n false .u64 (lm ((eu v w 0).2 : Int))])]) (by decide) rfl (cov_n 7 rfl rfl (.cons rfl (.cons rfl (.cons rfl (.cons rfl (.cons rfl (.cons rfl (.cons rfl .nil)))))))) S4_111111100
  have S4_111110100 : JA Tryz.prog ops1 3 #[true, true, true, true, true, false, true, false, false] Γ1 ([(6, .p 6 1 0), (16, .p 4 0 0), (17, .a [.b (decide ((eu v w 0).1 < 0)), .n false .u64 (lm (eu v w 0).1)]), (18, .p 4 0 2), (19, .n false .u64 (lm ((eu v w 0).2 : Int))), (20, .a [.b false, .n false .u64 (lm ((eu v w 0).2 : Int))])] ++ F0) [⟨27, 3, 0, true, [.b s, .n false .u64 l, .n false .u64 d]⟩, ⟨48, 1, 0, true, [.c (.slice none 0 0)]⟩, ⟨33, 1, 0, true, [.i .i64 0]⟩, ⟨27, 3, 0, false, []⟩, ⟨27, 3, 0, true, [.b (decide ((eu v w 0).1 < 0)), .n false .u64 (lm (eu v w 0).1), .n false .u64 (lm ((eu v w 0).2 : Int))]⟩, ⟨0, 1, 0, true, []⟩, ⟨25, 2, 1, true, [.b false, .c (.slice none 0 0)]⟩] Q1 := by
    subst ho; subst hF
    refine ja_1 5 ?_ rfl (by kernel_rfl)
    refine js_h (hy_allocAt (id := 5) zero30 (by decide) rfl (by decide) rfl) (hd 5 rfl) ?_
    refine ja_to (m := [(5, .p 5 1 0), (6, .p 6 1 0), (16, .p 4 0 0), (17, .a [.b (decide ((eu v w 0).1 < 0)), .n false .u64 (lm (eu v w 0).1)]), (18, .p 4 0 2), (19, .n false .u64 (lm ((eu v w 0).2 : Int))), (20, .a [.b false, .n false .u64 (lm ((eu v w 0).2 : Int))])]) (by decide) rfl (cov_n 7 rfl rfl (.cons rfl (.cons rfl (.cons rfl (.cons rfl (.cons rfl (.cons rfl (.cons rfl .nil)))))))) S4_111111100
  have S4_111110000 : JA Tryz.prog ops1 4 #[true, true, true, true, true, false, false, false, false] Γ1 ([(16, .p 4 0 0), (17, .a [.b (decide ((eu v w 0).1 < 0)), .n false .u64 (lm (eu v w 0).1)]), (18, .p 4 0 2), (19, .n false .u64 (lm ((eu v w 0).2 : Int))), (20, .a [.b false, .n false .u64 (lm ((eu v w 0).2 : Int))])] ++ F0) [⟨27, 3, 0, true, [.b s, .n false .u64 l, .n false .u64 d]⟩, ⟨48, 1, 0, true, [.c (.slice none 0 0)]⟩, ⟨33, 1, 0, true, [.i .i64 0]⟩, ⟨27, 3, 0, false, []⟩, ⟨27, 3, 0, true, [.b (decide ((eu v w 0).1 < 0)), .n false .u64 (lm (eu v w 0).1), .n false .u64 (lm ((eu v w 0).2 : Int))]⟩, ⟨0, 1, 0, true, []⟩, ⟨0, 1, 0, true, []⟩] Q1 := by
    subst ho; subst hF
    refine ja_2 5 6 ?_ ?_ rfl rfl (by kernel_rfl)
    · refine js_h (hy_allocAt (id := 5) zero30 (by decide) rfl (by decide) rfl) (hd 5 rfl) ?_
      refine ja_to (m := [(5, .p 5 1 0), (16, .p 4 0 0), (17, .a [.b (decide ((eu v w 0).1 < 0)), .n false .u64 (lm (eu v w 0).1)]), (18, .p 4 0 2), (19, .n false .u64 (lm ((eu v w 0).2 : Int))), (20, .a [.b false, .n false .u64 (lm ((eu v w 0).2 : Int))])]) (by decide) rfl (cov_n 6 rfl rfl (.cons rfl (.cons rfl (.cons rfl (.cons rfl (.cons rfl (.cons rfl .nil))))))) S4_111111000
    · refine js_h (hy_allocAt (id := 6) zero30 (by decide) rfl (by decide) rfl) (hd 6 rfl) ?_
      refine ja_to (m := [(6, .p 6 1 0), (16, .p 4 0 0), (17, .a [.b (decide ((eu v w 0).1 < 0)), .n false .u64 (lm (eu v w 0).1)]), (18, .p 4 0 2), (19, .n false .u64 (lm ((eu v w 0).2 : Int))), (20, .a [.b false, .n false .u64 (lm ((eu v w 0).2 : Int))])]) (by decide) rfl (cov_n 6 rfl rfl (.cons rfl (.cons rfl (.cons rfl (.cons rfl (.cons rfl (.cons rfl .nil))))))) S4_111110100
  have S4_111101110 : JA Tryz.prog ops1 2 #[true, true, true, true, false, true, true, true, false] Γ1 ([(5, .p 5 1 0), (6, .p 6 1 0), (16, .p 4 0 0), (17, .a [.b (decide ((eu v w 0).1 < 0)), .n false .u64 (lm (eu v w 0).1)]), (18, .p 4 0 2), (19, .n false .u64 (lm ((eu v w 0).2 : Int)))] ++ F0) [⟨27, 3, 0, true, [.b s, .n false .u64 l, .n false .u64 d]⟩, ⟨48, 1, 0, true, [.c (.slice none 0 0)]⟩, ⟨33, 1, 0, true, [.i .i64 0]⟩, ⟨27, 3, 0, false, []⟩, ⟨27, 3, 0, true, [.b (decide ((eu v w 0).1 < 0)), .n false .u64 (lm (eu v w 0).1), .n false .u64 (lm ((eu v w 0).2 : Int))]⟩, ⟨25, 2, 1, true, [.b (decide ((eu v w 0).1 < 0)), .n false .u64 (lm (eu v w 0).1)]⟩, ⟨25, 2, 1, true, [.b false, .c (.slice none 0 0)]⟩] Q1 := by
    subst ho; subst hF; refine ja_l2 4 [8] (lo_l (ly_build (is := [1]) (xs := [.tmp 19]) zero30 pls30_1 rfl (ovL_cons rfl ovL_nil) rfl (by first | (simp [plsOk, cellsV]; done) | (simp [plsOk, cellsV, old]; done)) (all_of rfl) rfl) (hd 20 rfl)) rfl (by kernel_rfl) (by kernel_rfl) (by kernel_rfl) (by kernel_rfl) hpan ?_
    refine ja_to (m := [(5, .p 5 1 0), (6, .p 6 1 0), (16, .p 4 0 0), (17, .a [.b (decide ((eu v w 0).1 < 0)), .n false .u64 (lm (eu v w 0).1)]), (18, .p 4 0 2), (19, .n false .u64 (lm ((eu v w 0).2 : Int))), (20, .a [.b false, .n false .u64 (lm ((eu v w 0).2 : Int))])]) (by decide) rfl (cov_n 7 rfl rfl (.cons rfl (.cons rfl (.cons rfl (.cons rfl (.cons rfl (.cons rfl (.cons rfl .nil)))))))) S4_111111110
  have S4_111101100 : JA Tryz.prog ops1 3 #[true, true, true, true, false, true, true, false, false] Γ1 ([(5, .p 5 1 0), (6, .p 6 1 0), (16, .p 4 0 0), (17, .a [.b (decide ((eu v w 0).1 < 0)), .n false .u64 (lm (eu v w 0).1)]), (18, .p 4 0 2), (19, .n false .u64 (lm ((eu v w 0).2 : Int)))] ++ F0) [⟨27, 3, 0, true, [.b s, .n false .u64 l, .n false .u64 d]⟩, ⟨48, 1, 0, true, [.c (.slice none 0 0)]⟩, ⟨33, 1, 0, true, [.i .i64 0]⟩, ⟨27, 3, 0, false, []⟩, ⟨27, 3, 0, true, [.b (decide ((eu v w 0).1 < 0)), .n false .u64 (lm (eu v w 0).1), .n false .u64 (lm ((eu v w 0).2 : Int))]⟩, ⟨25, 2, 1, true, [.b false, .c (.slice none 0 0)]⟩, ⟨25, 2, 1, true, [.b false, .c (.slice none 0 0)]⟩] Q1 := by
    subst ho; subst hF
    refine ja_2 4 7 ?_ ?_ rfl rfl (by kernel_rfl)
    · refine js_l (ly_build (is := [1]) (xs := [.tmp 19]) zero30 pls30_1 rfl (ovL_cons rfl ovL_nil) rfl (by first | (simp [plsOk, cellsV]; done) | (simp [plsOk, cellsV, old]; done)) (all_of rfl) rfl) (hd 20 rfl) ?_
      refine ja_to (m := [(5, .p 5 1 0), (6, .p 6 1 0), (16, .p 4 0 0), (17, .a [.b (decide ((eu v w 0).1 < 0)), .n false .u64 (lm (eu v w 0).1)]), (18, .p 4 0 2), (19, .n false .u64 (lm ((eu v w 0).2 : Int))), (20, .a [.b false, .n false .u64 (lm ((eu v w 0).2 : Int))])]) (by decide) rfl (cov_n 7 rfl rfl (.cons rfl (.cons rfl (.cons rfl (.cons rfl (.cons rfl (.cons rfl (.cons rfl .nil)))))))) S4_111111100
    · refine js_st (sy_store rfl rfl rfl siz30 rfl rfl (zlb rfl)) rfl ?_
      refine ja_to (m := [(5, .p 5 1 0), (6, .p 6 1 0), (16, .p 4 0 0), (17, .a [.b (decide ((eu v w 0).1 < 0)), .n false .u64 (lm (eu v w 0).1)]), (18, .p 4 0 2), (19, .n false .u64 (lm ((eu v w 0).2 : Int)))]) (by decide) rfl (cov_n 6 rfl rfl (.cons rfl (.cons rfl (.cons rfl (.cons rfl (.cons rfl (.cons rfl .nil))))))) S4_111101110
  have S4_111101000 : JA Tryz.prog ops1 4 #[true, true, true, true, false, true, false, false, false] Γ1 ([(5, .p 5 1 0), (16, .p 4 0 0), (17, .a [.b (decide ((eu v w 0).1 < 0)), .n false .u64 (lm (eu v w 0).1)]), (18, .p 4 0 2), (19, .n false .u64 (lm ((eu v w 0).2 : Int)))] ++ F0) [⟨27, 3, 0, true, [.b s, .n false .u64 l, .n false .u64 d]⟩, ⟨48, 1, 0, true, [.c (.slice none 0 0)]⟩, ⟨33, 1, 0, true, [.i .i64 0]⟩, ⟨27, 3, 0, false, []⟩, ⟨27, 3, 0, true, [.b (decide ((eu v w 0).1 < 0)), .n false .u64 (lm (eu v w 0).1), .n false .u64 (lm ((eu v w 0).2 : Int))]⟩, ⟨25, 2, 1, true, [.b false, .c (.slice none 0 0)]⟩, ⟨0, 1, 0, true, []⟩] Q1 := by
    subst ho; subst hF
    refine ja_2 4 6 ?_ ?_ rfl rfl (by kernel_rfl)
    · refine js_l (ly_build (is := [1]) (xs := [.tmp 19]) zero30 pls30_1 rfl (ovL_cons rfl ovL_nil) rfl (by first | (simp [plsOk, cellsV]; done) | (simp [plsOk, cellsV, old]; done)) (all_of rfl) rfl) (hd 20 rfl) ?_
      refine ja_to (m := [(5, .p 5 1 0), (16, .p 4 0 0), (17, .a [.b (decide ((eu v w 0).1 < 0)), .n false .u64 (lm (eu v w 0).1)]), (18, .p 4 0 2), (19, .n false .u64 (lm ((eu v w 0).2 : Int))), (20, .a [.b false, .n false .u64 (lm ((eu v w 0).2 : Int))])]) (by decide) rfl (cov_n 6 rfl rfl (.cons rfl (.cons rfl (.cons rfl (.cons rfl (.cons rfl (.cons rfl .nil))))))) S4_111111000
    · refine js_h (hy_allocAt (id := 6) zero30 (by decide) rfl (by decide) rfl) (hd 6 rfl) ?_
      refine ja_to (m := [(5, .p 5 1 0), (6, .p 6 1 0), (16, .p 4 0 0), (17, .a [.b (decide ((eu v w 0).1 < 0)), .n false .u64 (lm (eu v w 0).1)]), (18, .p 4 0 2), (19, .n false .u64 (lm ((eu v w 0).2 : Int)))]) (by decide) rfl (cov_n 6 rfl rfl (.cons rfl (.cons rfl (.cons rfl (.cons rfl (.cons rfl (.cons rfl .nil))))))) S4_111101100
  have S4_111100100 : JA Tryz.prog ops1 4 #[true, true, true, true, false, false, true, false, false] Γ1 ([(6, .p 6 1 0), (16, .p 4 0 0), (17, .a [.b (decide ((eu v w 0).1 < 0)), .n false .u64 (lm (eu v w 0).1)]), (18, .p 4 0 2), (19, .n false .u64 (lm ((eu v w 0).2 : Int)))] ++ F0) [⟨27, 3, 0, true, [.b s, .n false .u64 l, .n false .u64 d]⟩, ⟨48, 1, 0, true, [.c (.slice none 0 0)]⟩, ⟨33, 1, 0, true, [.i .i64 0]⟩, ⟨27, 3, 0, false, []⟩, ⟨27, 3, 0, true, [.b (decide ((eu v w 0).1 < 0)), .n false .u64 (lm (eu v w 0).1), .n false .u64 (lm ((eu v w 0).2 : Int))]⟩, ⟨0, 1, 0, true, []⟩, ⟨25, 2, 1, true, [.b false, .c (.slice none 0 0)]⟩] Q1 := by
    subst ho; subst hF
    refine ja_2 4 5 ?_ ?_ rfl rfl (by kernel_rfl)
    · refine js_l (ly_build (is := [1]) (xs := [.tmp 19]) zero30 pls30_1 rfl (ovL_cons rfl ovL_nil) rfl (by first | (simp [plsOk, cellsV]; done) | (simp [plsOk, cellsV, old]; done)) (all_of rfl) rfl) (hd 20 rfl) ?_
      refine ja_to (m := [(6, .p 6 1 0), (16, .p 4 0 0), (17, .a [.b (decide ((eu v w 0).1 < 0)), .n false .u64 (lm (eu v w 0).1)]), (18, .p 4 0 2), (19, .n false .u64 (lm ((eu v w 0).2 : Int))), (20, .a [.b false, .n false .u64 (lm ((eu v w 0).2 : Int))])]) (by decide) rfl (cov_n 6 rfl rfl (.cons rfl (.cons rfl (.cons rfl (.cons rfl (.cons rfl (.cons rfl .nil))))))) S4_111110100
    · refine js_h (hy_allocAt (id := 5) zero30 (by decide) rfl (by decide) rfl) (hd 5 rfl) ?_
      refine ja_to (m := [(5, .p 5 1 0), (6, .p 6 1 0), (16, .p 4 0 0), (17, .a [.b (decide ((eu v w 0).1 < 0)), .n false .u64 (lm (eu v w 0).1)]), (18, .p 4 0 2), (19, .n false .u64 (lm ((eu v w 0).2 : Int)))]) (by decide) rfl (cov_n 6 rfl rfl (.cons rfl (.cons rfl (.cons rfl (.cons rfl (.cons rfl (.cons rfl .nil))))))) S4_111101100
  have S4_111100000 : JA Tryz.prog ops1 5 #[true, true, true, true, false, false, false, false, false] Γ1 ([(16, .p 4 0 0), (17, .a [.b (decide ((eu v w 0).1 < 0)), .n false .u64 (lm (eu v w 0).1)]), (18, .p 4 0 2), (19, .n false .u64 (lm ((eu v w 0).2 : Int)))] ++ F0) [⟨27, 3, 0, true, [.b s, .n false .u64 l, .n false .u64 d]⟩, ⟨48, 1, 0, true, [.c (.slice none 0 0)]⟩, ⟨33, 1, 0, true, [.i .i64 0]⟩, ⟨27, 3, 0, false, []⟩, ⟨27, 3, 0, true, [.b (decide ((eu v w 0).1 < 0)), .n false .u64 (lm (eu v w 0).1), .n false .u64 (lm ((eu v w 0).2 : Int))]⟩, ⟨0, 1, 0, true, []⟩, ⟨0, 1, 0, true, []⟩] Q1 := by
    subst ho; subst hF
    refine ja_3 4 5 6 ?_ ?_ ?_ rfl rfl rfl (by kernel_rfl)
    · refine js_l (ly_build (is := [1]) (xs := [.tmp 19]) zero30 pls30_1 rfl (ovL_cons rfl ovL_nil) rfl (by first | (simp [plsOk, cellsV]; done) | (simp [plsOk, cellsV, old]; done)) (all_of rfl) rfl) (hd 20 rfl) ?_
      refine ja_to (m := [(16, .p 4 0 0), (17, .a [.b (decide ((eu v w 0).1 < 0)), .n false .u64 (lm (eu v w 0).1)]), (18, .p 4 0 2), (19, .n false .u64 (lm ((eu v w 0).2 : Int))), (20, .a [.b false, .n false .u64 (lm ((eu v w 0).2 : Int))])]) (by decide) rfl (cov_n 5 rfl rfl (.cons rfl (.cons rfl (.cons rfl (.cons rfl (.cons rfl .nil)))))) S4_111110000
    · refine js_h (hy_allocAt (id := 5) zero30 (by decide) rfl (by decide) rfl) (hd 5 rfl) ?_
      refine ja_to (m := [(5, .p 5 1 0), (16, .p 4 0 0), (17, .a [.b (decide ((eu v w 0).1 < 0)), .n false .u64 (lm (eu v w 0).1)]), (18, .p 4 0 2), (19, .n false .u64 (lm ((eu v w 0).2 : Int)))]) (by decide) rfl (cov_n 5 rfl rfl (.cons rfl (.cons rfl (.cons rfl (.cons rfl (.cons rfl .nil)))))) S4_111101000
    · refine js_h (hy_allocAt (id := 6) zero30 (by decide) rfl (by decide) rfl) (hd 6 rfl) ?_
      refine ja_to (m := [(6, .p 6 1 0), (16, .p 4 0 0), (17, .a [.b (decide ((eu v w 0).1 < 0)), .n false .u64 (lm (eu v w 0).1)]), (18, .p 4 0 2), (19, .n false .u64 (lm ((eu v w 0).2 : Int)))]) (by decide) rfl (cov_n 5 rfl rfl (.cons rfl (.cons rfl (.cons rfl (.cons rfl (.cons rfl .nil)))))) S4_111100100
  have S4_111001110 : JA Tryz.prog ops1 3 #[true, true, true, false, false, true, true, true, false] Γ1 ([(5, .p 5 1 0), (6, .p 6 1 0), (16, .p 4 0 0), (17, .a [.b (decide ((eu v w 0).1 < 0)), .n false .u64 (lm (eu v w 0).1)]), (18, .p 4 0 2)] ++ F0) [⟨27, 3, 0, true, [.b s, .n false .u64 l, .n false .u64 d]⟩, ⟨48, 1, 0, true, [.c (.slice none 0 0)]⟩, ⟨33, 1, 0, true, [.i .i64 0]⟩, ⟨27, 3, 0, false, []⟩, ⟨27, 3, 0, true, [.b (decide ((eu v w 0).1 < 0)), .n false .u64 (lm (eu v w 0).1), .n false .u64 (lm ((eu v w 0).2 : Int))]⟩, ⟨25, 2, 1, true, [.b (decide ((eu v w 0).1 < 0)), .n false .u64 (lm (eu v w 0).1)]⟩, ⟨25, 2, 1, true, [.b false, .c (.slice none 0 0)]⟩] Q1 := by
    subst ho; subst hF; refine ja_l2 3 [4, 8] (lo_l (ly_ld one28 rfl rfl rfl) (hd 19 rfl)) rfl (by kernel_rfl) (by kernel_rfl) (by kernel_rfl) (by kernel_rfl) hpan ?_
    refine ja_to (m := [(5, .p 5 1 0), (6, .p 6 1 0), (16, .p 4 0 0), (17, .a [.b (decide ((eu v w 0).1 < 0)), .n false .u64 (lm (eu v w 0).1)]), (18, .p 4 0 2), (19, .n false .u64 (lm ((eu v w 0).2 : Int)))]) (by decide) rfl (cov_n 6 rfl rfl (.cons rfl (.cons rfl (.cons rfl (.cons rfl (.cons rfl (.cons rfl .nil))))))) S4_111101110
  have S4_111001100 : JA Tryz.prog ops1 4 #[true, true, true, false, false, true, true, false, false] Γ1 ([(5, .p 5 1 0), (6, .p 6 1 0), (16, .p 4 0 0), (17, .a [.b (decide ((eu v w 0).1 < 0)), .n false .u64 (lm (eu v w 0).1)]), (18, .p 4 0 2)] ++ F0) [⟨27, 3, 0, true, [.b s, .n false .u64 l, .n false .u64 d]⟩, ⟨48, 1, 0, true, [.c (.slice none 0 0)]⟩, ⟨33, 1, 0, true, [.i .i64 0]⟩, ⟨27, 3, 0, false, []⟩, ⟨27, 3, 0, true, [.b (decide ((eu v w 0).1 < 0)), .n false .u64 (lm (eu v w 0).1), .n false .u64 (lm ((eu v w 0).2 : Int))]⟩, ⟨25, 2, 1, true, [.b false, .c (.slice none 0 0)]⟩, ⟨25, 2, 1, true, [.b false, .c (.slice none 0 0)]⟩] Q1 := by
    subst ho; subst hF
    refine ja_2 3 7 ?_ ?_ rfl rfl (by kernel_rfl)
    · refine js_l (ly_ld one28 rfl rfl rfl) (hd 19 rfl) ?_
      refine ja_to (m := [(5, .p 5 1 0), (6, .p 6 1 0), (16, .p 4 0 0), (17, .a [.b (decide ((eu v w 0).1 < 0)), .n false .u64 (lm (eu v w 0).1)]), (18, .p 4 0 2), (19, .n false .u64 (lm ((eu v w 0).2 : Int)))]) (by decide) rfl (cov_n 6 rfl rfl (.cons rfl (.cons rfl (.cons rfl (.cons rfl (.cons rfl (.cons rfl .nil))))))) S4_111101100
    · refine js_st (sy_store rfl rfl rfl siz30 rfl rfl (zlb rfl)) rfl ?_
      refine ja_to (m := [(5, .p 5 1 0), (6, .p 6 1 0), (16, .p 4 0 0), (17, .a [.b (decide ((eu v w 0).1 < 0)), .n false .u64 (lm (eu v w 0).1)]), (18, .p 4 0 2)]) (by decide) rfl (cov_n 5 rfl rfl (.cons rfl (.cons rfl (.cons rfl (.cons rfl (.cons rfl .nil)))))) S4_111001110
  have S4_111001000 : JA Tryz.prog ops1 5 #[true, true, true, false, false, true, false, false, false] Γ1 ([(5, .p 5 1 0), (16, .p 4 0 0), (17, .a [.b (decide ((eu v w 0).1 < 0)), .n false .u64 (lm (eu v w 0).1)]), (18, .p 4 0 2)] ++ F0) [⟨27, 3, 0, true, [.b s, .n false .u64 l, .n false .u64 d]⟩, ⟨48, 1, 0, true, [.c (.slice none 0 0)]⟩, ⟨33, 1, 0, true, [.i .i64 0]⟩, ⟨27, 3, 0, false, []⟩, ⟨27, 3, 0, true, [.b (decide ((eu v w 0).1 < 0)), .n false .u64 (lm (eu v w 0).1), .n false .u64 (lm ((eu v w 0).2 : Int))]⟩, ⟨25, 2, 1, true, [.b false, .c (.slice none 0 0)]⟩, ⟨0, 1, 0, true, []⟩] Q1 := by
    subst ho; subst hF
    refine ja_2 3 6 ?_ ?_ rfl rfl (by kernel_rfl)
    · refine js_l (ly_ld one28 rfl rfl rfl) (hd 19 rfl) ?_
      refine ja_to (m := [(5, .p 5 1 0), (16, .p 4 0 0), (17, .a [.b (decide ((eu v w 0).1 < 0)), .n false .u64 (lm (eu v w 0).1)]), (18, .p 4 0 2), (19, .n false .u64 (lm ((eu v w 0).2 : Int)))]) (by decide) rfl (cov_n 5 rfl rfl (.cons rfl (.cons rfl (.cons rfl (.cons rfl (.cons rfl .nil)))))) S4_111101000
    · refine js_h (hy_allocAt (id := 6) zero30 (by decide) rfl (by decide) rfl) (hd 6 rfl) ?_
      refine ja_to (m := [(5, .p 5 1 0), (6, .p 6 1 0), (16, .p 4 0 0), (17, .a [.b (decide ((eu v w 0).1 < 0)), .n false .u64 (lm (eu v w 0).1)]), (18, .p 4 0 2)]) (by decide) rfl (cov_n 5 rfl rfl (.cons rfl (.cons rfl (.cons rfl (.cons rfl (.cons rfl .nil)))))) S4_111001100
  have S4_111000100 : JA Tryz.prog ops1 5 #[true, true, true, false, false, false, true, false, false] Γ1 ([(6, .p 6 1 0), (16, .p 4 0 0), (17, .a [.b (decide ((eu v w 0).1 < 0)), .n false .u64 (lm (eu v w 0).1)]), (18, .p 4 0 2)] ++ F0) [⟨27, 3, 0, true, [.b s, .n false .u64 l, .n false .u64 d]⟩, ⟨48, 1, 0, true, [.c (.slice none 0 0)]⟩, ⟨33, 1, 0, true, [.i .i64 0]⟩, ⟨27, 3, 0, false, []⟩, ⟨27, 3, 0, true, [.b (decide ((eu v w 0).1 < 0)), .n false .u64 (lm (eu v w 0).1), .n false .u64 (lm ((eu v w 0).2 : Int))]⟩, ⟨0, 1, 0, true, []⟩, ⟨25, 2, 1, true, [.b false, .c (.slice none 0 0)]⟩] Q1 := by
    subst ho; subst hF
    refine ja_2 3 5 ?_ ?_ rfl rfl (by kernel_rfl)
    · refine js_l (ly_ld one28 rfl rfl rfl) (hd 19 rfl) ?_
      refine ja_to (m := [(6, .p 6 1 0), (16, .p 4 0 0), (17, .a [.b (decide ((eu v w 0).1 < 0)), .n false .u64 (lm (eu v w 0).1)]), (18, .p 4 0 2), (19, .n false .u64 (lm ((eu v w 0).2 : Int)))]) (by decide) rfl (cov_n 5 rfl rfl (.cons rfl (.cons rfl (.cons rfl (.cons rfl (.cons rfl .nil)))))) S4_111100100
    · refine js_h (hy_allocAt (id := 5) zero30 (by decide) rfl (by decide) rfl) (hd 5 rfl) ?_
      refine ja_to (m := [(5, .p 5 1 0), (6, .p 6 1 0), (16, .p 4 0 0), (17, .a [.b (decide ((eu v w 0).1 < 0)), .n false .u64 (lm (eu v w 0).1)]), (18, .p 4 0 2)]) (by decide) rfl (cov_n 5 rfl rfl (.cons rfl (.cons rfl (.cons rfl (.cons rfl (.cons rfl .nil)))))) S4_111001100
  have S4_111000000 : JA Tryz.prog ops1 6 #[true, true, true, false, false, false, false, false, false] Γ1 ([(16, .p 4 0 0), (17, .a [.b (decide ((eu v w 0).1 < 0)), .n false .u64 (lm (eu v w 0).1)]), (18, .p 4 0 2)] ++ F0) [⟨27, 3, 0, true, [.b s, .n false .u64 l, .n false .u64 d]⟩, ⟨48, 1, 0, true, [.c (.slice none 0 0)]⟩, ⟨33, 1, 0, true, [.i .i64 0]⟩, ⟨27, 3, 0, false, []⟩, ⟨27, 3, 0, true, [.b (decide ((eu v w 0).1 < 0)), .n false .u64 (lm (eu v w 0).1), .n false .u64 (lm ((eu v w 0).2 : Int))]⟩, ⟨0, 1, 0, true, []⟩, ⟨0, 1, 0, true, []⟩] Q1 := by
    subst ho; subst hF
    refine ja_3 3 5 6 ?_ ?_ ?_ rfl rfl rfl (by kernel_rfl)
    · refine js_l (ly_ld one28 rfl rfl rfl) (hd 19 rfl) ?_
      refine ja_to (m := [(16, .p 4 0 0), (17, .a [.b (decide ((eu v w 0).1 < 0)), .n false .u64 (lm (eu v w 0).1)]), (18, .p 4 0 2), (19, .n false .u64 (lm ((eu v w 0).2 : Int)))]) (by decide) rfl (cov_n 4 rfl rfl (.cons rfl (.cons rfl (.cons rfl (.cons rfl .nil))))) S4_111100000
    · refine js_h (hy_allocAt (id := 5) zero30 (by decide) rfl (by decide) rfl) (hd 5 rfl) ?_
      refine ja_to (m := [(5, .p 5 1 0), (16, .p 4 0 0), (17, .a [.b (decide ((eu v w 0).1 < 0)), .n false .u64 (lm (eu v w 0).1)]), (18, .p 4 0 2)]) (by decide) rfl (cov_n 4 rfl rfl (.cons rfl (.cons rfl (.cons rfl (.cons rfl .nil))))) S4_111001000
    · refine js_h (hy_allocAt (id := 6) zero30 (by decide) rfl (by decide) rfl) (hd 6 rfl) ?_
      refine ja_to (m := [(6, .p 6 1 0), (16, .p 4 0 0), (17, .a [.b (decide ((eu v w 0).1 < 0)), .n false .u64 (lm (eu v w 0).1)]), (18, .p 4 0 2)]) (by decide) rfl (cov_n 4 rfl rfl (.cons rfl (.cons rfl (.cons rfl (.cons rfl .nil))))) S4_111000100
  have S4_110001110 : JA Tryz.prog ops1 4 #[true, true, false, false, false, true, true, true, false] Γ1 ([(5, .p 5 1 0), (6, .p 6 1 0), (16, .p 4 0 0), (17, .a [.b (decide ((eu v w 0).1 < 0)), .n false .u64 (lm (eu v w 0).1)])] ++ F0) [⟨27, 3, 0, true, [.b s, .n false .u64 l, .n false .u64 d]⟩, ⟨48, 1, 0, true, [.c (.slice none 0 0)]⟩, ⟨33, 1, 0, true, [.i .i64 0]⟩, ⟨27, 3, 0, false, []⟩, ⟨27, 3, 0, true, [.b (decide ((eu v w 0).1 < 0)), .n false .u64 (lm (eu v w 0).1), .n false .u64 (lm ((eu v w 0).2 : Int))]⟩, ⟨25, 2, 1, true, [.b (decide ((eu v w 0).1 < 0)), .n false .u64 (lm (eu v w 0).1)]⟩, ⟨25, 2, 1, true, [.b false, .c (.slice none 0 0)]⟩] Q1 := by
    subst ho; subst hF; refine ja_l2 2 [3, 4, 8] (lo_l (ly_fa fld1027_1 rfl rfl rfl) (hd 18 rfl)) rfl (by kernel_rfl) (by kernel_rfl) (by kernel_rfl) (by kernel_rfl) hpan ?_
    refine ja_to (m := [(5, .p 5 1 0), (6, .p 6 1 0), (16, .p 4 0 0), (17, .a [.b (decide ((eu v w 0).1 < 0)), .n false .u64 (lm (eu v w 0).1)]), (18, .p 4 0 2)]) (by decide) rfl (cov_n 5 rfl rfl (.cons rfl (.cons rfl (.cons rfl (.cons rfl (.cons rfl .nil)))))) S4_111001110
  have S4_110001100 : JA Tryz.prog ops1 5 #[true, true, false, false, false, true, true, false, false] Γ1 ([(5, .p 5 1 0), (6, .p 6 1 0), (16, .p 4 0 0), (17, .a [.b (decide ((eu v w 0).1 < 0)), .n false .u64 (lm (eu v w 0).1)])] ++ F0) [⟨27, 3, 0, true, [.b s, .n false .u64 l, .n false .u64 d]⟩, ⟨48, 1, 0, true, [.c (.slice none 0 0)]⟩, ⟨33, 1, 0, true, [.i .i64 0]⟩, ⟨27, 3, 0, false, []⟩, ⟨27, 3, 0, true, [.b (decide ((eu v w 0).1 < 0)), .n false .u64 (lm (eu v w 0).1), .n false .u64 (lm ((eu v w 0).2 : Int))]⟩, ⟨25, 2, 1, true, [.b false, .c (.slice none 0 0)]⟩, ⟨25, 2, 1, true, [.b false, .c (.slice none 0 0)]⟩] Q1 := by
    subst ho; subst hF
    refine ja_2 2 7 ?_ ?_ rfl rfl (by kernel_rfl)
    · refine js_l (ly_fa fld1027_1 rfl rfl rfl) (hd 18 rfl) ?_
      refine ja_to (m := [(5, .p 5 1 0), (6, .p 6 1 0), (16, .p 4 0 0), (17, .a [.b (decide ((eu v w 0).1 < 0)), .n false .u64 (lm (eu v w 0).1)]), (18, .p 4 0 2)]) (by decide) rfl (cov_n 5 rfl rfl (.cons rfl (.cons rfl (.cons rfl (.cons rfl (.cons rfl .nil)))))) S4_111001100
    · refine js_st (sy_store rfl rfl rfl siz30 rfl rfl (zlb rfl)) rfl ?_
      refine ja_to (m := [(5, .p 5 1 0), (6, .p 6 1 0), (16, .p 4 0 0), (17, .a [.b (decide ((eu v w 0).1 < 0)), .n false .u64 (lm (eu v w 0).1)])]) (by decide) rfl (cov_n 4 rfl rfl (.cons rfl (.cons rfl (.cons rfl (.cons rfl .nil))))) S4_110001110
  have S4_110001000 : JA Tryz.prog ops1 6 #[true, true, false, false, false, true, false, false, false] Γ1 ([(5, .p 5 1 0), (16, .p 4 0 0), (17, .a [.b (decide ((eu v w 0).1 < 0)), .n false .u64 (lm (eu v w 0).1)])] ++ F0) [⟨27, 3, 0, true, [.b s, .n false .u64 l, .n false .u64 d]⟩, ⟨48, 1, 0, true, [.c (.slice none 0 0)]⟩, ⟨33, 1, 0, true, [.i .i64 0]⟩, ⟨27, 3, 0, false, []⟩, ⟨27, 3, 0, true, [.b (decide ((eu v w 0).1 < 0)), .n false .u64 (lm (eu v w 0).1), .n false .u64 (lm ((eu v w 0).2 : Int))]⟩, ⟨25, 2, 1, true, [.b false, .c (.slice none 0 0)]⟩, ⟨0, 1, 0, true, []⟩] Q1 := by
    subst ho; subst hF
    refine ja_2 2 6 ?_ ?_ rfl rfl (by kernel_rfl)
    · refine js_l (ly_fa fld1027_1 rfl rfl rfl) (hd 18 rfl) ?_
      refine ja_to (m := [(5, .p 5 1 0), (16, .p 4 0 0), (17, .a [.b (decide ((eu v w 0).1 < 0)), .n false .u64 (lm (eu v w 0).1)]), (18, .p 4 0 2)]) (by decide) rfl (cov_n 4 rfl rfl (.cons rfl (.cons rfl (.cons rfl (.cons rfl .nil))))) S4_111001000
    · refine js_h (hy_allocAt (id := 6) zero30 (by decide) rfl (by decide) rfl) (hd 6 rfl) ?_
      refine ja_to (m := [(5, .p 5 1 0), (6, .p 6 1 0), (16, .p 4 0 0), (17, .a [.b (decide ((eu v w 0).1 < 0)), .n false .u64 (lm (eu v w 0).1)])]) (by decide) rfl (cov_n 4 rfl rfl (.cons rfl (.cons rfl (.cons rfl (.cons rfl .nil))))) S4_110001100
  have S4_110000100 : JA Tryz.prog ops1 6 #[true, true, false, false, false, false, true, false, false] Γ1 ([(6, .p 6 1 0), (16, .p 4 0 0), (17, .a [.b (decide ((eu v w 0).1 < 0)), .n false .u64 (lm (eu v w 0).1)])] ++ F0) [⟨27, 3, 0, true, [.b s, .n false .u64 l, .n false .u64 d]⟩, ⟨48, 1, 0, true, [.c (.slice none 0 0)]⟩, ⟨33, 1, 0, true, [.i .i64 0]⟩, ⟨27, 3, 0, false, []⟩, ⟨27, 3, 0, true, [.b (decide ((eu v w 0).1 < 0)), .n false .u64 (lm (eu v w 0).1), .n false .u64 (lm ((eu v w 0).2 : Int))]⟩, ⟨0, 1, 0, true, []⟩, ⟨25, 2, 1, true, [.b false, .c (.slice none 0 0)]⟩] Q1 := by
    subst ho; subst hF
    refine ja_2 2 5 ?_ ?_ rfl rfl (by kernel_rfl)
    · refine js_l (ly_fa fld1027_1 rfl rfl rfl) (hd 18 rfl) ?_
      refine ja_to (m := [(6, .p 6 1 0), (16, .p 4 0 0), (17, .a [.b (decide ((eu v w 0).1 < 0)), .n false .u64 (lm (eu v w 0).1)]), (18, .p 4 0 2)]) (by decide) rfl (cov_n 4 rfl rfl (.cons rfl (.cons rfl (.cons rfl (.cons rfl .nil))))) S4_111000100
    · refine js_h (hy_allocAt (id := 5) zero30 (by decide) rfl (by decide) rfl) (hd 5 rfl) ?_
      refine ja_to (m := [(5, .p 5 1 0), (6, .p 6 1 0), (16, .p 4 0 0), (17, .a [.b (decide ((eu v w 0).1 < 0)), .n false .u64 (lm (eu v w 0).1)])]) (by decide) rfl (cov_n 4 rfl rfl (.cons rfl (.cons rfl (.cons rfl (.cons rfl .nil))))) S4_110001100
  have S4_110000000 : JA Tryz.prog ops1 7 #[true, true, false, false, false, false, false, false, false] Γ1 ([(16, .p 4 0 0), (17, .a [.b (decide ((eu v w 0).1 < 0)), .n false .u64 (lm (eu v w 0).1)])] ++ F0) [⟨27, 3, 0, true, [.b s, .n false .u64 l, .n false .u64 d]⟩, ⟨48, 1, 0, true, [.c (.slice none 0 0)]⟩, ⟨33, 1, 0, true, [.i .i64 0]⟩, ⟨27, 3, 0, false, []⟩, ⟨27, 3, 0, true, [.b (decide ((eu v w 0).1 < 0)), .n false .u64 (lm (eu v w 0).1), .n false .u64 (lm ((eu v w 0).2 : Int))]⟩, ⟨0, 1, 0, true, []⟩, ⟨0, 1, 0, true, []⟩] Q1 := by
    subst ho; subst hF
    refine ja_3 2 5 6 ?_ ?_ ?_ rfl rfl rfl (by kernel_rfl)
    · refine js_l (ly_fa fld1027_1 rfl rfl rfl) (hd 18 rfl) ?_
      refine ja_to (m := [(16, .p 4 0 0), (17, .a [.b (decide ((eu v w 0).1 < 0)), .n false .u64 (lm (eu v w 0).1)]), (18, .p 4 0 2)]) (by decide) rfl (cov_n 3 rfl rfl (.cons rfl (.cons rfl (.cons rfl .nil)))) S4_111000000
    · refine js_h (hy_allocAt (id := 5) zero30 (by decide) rfl (by decide) rfl) (hd 5 rfl) ?_
      refine ja_to (m := [(5, .p 5 1 0), (16, .p 4 0 0), (17, .a [.b (decide ((eu v w 0).1 < 0)), .n false .u64 (lm (eu v w 0).1)])]) (by decide) rfl (cov_n 3 rfl rfl (.cons rfl (.cons rfl (.cons rfl .nil)))) S4_110001000
    · refine js_h (hy_allocAt (id := 6) zero30 (by decide) rfl (by decide) rfl) (hd 6 rfl) ?_
      refine ja_to (m := [(6, .p 6 1 0), (16, .p 4 0 0), (17, .a [.b (decide ((eu v w 0).1 < 0)), .n false .u64 (lm (eu v w 0).1)])]) (by decide) rfl (cov_n 3 rfl rfl (.cons rfl (.cons rfl (.cons rfl .nil)))) S4_110000100
  have S4_100000000 : JA Tryz.prog ops1 8 #[true, false, false, false, false, false, false, false, false] Γ1 ([(16, .p 4 0 0)] ++ F0) [⟨27, 3, 0, true, [.b s, .n false .u64 l, .n false .u64 d]⟩, ⟨48, 1, 0, true, [.c (.slice none 0 0)]⟩, ⟨33, 1, 0, true, [.i .i64 0]⟩, ⟨27, 3, 0, false, []⟩, ⟨27, 3, 0, true, [.b (decide ((eu v w 0).1 < 0)), .n false .u64 (lm (eu v w 0).1), .n false .u64 (lm ((eu v w 0).2 : Int))]⟩, ⟨0, 1, 0, true, []⟩, ⟨0, 1, 0, true, []⟩] Q1 := by
    subst ho; subst hF; refine ja_l2 1 [7, 8] (lo_l (ly_lda agg30 rfl rfl rfl rfl) (hd 17 rfl)) rfl (by kernel_rfl) (by kernel_rfl) (by kernel_rfl) (by kernel_rfl) hpan ?_
    refine ja_to (m := [(16, .p 4 0 0), (17, .a [.b (decide ((eu v w 0).1 < 0)), .n false .u64 (lm (eu v w 0).1)])]) (by decide) rfl (cov_n 2 rfl rfl (.cons rfl (.cons rfl .nil))) S4_110000000
  have S4_000000000 : JA Tryz.prog ops1 9 #[false, false, false, false, false, false, false, false, false] Γ1 ([] ++ F0) [⟨27, 3, 0, true, [.b s, .n false .u64 l, .n false .u64 d]⟩, ⟨48, 1, 0, true, [.c (.slice none 0 0)]⟩, ⟨33, 1, 0, true, [.i .i64 0]⟩, ⟨27, 3, 0, false, []⟩, ⟨27, 3, 0, true, [.b (decide ((eu v w 0).1 < 0)), .n false .u64 (lm (eu v w 0).1), .n false .u64 (lm ((eu v w 0).2 : Int))]⟩, ⟨0, 1, 0, true, []⟩, ⟨0, 1, 0, true, []⟩] Q1 := by
    subst ho; subst hF; refine ja_l2 0 [1, 7, 8] (lo_l (ly_fa fld1027_0 rfl rfl rfl) (hd 16 rfl)) rfl (by kernel_rfl) (by kernel_rfl) (by kernel_rfl) (by kernel_rfl) hpan ?_
    refine ja_to (m := [(16, .p 4 0 0)]) (by decide) rfl (cov_n 1 rfl rfl (.cons rfl .nil)) S4_100000000
  subst ho; subst hF
  exact ja_to (m := []) (by decide) rfl (cov_n 0 rfl rfl .nil) S4_000000000

theorem UQuo (A B : Nat) (hA : A ≠ 0) (hB : B ≠ 0) (g : Nat.gcd B A = 1) (la : lenV (A : Int) ≤ 1048600) (lb : lenV (B : Int) ≤ 1048600) : Spec Tryz.prog 9 [(.a [.b false, .n false .u64 [1], .n false .u64 [1]]), (.a [.b (decide ((A : Int) < 0)), .n false .u64 (lm (A : Int)), .n false .u64 (lm (B : Int))])] (fun o => o = .ret (.t [(.a [.b false, .n false .u64 (lm (B : Int)), .n false .u64 (lm (A : Int))]), .i .i64 0])) := by
  have r1 : Qr false [1] [1] 1 1 1 1 1 := ⟨rw_1 (by decide) (by decide), rw_1 (by decide) (by decide), Qe.raw (s := false) (x := 1) (y := 1) (by decide), by decide +kernel, by decide +kernel, by decide +kernel, by decide +kernel⟩
  have r2 : Qr (decide ((A : Int) < 0)) (lm (A : Int)) (lm (B : Int)) A B (A : Int) B 1048600 := ⟨Rw.of (by omega), Rw.of (by omega), by
    have h := Qe.raw (s := decide ((A : Int) < 0)) (x := A) (y := B) hB
    rwa [show zs (decide ((A : Int) < 0)) A = (A : Int) from by rw [decide_eq_false (by omega)]; rfl] at h, la, lb, la, lb⟩
  have h := QQuo_r r1 r2 (by decide) hA
  have c := can_of (a := (B : Int)) (b := A) (Z := 1 * zs (decide ((A : Int) < 0)) B) (W := 1 * (A : Int).natAbs) g hA (by rw [Nat.one_mul, Int.natAbs_natCast]; exact hA) (by
    rw [decide_eq_false (by omega), Nat.one_mul, Int.natAbs_natCast, Int.one_mul]
    rfl)
  rw [c.1, c.2.1, c.2.2, show decide ((B : Int) < 0) = false from decide_eq_false (by omega)] at h
  exact h
theorem UAdd (q a : Int) (B R : Nat) (hB : B ≠ 0) (e : a = q * (B : Int) + (R : Int)) (g : Int.gcd a (B : Int) = 1) (lq : lenV q ≤ 1048601) (lB : lenV (B : Int) ≤ 1048600) (lR : lenV (R : Int) ≤ 1048600) : Spec Tryz.prog 6 [(.a [.b (decide (q < 0)), .n false .u64 (lm q), .n false .u64 [1]]), (.a [.b false, .n false .u64 (lm (R : Int)), .n false .u64 (lm (B : Int))])] (fun o => o = .ret (.t [(.a [.b (decide (a < 0)), .n false .u64 (lm a), .n false .u64 (lm (B : Int))]), .i .i64 0])) := by
  have r1 : Qr (decide (q < 0)) (lm q) [1] q.natAbs 1 q 1 1048601 := ⟨by have h := Rw.of (x := q.natAbs) (by rw [lenV_abs]; omega); rwa [lm_abs] at h, rw_1 (by decide) (by decide), by
    have h := Qe.raw (s := decide (q < 0)) (x := q.natAbs) (y := 1) (by decide)
    rwa [zs_dec] at h, by rw [lenV_abs]; exact lq, by decide +kernel, lq, by decide +kernel⟩
  have r2 : Qr false (lm (R : Int)) (lm (B : Int)) R B (R : Int) B 1048600 := ⟨Rw.of (by omega), Rw.of (by omega), Qe.raw (s := false) hB, lR, lB, lR, lB⟩
  have h := QAdd_r r1 r2 (by decide)
  have c := can_of (a := a) (b := B) (Z := q * (B : Int) + (R : Int) * ((1 : Nat) : Int)) (W := 1 * B) g hB (by rw [Nat.one_mul]; exact hB) (by
    rw [Nat.one_mul, show ((1 : Nat) : Int) = 1 from rfl, Int.mul_one, ← e])
  rw [c.1, c.2.1, c.2.2] at h
  exact h
theorem UNorm {q a : Int} {b : Nat} (hb : b = 1) (e : q = a) (g : Int.gcd a (b : Int) = 1) (la : lenV a ≤ 67108864) : Spec Tryz.prog 32 [(.a [.b (decide (q < 0)), .n false .u64 (lm q), .n false .u64 [1]])] (fun o => o = .ret ((.a [.b (decide (a < 0)), .n false .u64 (lm a), .n false .u64 (lm (b : Int))]))) := by
  subst e; subst hb
  have h := qnorm_s (decide (q < 0)) (lm q) [1] q.natAbs 1 (by have h := Rw.of (x := q.natAbs) (by rw [lenV_abs]; exact la); rwa [lm_abs] at h) (rw_1 (by decide) (by decide)) (by decide)
  have e9 := Qe.raw (s := decide (q < 0)) (x := q.natAbs) (y := 1) (by decide)
  rw [zs_dec] at e9
  have c := can_of (a := q) (b := 1) (Z := q) (W := 1) g (by decide) (by decide) rfl
  rw [e9.sgn, e9.low.1, e9.low.2, c.2.1, c.2.2] at h
  exact h

theorem Unchain_s (v : Int) (w n : Nat) (hc : Chn v w n) (hv9 : lenV v ≤ 1048600) (hw9 : lenV (w : Int) ≤ 1048600) : Spec Tryz.prog 24 [.l false 2 (cfR v w n)] (fun o => o = .ret (.t [.a [.b (decide ((eu v w 0).1 < 0)), .n false .u64 (lm (eu v w 0).1), .n false .u64 (lm ((eu v w 0).2 : Int))], .i .i64 0])) := by
  refine spec_ofD [(0, .l false 2 (cfR v w n))] rfl Tryz.func24 rfl (zlb rfl) fun Γ 𝓡 hN hds hL hR hE => ?_
  have hd := hdOf 45 hN
  have hF1 : Spec Tryz.prog 68 [.i .u64 1] (fun o => o = .ret (.n true .u64 [1])) := by have h := From_s 1; rwa [if_neg (by decide)] at h
  have hIn : Spec Tryz.prog 40 [.i .i64 1] (fun o => o = .ret (.a [.b false, .n true .u64 [1], .n true .u64 [1]])) := by have h := QInt_s 1 (by unfold inI; omega); rwa [show decide ((1 : Int) < 0) = false from rfl, show lm (1 : Int) = [1] from lm_1n, lm_1n] at h
  have hn0 := hc.n0
  have hnl := hc.len hw9
  have hcl : (cfR v w n).length = n := cfR_len
  have hlast := eu_len hv9 hw9 (k := n - 1) (fun j hj => hc.lt j (by omega))
  have hNo := UNorm (q := (eqt v w (n - 1))) (a := (eu v w (n - 1)).1) (b := (eu v w (n - 1)).2) (hc.one (by omega)) (by unfold eqt; rw [hc.one (k := n - 1) (by omega)]; exact Int.ediv_one _) (hc.gcd (n - 1) (by omega)) (by omega)
  refine jcp_seq <| jc_region <| jo_h (hy_alloc (id := 0) zero1027 (by decide) rfl (by decide) rfl) (hd 2 rfl) <| jo_h (hy_alloc (id := 1) zero23 (by decide) rfl (by decide) rfl) (hd 3 rfl) <| jo_nil <| jcd_defer (g := 77) (caps := [.p 0 0 0, .p 1 0 0]) 2 [_] (ops := [_, _]) rfl Tryz.func77 rfl rfl rfl hds hR hL hE <| jo_l (ly_mf (ovL_cons rfl (ovL_cons rfl ovL_nil))) (hd 6 rfl) <| jo_nil ?_
  refine ⟨rfl, rfl, rfl, ?_⟩
  intro Γ1 hN1 hL hR1
  replace hd : ∀ d, Nat.blt d 45 = true → d < Γ1.N := fun d h => by rw [hN1]; exact hd d h
  refine jo_nil <| jc_seq <| zsr <| zmv rfl (hd 7 rfl) <| jo_l (ly_lenl sl56 rfl) (hd 8 rfl) <| jo_l (ly_ff (ly_eq rfl rfl) (by omega)) (hd 9 rfl) <| jo_nil <| jc_litf rfl <| jc_skip <| jc_seq <| jc_region ?_
  refine jo_call Tryz.f68 (hF1) rfl Tryz.func68 rfl rfl (ovL_cons rfl ovL_nil) (.cons .i .nil) (hd 11 rfl) ?_ (fun ch hp => by simp at hp)
  rintro _ ⟨⟩; refine zas rfl (hd 4 rfl) <| jo_nil <| zsr <| zmv rfl (hd 12 rfl) <| zmv rfl (hd 13 rfl) <| jo_l (ly_lenl sl56 rfl) (hd 14 rfl) <| jo_l (ly_sub rfl rfl (r := ((n - 1 : Nat) : Int)) (by rw [hcl, wrap_i64 (by omega) (by omega)]; omega)) (hd 15 rfl) <| jo_l (ly_ial (i := (n - 1)) (row := [.b (decide ((eqt v w (n - 1)) < 0)), .n false .u64 (lm (eqt v w (n - 1)))]) sl56 rfl rfl rfl (cfR_at (by omega))) (hd 16 rfl) <| jo_l (ly_ldqa agg30 rfl rfl rfl) (hd 17 rfl) <| zmv rfl (hd 18 rfl) <| jo_l (ly_build (is := [0, 1]) (xs := [.tmp 17, .tmp 18]) zero1027 pls1027_0_1 rfl (ovL_cons rfl (ovL_cons rfl ovL_nil)) rfl ⟨rfl, (by decide), rfl, (by decide), trivial⟩ (all_of rfl) rfl) (hd 19 rfl) ?_
  refine jo_call Tryz.f32 (hNo) rfl Tryz.func32 rfl rfl (ovL_cons rfl ovL_nil) (.cons (.a1 .b (.a1 .n (.a1 .n .a0))) .nil) (hd 20 rfl) ?_ (fun ch hp => by simp at hp)
  rintro _ ⟨⟩; refine jo_st (sy_store rfl rfl rfl siz1027 rfl rfl (zlb rfl)) <| jo_nil <| jc_seq <| zsr <| zmv rfl (hd 21 rfl) <| jo_l (ly_lenl sl56 rfl) (hd 22 rfl) <| jo_l (ly_sub rfl rfl (r := (n : Int) - 2) (by rw [hcl, wrap_i64 (by omega) (by omega)])) (hd 23 rfl) <| zas rfl (hd 5 rfl) <| jo_nil <| jc_block ?_
  refine jc_loopDD (G := Nat) 2 (fun k => k < n) (fun k => [(5, .i .i64 ((k : Int) - 1)), (24, .u), (25, .u), (26, .u), (27, .u), (28, .u), (29, .u), (30, .u), (31, .u), (32, .u), (33, .u), (34, .u), (35, .u), (36, .u), (37, .u), (38, .u), (39, .u), (40, .u), (41, .u), (42, .u), (43, .u)]) (fun k => [⟨27, 3, 0, true, [.b (decide ((eu v w k).1 < 0)), .n false .u64 (lm (eu v w k).1), .n false .u64 (lm ((eu v w k).2 : Int))]⟩, ⟨33, 1, 0, true, [.i .i64 0]⟩]) (fun k => k) (n - 1) ?_ ?_ rfl (Nat.le_trans (Nat.le_of_eq hR1) (by decide)) rfl (fun _ _ => rfl) (fun k hk => .cons rfl (.cons rfl .nil)) ?_
  · exact Nat.sub_lt (Nat.pos_of_ne_zero hn0) (by decide)
  · exact (.cons (congrArg (fun x => some (V.i .i64 x)) (by omega : (n : Int) - 2 = ((n - 1 : Nat) : Int) - 1)) (.u (.u (.u (.u (.u (.u (.u (.u (.u (.u (.u (.u (.u (.u (.u (.u (.u (.u (.u (.u .nil)))))))))))))))))))))
  · rintro k hk; refine jc_seq <| zsr <| zmv rfl (hd 24 rfl) <| jo_l (ly_ge rfl rfl) (hd 25 rfl) <| jo_nil ?_
    refine jc_if rfl (fun h2 => ?_) (fun h2 => ?_)
    · have hk1 : 1 ≤ k := by have h9 : (k : Int) - 1 ≥ 0 := h2; omega
      obtain ⟨j, rfl⟩ : ∃ j, k = j + 1 := ⟨k - 1, by omega⟩
      have hb0 := hc.lt j (by omega)
      have hb1 := hc.lt (j + 1) hk
      have hl0 := eu_len hv9 hw9 (k := j) (fun i hi => hc.lt i (by omega))
      have hl1 := eu_len hv9 hw9 (k := j + 1) (fun i hi => hc.lt i (by omega))
      have lq := eqt_len hv9 hw9 (k := j) (fun i hi => hc.lt i (by omega))
      have hg1 : Nat.gcd (eu v w (j + 1)).2 (eu v w j).2 = 1 := by have h9 : Nat.gcd (eu v w j).2 (eu v w (j + 1)).2 = 1 := hc.gcd (j + 1) (by omega); rw [Nat.gcd_comm]; exact h9
      have hQ := UQuo (eu v w j).2 (eu v w (j + 1)).2 hb0 hb1 hg1 hl0.2 hl1.2
      have hA := UAdd (eqt v w j) (eu v w j).1 (eu v w j).2 (eu v w (j + 1)).2 hb0 (eu_sum hb0) (hc.gcd j (by omega)) lq hl0.2 hl1.2
      refine jc_skip <| jc_seq <| jc_block <| jc_nopan <| jc_draw (n := 17) _ rfl mixed <| zal2 0 [2, 3, 5, 12, 13, 14, 15, 16] (lo_l (ly_mv rfl) (hd 28 rfl)) rfl <| zal2 1 [2, 3, 5, 12, 13, 14, 15, 16] (lo_l (ly_mv rfl) (hd 29 rfl)) rfl <| zal2 2 [3, 5, 12, 13, 14, 15, 16] (lo_l (ly_ial (i := j) (row := [.b (decide ((eqt v w j) < 0)), .n false .u64 (lm (eqt v w j))]) sl56 rfl rfl (by omega) (cfR_at (by omega))) (hd 30 rfl)) rfl <| zal2 3 [5, 12, 13, 14, 15, 16] (lo_l (ly_ldqa agg30 rfl rfl rfl) (hd 31 rfl)) rfl <| zal2 4 [5, 12, 13, 14, 15, 16] (lo_l (ly_mv rfl) (hd 32 rfl)) rfl <| zal2 5 [12, 13, 14, 15, 16] (lo_l (ly_build (is := [0, 1]) (xs := [.tmp 31, .tmp 32]) zero1027 pls1027_0_1 rfl (ovL_cons rfl (ovL_cons rfl ovL_nil)) rfl ⟨rfl, (by decide), rfl, (by decide), trivial⟩ (all_of rfl) rfl) (hd 33 rfl)) rfl <| zal2 7 [8, 9, 10, 11, 12, 13, 14, 15, 16] (lo_l (ly_lda agg1027 rfl rfl rfl rfl) (hd 35 rfl)) rfl ?_
      refine ja_1 6 ?_ rfl (by kernel_rfl)
      refine js_call Tryz.f40 (hIn) rfl Tryz.func40 rfl rfl (ovL_cons rfl ovL_nil) (.cons .i .nil) (hd 34 rfl) ?_ (fun ch hp => by simp at hp)
      rintro y hy; injection hy with hy; subst hy
      refine ja_1 8 ?_ rfl (by kernel_rfl)
      refine js_call Tryz.f9 (hQ) rfl Tryz.func9 rfl rfl (ovL_cons rfl (ovL_cons rfl ovL_nil)) (.cons (.a1 .b (.a1 .n (.a1 .n .a0))) (.cons (.a1 .b (.a1 .n (.a1 .n .a0))) .nil)) (hd 36 rfl) ?_ (fun ch hp => by simp at hp)
      rintro _ ⟨⟩; refine zal2 9 [11, 12, 13, 14, 15, 16] (lo_l (ly_ext rfl rfl) (hd 37 rfl)) rfl <| zal2 10 [11, 12, 13, 14, 15, 16] (lo_l (ly_ext rfl rfl) (hd 38 rfl)) rfl ?_
      refine ja_1 11 ?_ rfl (by kernel_rfl)
      refine js_call Tryz.f43 (mustR _ _ _) rfl Tryz.func43 rfl rfl (ovL_cons rfl (ovL_cons rfl ovL_nil)) (.cons (.a1 .b (.a1 .n (.a1 .n .a0))) (.cons .i .nil)) (hd 39 rfl) ?_ (fun ch hp => by simp at hp)
      rintro y hy; injection hy with hy; subst hy
      refine ja_1 12 ?_ rfl (by kernel_rfl)
      refine js_call Tryz.f6 (hA) rfl Tryz.func6 rfl rfl (ovL_cons rfl (ovL_cons rfl ovL_nil)) (.cons (.a1 .b (.a1 .n (.a1 .n .a0))) (.cons (.a1 .b (.a1 .n (.a1 .n .a0))) .nil)) (hd 40 rfl) ?_ (fun ch hp => by simp at hp)
      rintro _ ⟨⟩; refine zal 13 (lo_l (ly_ext rfl rfl) (hd 41 rfl)) rfl <| zal 14 (lo_l (ly_ext rfl rfl) (hd 42 rfl)) rfl ?_
      refine ja_1 15 ?_ rfl (by kernel_rfl)
      refine js_call Tryz.f43 (mustR _ _ _) rfl Tryz.func43 rfl rfl (ovL_cons rfl (ovL_cons rfl ovL_nil)) (.cons (.a1 .b (.a1 .n (.a1 .n .a0))) (.cons .i .nil)) (hd 43 rfl) ?_ (fun ch hp => by simp at hp)
      rintro y hy; injection hy with hy; subst hy
      refine ja_1 16 ?_ rfl (by kernel_rfl)
      refine js_st (sy_store rfl rfl rfl siz1027 rfl rfl (zlb rfl)) rfl <| ja_nil (by kernel_rfl) <| jc_region <| zmv rfl (hd 26 rfl) <| jo_l (ly_sub rfl rfl (r := (j : Int) - 1) (by rw [wrap_i64 (by omega) (by omega)]; omega)) (hd 27 rfl) <| zas rfl (hd 5 rfl) <| jo_nil ?_
      refine ⟨j, ?_, ?_, rfl, cov_n 42 rfl rfl ?_⟩
      · exact Nat.lt_of_succ_lt hk
      · exact Nat.lt_succ_self j
      · exact (.cons rfl (.u (.u (.u (.u (.u (.u (.u (.u (.u (.u (.u (.u (.u (.u (.u (.u (.u (.u (.u (.u .nil)))))))))))))))))))))
    · have hk0 : k = 0 := by have h9 : ¬ (k : Int) - 1 ≥ 0 := h2; omega
      subst hk0; refine jc_exit <| zsr <| jo_l (ly_lda agg1027 rfl rfl rfl rfl) (hd 44 rfl) <| jo_st (sy_store rfl rfl rfl siz1027 rfl rfl (zlb rfl)) <| jo_st (sy_store rfl rfl rfl siz23 rfl rfl (zlb rfl)) <| jo_nil <| jc_ret <| Clo.fin clo_2385 (m := 2) (i := 0) (j := 1) (zlb rfl) rfl rfl rfl rfl ?_
      refine ⟨_, _, (.cons (ResV.cell agg1027 rfl rfl rfl rfl) (.cons (ResV.cell1 one23 rfl rfl rfl) .nil)), (.t1 (.a1 .b (.a1 .n (.a1 .n .a0))) (.t1 .i .t0)), ?_⟩
      exact rfl

theorem ntx_D (x : Nat) : isD (ntx x) := fun i hi => by
  have hr := hdg_rng (b := 10) (by decide) 1 x
  have e := dgs_txt (rng36 (by decide) hr)
  have h1 := dgs_getD hi
  have h2 := byteAt_range (ntx x) i
  have h3 : dgv (byteAt (ntx x) i) < 10 := by
    rw [← h1]
    unfold ntx
    rw [e]
    exact (rng_getD (by decide) hr i).2
  exact dgv_10 h2.1 h2.2 h3
theorem ntx_0 (x : Nat) : (ntx x).size ≠ 0 := by unfold ntx; rw [txt_size, hdg_le]; omega
theorem bA_l {u v : ByteArray} {i : Nat} (h : i < u.size) : byteAt (u ++ v) i = byteAt u i := by
  unfold byteAt
  rw [dif_pos (by rw [ByteArray.size_append]; omega), dif_pos h, ByteArray.getElem_append_left]
theorem bA_r0 {u v : ByteArray} (h : v.size ≠ 0) : byteAt (u ++ v) u.size = byteAt v 0 := by
  unfold byteAt
  rw [dif_pos (by rw [ByteArray.size_append]; omega), dif_pos (by omega), ByteArray.getElem_append_right (Nat.le_refl _)]
  simp only [Nat.sub_self]
theorem ex_l (p r : ByteArray) : (p ++ r).extract 0 p.size = p := ByteArray.extract_append_eq_left rfl
theorem ex_r (p r : ByteArray) : (p ++ r).extract p.size (p ++ r).size = r := ByteArray.extract_append_eq_right rfl ByteArray.size_append
theorem ex_1 (c : UInt8) (t : ByteArray) : ((⟨#[c]⟩ : ByteArray) ++ t).extract 1 ((⟨#[c]⟩ : ByteArray) ++ t).size = t := ex_r ⟨#[c]⟩ t
theorem nd_app {p r : ByteArray} (hp : isD p) (hr : r.size ≠ 0 → ¬ dB (byteAt r 0)) : nd (p ++ r) 0 = p.size := by
  refine nd_is (Nat.zero_le _) (by rw [ByteArray.size_append]; omega) (fun i _ hi => ?_) (fun h => ?_)
  · rw [bA_l hi]; exact hp i hi
  · rw [ByteArray.size_append] at h
    rw [bA_r0 (by omega)]
    exact hr (by omega)

theorem QParseP_00 (s p : ByteArray) (x : Nat) (hs0 : s.size ≠ 0) (hs : s.size ≤ 4194304) (h45 : ¬ byteAt s 0 = 45) (hp : s.extract 0 (nd s 0) = p) (hr : s.extract (nd s 0) s.size = .empty) (hp9 : isD p) (hp0 : p.size ≠ 0) (bx : lenV (x : Int) ≤ 1048600) (hP : Spec Tryz.prog 72 [.s p, .i .i64 10] (fun o => o = .ret (.t [.n false .u64 (lm ((x : Nat) : Int)), .i .i64 0])))  : Spec Tryz.prog 22 [.s s] (fun o => o = .ret (.t [(.a [.b (sgq false x), .n false .u64 (lm ((rn0 x 1 : Nat) : Int)), .n false .u64 (lm ((rd0 x 1 : Nat) : Int))]), .i .i64 0])) := by
  refine spec_ofD [(0, .s s)] rfl Tryz.func22 rfl (zlb rfl) fun Γ 𝓡 hN hds hL hR hE => ?_
  have hd := hdOf 115 hN
  have hF1 : Spec Tryz.prog 68 [.i .u64 1] (fun o => o = .ret (.n true .u64 [1])) := by have h := From_s 1; rwa [if_neg (by decide)] at h
  have hp9v := hp9 0 (by omega)
  unfold dB at hp9v
  have hCu : Spec Tryz.prog 70 [.s s] (fun o => o = .ret (.t [.s p, .s .empty])) := by
    have h := cut_s s (by omega)
    rwa [hp, hr] at h
  refine jcp_seq <| jc_region <| jo_h (hy_alloc (id := 0) zero1027 (by decide) rfl (by decide) rfl) (hd 2 rfl) <| jo_h (hy_alloc (id := 1) zero23 (by decide) rfl (by decide) rfl) (hd 3 rfl) <| jo_nil <| jcd_defer (g := 69) (caps := [.p 0 0 0, .p 1 0 0]) 2 [_] (ops := [_, _]) rfl Tryz.func69 rfl rfl rfl hds hR hL hE <| jo_l (ly_mf (ovL_cons rfl (ovL_cons rfl ovL_nil))) (hd 12 rfl) <| jo_nil ?_
  refine ⟨rfl, rfl, rfl, ?_⟩
  intro Γ1 hN1 hL hR1
  replace hd : ∀ d, Nat.blt d 115 = true → d < Γ1.N := fun d h => by rw [hN1]; exact hd d h
  refine jo_nil <| zsr <| zmv rfl (hd 13 rfl) <| jo_l (ly_lens und9 rfl) (hd 14 rfl) <| jo_l (ly_tt (ly_gt rfl rfl) (by omega)) (hd 15 rfl) <| zmv rfl (hd 16 rfl) <| jo_g 16 rfl rfl (ly_mv rfl) (hd 17 rfl) <| jo_g 16 rfl rfl (ly_ixs (i := 0) und9 rfl rfl (by first | rfl | omega) (by omega)) (hd 18 rfl) <| jo_g 16 rfl rfl (ly_ff (ly_eq rfl rfl) h45) (hd 19 rfl) <| jo_l (ly_pick_t rfl rfl) (hd 20 rfl) <| zas rfl (hd 4 rfl) <| jo_nil ?_; refine jc_seq <| zsr <| zmv rfl (hd 21 rfl) <| jo_nil <| jc_litf rfl <| jc_skip <| zsr <| zmv rfl (hd 25 rfl) ?_
  refine jo_call Tryz.f70 (hCu) rfl Tryz.func70 rfl rfl (ovL_cons rfl ovL_nil) (.cons .s .nil) (hd 26 rfl) ?_ (fun ch hp => by simp at hp)
  rintro _ ⟨⟩; refine zmv rfl (hd 24 rfl) <| jo_l (ly_ext rfl rfl) (hd 27 rfl) <| jo_l (ly_ext rfl rfl) (hd 28 rfl) <| zas rfl (hd 5 rfl) <| zas rfl (hd 6 rfl) <| jo_nil <| zsr <| zas rfl (hd 7 rfl) <| zas rfl (hd 8 rfl) <| jo_nil <| jc_seq <| jc_seq ?_; refine jc_region <| zmv rfl (hd 29 rfl) <| jo_l (ly_ff (ly_neS rfl rfl) (fun h => h rfl)) (hd 30 rfl) <| jo_nil <| jc_litf rfl <| jc_skip <| jc_seq <| zsr <| zmv rfl (hd 39 rfl) <| jo_l (ly_ff (ly_eqS rfl rfl) (fun h => hp0 (by rw [h]; rfl))) (hd 40 rfl) <| zmv rfl (hd 41 rfl) <| jo_g 41 rfl rfl (ly_mv rfl) (hd 42 rfl) ?_; refine jo_g 41 rfl rfl (ly_ff (ly_neS rfl rfl) (fun h => h rfl)) (hd 43 rfl) <| jo_l (ly_pick_f rfl rfl) (hd 44 rfl) <| zmv rfl (hd 45 rfl) <| jo_g 45 rfl rfl (ly_mv rfl) (hd 46 rfl) <| jo_g 45 rfl rfl (ly_ff (ly_ne rfl rfl) (by decide)) (hd 47 rfl) <| jo_g 45 rfl rfl (ly_mv rfl) (hd 48 rfl) <| jo_s 48 rfl rfl rfl (hd 49 rfl) <| jo_s 48 rfl rfl rfl (hd 50 rfl) <| jo_s 48 rfl rfl rfl (hd 51 rfl) <| jo_s' 51 rfl rfl (hd 52 rfl) <| jo_s' 51 rfl rfl (hd 53 rfl) <| jo_s 48 rfl rfl rfl (hd 54 rfl) <| jo_s 48 rfl rfl rfl (hd 55 rfl) ?_; refine jo_s' 55 rfl rfl (hd 56 rfl) <| jo_s' 55 rfl rfl (hd 57 rfl) <| jo_s 48 rfl rfl rfl (hd 58 rfl) <| jo_g 45 rfl rfl (ly_pick_f rfl rfl) (hd 59 rfl) <| jo_l (ly_pick_f rfl rfl) (hd 60 rfl) <| jo_nil <| jc_litf rfl <| jc_skip <| jc_seq <| jc_region ?_
  refine jo_call Tryz.f68 (hF1) rfl Tryz.func68 rfl rfl (ovL_cons rfl ovL_nil) (.cons .i .nil) (hd 62 rfl) ?_ (fun ch hp => by simp at hp)
  rintro _ ⟨⟩; refine zas rfl (hd 9 rfl) <| jo_nil <| zsr <| zmv rfl (hd 63 rfl) <| zas rfl (hd 10 rfl) <| jo_nil <| jc_seq <| zsr <| zmv rfl (hd 64 rfl) <| jo_nil <| jc_block ?_; refine zsr <| jo_l (ly_ff (ly_eq rfl rfl) (by decide)) (hd 66 rfl) <| zas rfl (hd 65 rfl) <| jo_nil <| jc_litf rfl <| zsr <| jo_l (ly_ff (ly_eq rfl rfl) (by decide)) (hd 94 rfl) <| zas rfl (hd 93 rfl) <| jo_nil <| jc_litf rfl <| jc_skip ?_; refine jc_seq <| zsr <| zmv rfl (hd 100 rfl) <| jo_l (ly_lenn sl28 rfl) (hd 101 rfl) <| jo_l (ly_ff (ly_eq rfl rfl) (by decide)) (hd 102 rfl) <| jo_nil <| jc_litf rfl <| jc_skip <| zsr <| zmv rfl (hd 104 rfl) ?_
  refine jo_call Tryz.f72 (hP) rfl Tryz.func72 rfl rfl (ovL_cons rfl (ovL_cons rfl ovL_nil)) (.cons .s (.cons .i .nil)) (hd 105 rfl) ?_ (fun ch hp => by simp at hp)
  rintro _ ⟨⟩; refine jo_l (ly_ext rfl rfl) (hd 106 rfl) <| jo_l (ly_ext rfl rfl) (hd 107 rfl) ?_
  refine jo_call Tryz.f34 (mustN _) rfl Tryz.func34 rfl rfl (ovL_cons rfl (ovL_cons rfl ovL_nil)) (.cons .n (.cons .i .nil)) (hd 108 rfl) ?_ (fun ch hp => by simp at hp)
  rintro _ ⟨⟩; refine zas rfl (hd 11 rfl) <| jo_nil <| zsr <| zmv rfl (hd 109 rfl) <| zmv rfl (hd 110 rfl) <| jo_l (ly_build (is := [0, 1]) (xs := [.tmp 109, .tmp 110]) zero30 pls30_0_1 rfl (ovL_cons rfl (ovL_cons rfl ovL_nil)) rfl (by first | (simp [plsOk, cellsV]; done) | (simp [plsOk, cellsV, old]; done)) (all_of rfl) rfl) (hd 111 rfl) <| zmv rfl (hd 112 rfl) <| jo_l (ly_build (is := [0, 1]) (xs := [.tmp 111, .tmp 112]) zero1027 pls1027_0_1 rfl (ovL_cons rfl (ovL_cons rfl ovL_nil)) rfl ⟨rfl, (by decide), rfl, (by decide), trivial⟩ (all_of rfl) rfl) (hd 113 rfl) ?_
  refine jo_call Tryz.f32 (qnorm_s false (lm ((x : Nat) : Int)) [1] x 1 (Rw.of (by omega)) (rw_1 (by decide) (by decide)) (by decide)) rfl Tryz.func32 rfl rfl (ovL_cons rfl ovL_nil) (.cons (.a1 .b (.a1 .n (.a1 .n .a0))) .nil) (hd 114 rfl) ?_ (fun ch hp => by simp at hp)
  rintro _ ⟨⟩; refine jo_st (sy_store rfl rfl rfl siz1027 rfl rfl (zlb rfl)) <| jo_st (sy_store rfl rfl rfl siz23 rfl rfl (zlb rfl)) <| jo_nil <| jc_ret <| Clo.fin clo_2354 (m := 2) (i := 0) (j := 1) (zlb rfl) rfl rfl rfl rfl ?_
  refine ⟨_, _, (.cons (ResV.cell agg1027 rfl rfl rfl rfl) (.cons (ResV.cell1 one23 rfl rfl rfl) .nil)), (.t1 (.a1 .b (.a1 .n (.a1 .n .a0))) (.t1 .i .t0)), ?_⟩
  exact rfl

theorem QParseP_01 (s p q r : ByteArray) (x y : Nat) (hs0 : s.size ≠ 0) (hs : s.size ≤ 4194304) (h45 : ¬ byteAt s 0 = 45) (hp : s.extract 0 (nd s 0) = p) (hr : s.extract (nd s 0) s.size = r) (hp9 : isD p) (hp0 : p.size ≠ 0) (hr0 : r.size ≠ 0) (h47 : byteAt r 0 = 47) (hq : r.extract 1 r.size = q) (hq9 : isD q) (hq0 : q.size ≠ 0) (hqs : q.size ≤ 4194304) (bx : lenV (x : Int) ≤ 1048600) (hP : Spec Tryz.prog 72 [.s p, .i .i64 10] (fun o => o = .ret (.t [.n false .u64 (lm ((x : Nat) : Int)), .i .i64 0]))) (hy0 : y ≠ 0) (by9 : lenV (y : Int) ≤ 1048600) (hQ : Spec Tryz.prog 72 [.s q, .i .i64 10] (fun o => o = .ret (.t [.n false .u64 (lm ((y : Nat) : Int)), .i .i64 0]))) : Spec Tryz.prog 22 [.s s] (fun o => o = .ret (.t [(.a [.b (sgq false x), .n false .u64 (lm ((rn0 x y : Nat) : Int)), .n false .u64 (lm ((rd0 x y : Nat) : Int))]), .i .i64 0])) := by
  refine spec_ofD [(0, .s s)] rfl Tryz.func22 rfl (zlb rfl) fun Γ 𝓡 hN hds hL hR hE => ?_
  have hd := hdOf 115 hN
  have hF1 : Spec Tryz.prog 68 [.i .u64 1] (fun o => o = .ret (.n true .u64 [1])) := by have h := From_s 1; rwa [if_neg (by decide)] at h
  have hp9v := hp9 0 (by omega)
  unfold dB at hp9v
  have hCu : Spec Tryz.prog 70 [.s s] (fun o => o = .ret (.t [.s p, .s r])) := by
    have h := cut_s s (by omega)
    rwa [hp, hr] at h
  have hyl := mt lm_len0.1 hy0
  have hCq : Spec Tryz.prog 70 [.s q] (fun o => o = .ret (.t [.s q, .s .empty])) := by
    have h := cut_s q (by omega)
    rw [hq9.nd, ex_all, ba_nil (s := q.extract q.size q.size) (by rw [ex_sz (Nat.le_refl _)]; omega)] at h
    exact h
  refine jcp_seq <| jc_region <| jo_h (hy_alloc (id := 0) zero1027 (by decide) rfl (by decide) rfl) (hd 2 rfl) <| jo_h (hy_alloc (id := 1) zero23 (by decide) rfl (by decide) rfl) (hd 3 rfl) <| jo_nil <| jcd_defer (g := 69) (caps := [.p 0 0 0, .p 1 0 0]) 2 [_] (ops := [_, _]) rfl Tryz.func69 rfl rfl rfl hds hR hL hE <| jo_l (ly_mf (ovL_cons rfl (ovL_cons rfl ovL_nil))) (hd 12 rfl) <| jo_nil ?_
  refine ⟨rfl, rfl, rfl, ?_⟩
  intro Γ1 hN1 hL hR1
  replace hd : ∀ d, Nat.blt d 115 = true → d < Γ1.N := fun d h => by rw [hN1]; exact hd d h
  refine jo_nil <| zsr <| zmv rfl (hd 13 rfl) <| jo_l (ly_lens und9 rfl) (hd 14 rfl) <| jo_l (ly_tt (ly_gt rfl rfl) (by omega)) (hd 15 rfl) <| zmv rfl (hd 16 rfl) <| jo_g 16 rfl rfl (ly_mv rfl) (hd 17 rfl) <| jo_g 16 rfl rfl (ly_ixs (i := 0) und9 rfl rfl (by first | rfl | omega) (by omega)) (hd 18 rfl) <| jo_g 16 rfl rfl (ly_ff (ly_eq rfl rfl) h45) (hd 19 rfl) <| jo_l (ly_pick_t rfl rfl) (hd 20 rfl) <| zas rfl (hd 4 rfl) <| jo_nil ?_; refine jc_seq <| zsr <| zmv rfl (hd 21 rfl) <| jo_nil <| jc_litf rfl <| jc_skip <| zsr <| zmv rfl (hd 25 rfl) ?_
  refine jo_call Tryz.f70 (hCu) rfl Tryz.func70 rfl rfl (ovL_cons rfl ovL_nil) (.cons .s .nil) (hd 26 rfl) ?_ (fun ch hp => by simp at hp)
  rintro _ ⟨⟩; refine zmv rfl (hd 24 rfl) <| jo_l (ly_ext rfl rfl) (hd 27 rfl) <| jo_l (ly_ext rfl rfl) (hd 28 rfl) <| zas rfl (hd 5 rfl) <| zas rfl (hd 6 rfl) <| jo_nil <| zsr <| zas rfl (hd 7 rfl) <| zas rfl (hd 8 rfl) <| jo_nil <| jc_seq <| jc_seq ?_; refine jc_region <| zmv rfl (hd 29 rfl) <| jo_l (ly_tt (ly_neS rfl rfl) (fun h => hr0 (by rw [h]; rfl))) (hd 30 rfl) <| jo_nil <| jc_litt rfl <| zsr <| zmv rfl (hd 31 rfl) <| jo_l (ly_is (ly_ixs (i := 0) und9 rfl rfl (by first | rfl | omega) (by omega)) (by rw [h47])) (hd 32 rfl) <| zas rfl (hd 8 rfl) <| jo_nil <| jc_region <| zmv rfl (hd 34 rfl) ?_; refine jo_l (ly_is (ly_sls und9 rfl (bnd_some' rfl (by first | rfl | omega)) bnd_none (by omega) (by omega)) (congrArg V.s hq)) (hd 35 rfl) ?_
  refine jo_call Tryz.f70 (hCq) rfl Tryz.func70 rfl rfl (ovL_cons rfl ovL_nil) (.cons .s .nil) (hd 36 rfl) ?_ (fun ch hp => by simp at hp)
  rintro _ ⟨⟩; refine zmv rfl (hd 33 rfl) <| jo_l (ly_ext rfl rfl) (hd 37 rfl) <| jo_l (ly_ext rfl rfl) (hd 38 rfl) <| zas rfl (hd 7 rfl) <| zas rfl (hd 6 rfl) <| jo_nil <| jc_seq <| zsr <| zmv rfl (hd 39 rfl) <| jo_l (ly_ff (ly_eqS rfl rfl) (fun h => hp0 (by rw [h]; rfl))) (hd 40 rfl) <| zmv rfl (hd 41 rfl) <| jo_g 41 rfl rfl (ly_mv rfl) (hd 42 rfl) ?_; refine jo_g 41 rfl rfl (ly_ff (ly_neS rfl rfl) (fun h => h rfl)) (hd 43 rfl) <| jo_l (ly_pick_f rfl rfl) (hd 44 rfl) <| zmv rfl (hd 45 rfl) <| jo_g 45 rfl rfl (ly_mv rfl) (hd 46 rfl) <| jo_g 45 rfl rfl (ly_tt (ly_ne rfl rfl) (by decide)) (hd 47 rfl) <| jo_g 45 rfl rfl (ly_mv rfl) (hd 48 rfl) <| jo_g 48 rfl rfl (ly_mv rfl) (hd 49 rfl) <| jo_g 48 rfl rfl (ly_tt (ly_ne rfl rfl) (by decide)) (hd 50 rfl) <| jo_g 48 rfl rfl (ly_mv rfl) (hd 51 rfl) <| jo_g 51 rfl rfl (ly_mv rfl) (hd 52 rfl) <| jo_g 51 rfl rfl (ly_ff (ly_ne rfl rfl) (by decide)) (hd 53 rfl) <| jo_g 48 rfl rfl (ly_pick_t rfl rfl) (hd 54 rfl) <| jo_g 48 rfl rfl (ly_mv rfl) (hd 55 rfl) ?_; refine jo_g 55 rfl rfl (ly_mv rfl) (hd 56 rfl) <| jo_g 55 rfl rfl (ly_ff (ly_eqS rfl rfl) (fun h => hq0 (by rw [h]; rfl))) (hd 57 rfl) <| jo_g 48 rfl rfl (ly_pick_f rfl rfl) (hd 58 rfl) <| jo_g 45 rfl rfl (ly_pick_t rfl rfl) (hd 59 rfl) <| jo_l (ly_pick_f rfl rfl) (hd 60 rfl) <| jo_nil <| jc_litf rfl <| jc_skip <| jc_seq <| jc_region ?_
  refine jo_call Tryz.f68 (hF1) rfl Tryz.func68 rfl rfl (ovL_cons rfl ovL_nil) (.cons .i .nil) (hd 62 rfl) ?_ (fun ch hp => by simp at hp)
  rintro _ ⟨⟩; refine zas rfl (hd 9 rfl) <| jo_nil <| zsr <| zmv rfl (hd 63 rfl) <| zas rfl (hd 10 rfl) <| jo_nil <| jc_seq <| zsr <| zmv rfl (hd 64 rfl) <| jo_nil <| jc_block ?_; refine zsr <| jo_l (ly_ff (ly_eq rfl rfl) (by decide)) (hd 66 rfl) <| zas rfl (hd 65 rfl) <| jo_nil <| jc_litf rfl <| zsr <| jo_l (ly_tt (ly_eq rfl rfl) (by decide)) (hd 94 rfl) <| zas rfl (hd 93 rfl) <| jo_nil <| jc_litt rfl <| jc_region ?_; refine zmv rfl (hd 95 rfl) ?_
  refine jo_call Tryz.f72 (hQ) rfl Tryz.func72 rfl rfl (ovL_cons rfl (ovL_cons rfl ovL_nil)) (.cons .s (.cons .i .nil)) (hd 96 rfl) ?_ (fun ch hp => by simp at hp)
  rintro _ ⟨⟩; refine jo_l (ly_ext rfl rfl) (hd 97 rfl) <| jo_l (ly_ext rfl rfl) (hd 98 rfl) ?_
  refine jo_call Tryz.f34 (mustN _) rfl Tryz.func34 rfl rfl (ovL_cons rfl (ovL_cons rfl ovL_nil)) (.cons .n (.cons .i .nil)) (hd 99 rfl) ?_ (fun ch hp => by simp at hp)
  rintro _ ⟨⟩; refine zas rfl (hd 9 rfl) <| jo_nil <| jc_seq <| zsr <| zmv rfl (hd 100 rfl) <| jo_l (ly_lenn sl28 rfl) (hd 101 rfl) <| jo_l (ly_ff (ly_eq rfl rfl) (fun h => hyl (by exact_mod_cast h))) (hd 102 rfl) <| jo_nil <| jc_litf rfl <| jc_skip <| jc_seq <| jc_region ?_; refine zmv rfl (hd 104 rfl) ?_
  refine jo_call Tryz.f72 (hP) rfl Tryz.func72 rfl rfl (ovL_cons rfl (ovL_cons rfl ovL_nil)) (.cons .s (.cons .i .nil)) (hd 105 rfl) ?_ (fun ch hp => by simp at hp)
  rintro _ ⟨⟩; refine jo_l (ly_ext rfl rfl) (hd 106 rfl) <| jo_l (ly_ext rfl rfl) (hd 107 rfl) ?_
  refine jo_call Tryz.f34 (mustN _) rfl Tryz.func34 rfl rfl (ovL_cons rfl (ovL_cons rfl ovL_nil)) (.cons .n (.cons .i .nil)) (hd 108 rfl) ?_ (fun ch hp => by simp at hp)
  rintro _ ⟨⟩; refine zas rfl (hd 11 rfl) <| jo_nil <| zsr <| zmv rfl (hd 109 rfl) <| zmv rfl (hd 110 rfl) <| jo_l (ly_build (is := [0, 1]) (xs := [.tmp 109, .tmp 110]) zero30 pls30_0_1 rfl (ovL_cons rfl (ovL_cons rfl ovL_nil)) rfl (by first | (simp [plsOk, cellsV]; done) | (simp [plsOk, cellsV, old]; done)) (all_of rfl) rfl) (hd 111 rfl) <| zmv rfl (hd 112 rfl) <| jo_l (ly_build (is := [0, 1]) (xs := [.tmp 111, .tmp 112]) zero1027 pls1027_0_1 rfl (ovL_cons rfl (ovL_cons rfl ovL_nil)) rfl ⟨rfl, (by decide), rfl, (by decide), trivial⟩ (all_of rfl) rfl) (hd 113 rfl) ?_
  refine jo_call Tryz.f32 (qnorm_s false (lm ((x : Nat) : Int)) (lm ((y : Nat) : Int)) x y (Rw.of (by omega)) (Rw.of (by omega)) hy0) rfl Tryz.func32 rfl rfl (ovL_cons rfl ovL_nil) (.cons (.a1 .b (.a1 .n (.a1 .n .a0))) .nil) (hd 114 rfl) ?_ (fun ch hp => by simp at hp)
  rintro _ ⟨⟩; refine jo_st (sy_store rfl rfl rfl siz1027 rfl rfl (zlb rfl)) <| jo_st (sy_store rfl rfl rfl siz23 rfl rfl (zlb rfl)) <| jo_nil <| jc_ret <| Clo.fin clo_2354 (m := 2) (i := 0) (j := 1) (zlb rfl) rfl rfl rfl rfl ?_
  refine ⟨_, _, (.cons (ResV.cell agg1027 rfl rfl rfl rfl) (.cons (ResV.cell1 one23 rfl rfl rfl) .nil)), (.t1 (.a1 .b (.a1 .n (.a1 .n .a0))) (.t1 .i .t0)), ?_⟩
  exact rfl

theorem QParseP_10 (s u p : ByteArray) (x : Nat) (hs0 : s.size ≠ 0) (hs : s.size ≤ 4194304) (hs1 : s.extract 1 s.size = u) (h45 : byteAt s 0 = 45) (hus : u.size ≤ 4194304) (hp : u.extract 0 (nd u 0) = p) (hr : u.extract (nd u 0) u.size = .empty) (hp9 : isD p) (hp0 : p.size ≠ 0) (bx : lenV (x : Int) ≤ 1048600) (hP : Spec Tryz.prog 72 [.s p, .i .i64 10] (fun o => o = .ret (.t [.n false .u64 (lm ((x : Nat) : Int)), .i .i64 0])))  : Spec Tryz.prog 22 [.s s] (fun o => o = .ret (.t [(.a [.b (sgq true x), .n false .u64 (lm ((rn0 x 1 : Nat) : Int)), .n false .u64 (lm ((rd0 x 1 : Nat) : Int))]), .i .i64 0])) := by
  refine spec_ofD [(0, .s s)] rfl Tryz.func22 rfl (zlb rfl) fun Γ 𝓡 hN hds hL hR hE => ?_
  have hd := hdOf 115 hN
  have hF1 : Spec Tryz.prog 68 [.i .u64 1] (fun o => o = .ret (.n true .u64 [1])) := by have h := From_s 1; rwa [if_neg (by decide)] at h
  have hp9v := hp9 0 (by omega)
  unfold dB at hp9v
  have hCu : Spec Tryz.prog 70 [.s u] (fun o => o = .ret (.t [.s p, .s .empty])) := by
    have h := cut_s u (by omega)
    rwa [hp, hr] at h
  refine jcp_seq <| jc_region <| jo_h (hy_alloc (id := 0) zero1027 (by decide) rfl (by decide) rfl) (hd 2 rfl) <| jo_h (hy_alloc (id := 1) zero23 (by decide) rfl (by decide) rfl) (hd 3 rfl) <| jo_nil <| jcd_defer (g := 69) (caps := [.p 0 0 0, .p 1 0 0]) 2 [_] (ops := [_, _]) rfl Tryz.func69 rfl rfl rfl hds hR hL hE <| jo_l (ly_mf (ovL_cons rfl (ovL_cons rfl ovL_nil))) (hd 12 rfl) <| jo_nil ?_
  refine ⟨rfl, rfl, rfl, ?_⟩
  intro Γ1 hN1 hL hR1
  replace hd : ∀ d, Nat.blt d 115 = true → d < Γ1.N := fun d h => by rw [hN1]; exact hd d h
  refine jo_nil <| zsr <| zmv rfl (hd 13 rfl) <| jo_l (ly_lens und9 rfl) (hd 14 rfl) <| jo_l (ly_tt (ly_gt rfl rfl) (by omega)) (hd 15 rfl) <| zmv rfl (hd 16 rfl) <| jo_g 16 rfl rfl (ly_mv rfl) (hd 17 rfl) <| jo_g 16 rfl rfl (ly_ixs (i := 0) und9 rfl rfl (by first | rfl | omega) (by omega)) (hd 18 rfl) <| jo_g 16 rfl rfl (ly_tt (ly_eq rfl rfl) (by rw [h45])) (hd 19 rfl) <| jo_l (ly_pick_t rfl rfl) (hd 20 rfl) <| zas rfl (hd 4 rfl) <| jo_nil ?_; refine jc_seq <| zsr <| zmv rfl (hd 21 rfl) <| jo_nil <| jc_litt rfl <| jc_region <| zmv rfl (hd 22 rfl) <| jo_l (ly_is (ly_sls und9 rfl (bnd_some' rfl (by first | rfl | omega)) bnd_none (by omega) (by omega)) (congrArg V.s hs1)) (hd 23 rfl) <| zas rfl (hd 0 rfl) <| jo_nil <| jc_seq <| jc_region ?_; refine zmv rfl (hd 25 rfl) ?_
  refine jo_call Tryz.f70 (hCu) rfl Tryz.func70 rfl rfl (ovL_cons rfl ovL_nil) (.cons .s .nil) (hd 26 rfl) ?_ (fun ch hp => by simp at hp)
  rintro _ ⟨⟩; refine zmv rfl (hd 24 rfl) <| jo_l (ly_ext rfl rfl) (hd 27 rfl) <| jo_l (ly_ext rfl rfl) (hd 28 rfl) <| zas rfl (hd 5 rfl) <| zas rfl (hd 6 rfl) <| jo_nil <| zsr <| zas rfl (hd 7 rfl) <| zas rfl (hd 8 rfl) <| jo_nil <| jc_seq <| jc_seq ?_; refine jc_region <| zmv rfl (hd 29 rfl) <| jo_l (ly_ff (ly_neS rfl rfl) (fun h => h rfl)) (hd 30 rfl) <| jo_nil <| jc_litf rfl <| jc_skip <| jc_seq <| zsr <| zmv rfl (hd 39 rfl) <| jo_l (ly_ff (ly_eqS rfl rfl) (fun h => hp0 (by rw [h]; rfl))) (hd 40 rfl) <| zmv rfl (hd 41 rfl) <| jo_g 41 rfl rfl (ly_mv rfl) (hd 42 rfl) ?_; refine jo_g 41 rfl rfl (ly_ff (ly_neS rfl rfl) (fun h => h rfl)) (hd 43 rfl) <| jo_l (ly_pick_f rfl rfl) (hd 44 rfl) <| zmv rfl (hd 45 rfl) <| jo_g 45 rfl rfl (ly_mv rfl) (hd 46 rfl) <| jo_g 45 rfl rfl (ly_ff (ly_ne rfl rfl) (by decide)) (hd 47 rfl) <| jo_g 45 rfl rfl (ly_mv rfl) (hd 48 rfl) <| jo_s 48 rfl rfl rfl (hd 49 rfl) <| jo_s 48 rfl rfl rfl (hd 50 rfl) <| jo_s 48 rfl rfl rfl (hd 51 rfl) <| jo_s' 51 rfl rfl (hd 52 rfl) <| jo_s' 51 rfl rfl (hd 53 rfl) <| jo_s 48 rfl rfl rfl (hd 54 rfl) <| jo_s 48 rfl rfl rfl (hd 55 rfl) ?_; refine jo_s' 55 rfl rfl (hd 56 rfl) <| jo_s' 55 rfl rfl (hd 57 rfl) <| jo_s 48 rfl rfl rfl (hd 58 rfl) <| jo_g 45 rfl rfl (ly_pick_f rfl rfl) (hd 59 rfl) <| jo_l (ly_pick_f rfl rfl) (hd 60 rfl) <| jo_nil <| jc_litf rfl <| jc_skip <| jc_seq <| jc_region ?_
  refine jo_call Tryz.f68 (hF1) rfl Tryz.func68 rfl rfl (ovL_cons rfl ovL_nil) (.cons .i .nil) (hd 62 rfl) ?_ (fun ch hp => by simp at hp)
  rintro _ ⟨⟩; refine zas rfl (hd 9 rfl) <| jo_nil <| zsr <| zmv rfl (hd 63 rfl) <| zas rfl (hd 10 rfl) <| jo_nil <| jc_seq <| zsr <| zmv rfl (hd 64 rfl) <| jo_nil <| jc_block ?_; refine zsr <| jo_l (ly_ff (ly_eq rfl rfl) (by decide)) (hd 66 rfl) <| zas rfl (hd 65 rfl) <| jo_nil <| jc_litf rfl <| zsr <| jo_l (ly_ff (ly_eq rfl rfl) (by decide)) (hd 94 rfl) <| zas rfl (hd 93 rfl) <| jo_nil <| jc_litf rfl <| jc_skip ?_; refine jc_seq <| zsr <| zmv rfl (hd 100 rfl) <| jo_l (ly_lenn sl28 rfl) (hd 101 rfl) <| jo_l (ly_ff (ly_eq rfl rfl) (by decide)) (hd 102 rfl) <| jo_nil <| jc_litf rfl <| jc_skip <| zsr <| zmv rfl (hd 104 rfl) ?_
  refine jo_call Tryz.f72 (hP) rfl Tryz.func72 rfl rfl (ovL_cons rfl (ovL_cons rfl ovL_nil)) (.cons .s (.cons .i .nil)) (hd 105 rfl) ?_ (fun ch hp => by simp at hp)
  rintro _ ⟨⟩; refine jo_l (ly_ext rfl rfl) (hd 106 rfl) <| jo_l (ly_ext rfl rfl) (hd 107 rfl) ?_
  refine jo_call Tryz.f34 (mustN _) rfl Tryz.func34 rfl rfl (ovL_cons rfl (ovL_cons rfl ovL_nil)) (.cons .n (.cons .i .nil)) (hd 108 rfl) ?_ (fun ch hp => by simp at hp)
  rintro _ ⟨⟩; refine zas rfl (hd 11 rfl) <| jo_nil <| zsr <| zmv rfl (hd 109 rfl) <| zmv rfl (hd 110 rfl) <| jo_l (ly_build (is := [0, 1]) (xs := [.tmp 109, .tmp 110]) zero30 pls30_0_1 rfl (ovL_cons rfl (ovL_cons rfl ovL_nil)) rfl (by first | (simp [plsOk, cellsV]; done) | (simp [plsOk, cellsV, old]; done)) (all_of rfl) rfl) (hd 111 rfl) <| zmv rfl (hd 112 rfl) <| jo_l (ly_build (is := [0, 1]) (xs := [.tmp 111, .tmp 112]) zero1027 pls1027_0_1 rfl (ovL_cons rfl (ovL_cons rfl ovL_nil)) rfl ⟨rfl, (by decide), rfl, (by decide), trivial⟩ (all_of rfl) rfl) (hd 113 rfl) ?_
  refine jo_call Tryz.f32 (qnorm_s true (lm ((x : Nat) : Int)) [1] x 1 (Rw.of (by omega)) (rw_1 (by decide) (by decide)) (by decide)) rfl Tryz.func32 rfl rfl (ovL_cons rfl ovL_nil) (.cons (.a1 .b (.a1 .n (.a1 .n .a0))) .nil) (hd 114 rfl) ?_ (fun ch hp => by simp at hp)
  rintro _ ⟨⟩; refine jo_st (sy_store rfl rfl rfl siz1027 rfl rfl (zlb rfl)) <| jo_st (sy_store rfl rfl rfl siz23 rfl rfl (zlb rfl)) <| jo_nil <| jc_ret <| Clo.fin clo_2354 (m := 2) (i := 0) (j := 1) (zlb rfl) rfl rfl rfl rfl ?_
  refine ⟨_, _, (.cons (ResV.cell agg1027 rfl rfl rfl rfl) (.cons (ResV.cell1 one23 rfl rfl rfl) .nil)), (.t1 (.a1 .b (.a1 .n (.a1 .n .a0))) (.t1 .i .t0)), ?_⟩
  exact rfl

theorem QParseP_11 (s u p q r : ByteArray) (x y : Nat) (hs0 : s.size ≠ 0) (hs : s.size ≤ 4194304) (hs1 : s.extract 1 s.size = u) (h45 : byteAt s 0 = 45) (hus : u.size ≤ 4194304) (hp : u.extract 0 (nd u 0) = p) (hr : u.extract (nd u 0) u.size = r) (hp9 : isD p) (hp0 : p.size ≠ 0) (hr0 : r.size ≠ 0) (h47 : byteAt r 0 = 47) (hq : r.extract 1 r.size = q) (hq9 : isD q) (hq0 : q.size ≠ 0) (hqs : q.size ≤ 4194304) (bx : lenV (x : Int) ≤ 1048600) (hP : Spec Tryz.prog 72 [.s p, .i .i64 10] (fun o => o = .ret (.t [.n false .u64 (lm ((x : Nat) : Int)), .i .i64 0]))) (hy0 : y ≠ 0) (by9 : lenV (y : Int) ≤ 1048600) (hQ : Spec Tryz.prog 72 [.s q, .i .i64 10] (fun o => o = .ret (.t [.n false .u64 (lm ((y : Nat) : Int)), .i .i64 0]))) : Spec Tryz.prog 22 [.s s] (fun o => o = .ret (.t [(.a [.b (sgq true x), .n false .u64 (lm ((rn0 x y : Nat) : Int)), .n false .u64 (lm ((rd0 x y : Nat) : Int))]), .i .i64 0])) := by
  refine spec_ofD [(0, .s s)] rfl Tryz.func22 rfl (zlb rfl) fun Γ 𝓡 hN hds hL hR hE => ?_
  have hd := hdOf 115 hN
  have hF1 : Spec Tryz.prog 68 [.i .u64 1] (fun o => o = .ret (.n true .u64 [1])) := by have h := From_s 1; rwa [if_neg (by decide)] at h
  have hp9v := hp9 0 (by omega)
  unfold dB at hp9v
  have hCu : Spec Tryz.prog 70 [.s u] (fun o => o = .ret (.t [.s p, .s r])) := by
    have h := cut_s u (by omega)
    rwa [hp, hr] at h
  have hyl := mt lm_len0.1 hy0
  have hCq : Spec Tryz.prog 70 [.s q] (fun o => o = .ret (.t [.s q, .s .empty])) := by
    have h := cut_s q (by omega)
    rw [hq9.nd, ex_all, ba_nil (s := q.extract q.size q.size) (by rw [ex_sz (Nat.le_refl _)]; omega)] at h
    exact h
  refine jcp_seq <| jc_region <| jo_h (hy_alloc (id := 0) zero1027 (by decide) rfl (by decide) rfl) (hd 2 rfl) <| jo_h (hy_alloc (id := 1) zero23 (by decide) rfl (by decide) rfl) (hd 3 rfl) <| jo_nil <| jcd_defer (g := 69) (caps := [.p 0 0 0, .p 1 0 0]) 2 [_] (ops := [_, _]) rfl Tryz.func69 rfl rfl rfl hds hR hL hE <| jo_l (ly_mf (ovL_cons rfl (ovL_cons rfl ovL_nil))) (hd 12 rfl) <| jo_nil ?_
  refine ⟨rfl, rfl, rfl, ?_⟩
  intro Γ1 hN1 hL hR1
  replace hd : ∀ d, Nat.blt d 115 = true → d < Γ1.N := fun d h => by rw [hN1]; exact hd d h
  refine jo_nil <| zsr <| zmv rfl (hd 13 rfl) <| jo_l (ly_lens und9 rfl) (hd 14 rfl) <| jo_l (ly_tt (ly_gt rfl rfl) (by omega)) (hd 15 rfl) <| zmv rfl (hd 16 rfl) <| jo_g 16 rfl rfl (ly_mv rfl) (hd 17 rfl) <| jo_g 16 rfl rfl (ly_ixs (i := 0) und9 rfl rfl (by first | rfl | omega) (by omega)) (hd 18 rfl) <| jo_g 16 rfl rfl (ly_tt (ly_eq rfl rfl) (by rw [h45])) (hd 19 rfl) <| jo_l (ly_pick_t rfl rfl) (hd 20 rfl) <| zas rfl (hd 4 rfl) <| jo_nil ?_; refine jc_seq <| zsr <| zmv rfl (hd 21 rfl) <| jo_nil <| jc_litt rfl <| jc_region <| zmv rfl (hd 22 rfl) <| jo_l (ly_is (ly_sls und9 rfl (bnd_some' rfl (by first | rfl | omega)) bnd_none (by omega) (by omega)) (congrArg V.s hs1)) (hd 23 rfl) <| zas rfl (hd 0 rfl) <| jo_nil <| jc_seq <| jc_region ?_; refine zmv rfl (hd 25 rfl) ?_
  refine jo_call Tryz.f70 (hCu) rfl Tryz.func70 rfl rfl (ovL_cons rfl ovL_nil) (.cons .s .nil) (hd 26 rfl) ?_ (fun ch hp => by simp at hp)
  rintro _ ⟨⟩; refine zmv rfl (hd 24 rfl) <| jo_l (ly_ext rfl rfl) (hd 27 rfl) <| jo_l (ly_ext rfl rfl) (hd 28 rfl) <| zas rfl (hd 5 rfl) <| zas rfl (hd 6 rfl) <| jo_nil <| zsr <| zas rfl (hd 7 rfl) <| zas rfl (hd 8 rfl) <| jo_nil <| jc_seq <| jc_seq ?_; refine jc_region <| zmv rfl (hd 29 rfl) <| jo_l (ly_tt (ly_neS rfl rfl) (fun h => hr0 (by rw [h]; rfl))) (hd 30 rfl) <| jo_nil <| jc_litt rfl <| zsr <| zmv rfl (hd 31 rfl) <| jo_l (ly_is (ly_ixs (i := 0) und9 rfl rfl (by first | rfl | omega) (by omega)) (by rw [h47])) (hd 32 rfl) <| zas rfl (hd 8 rfl) <| jo_nil <| jc_region <| zmv rfl (hd 34 rfl) ?_; refine jo_l (ly_is (ly_sls und9 rfl (bnd_some' rfl (by first | rfl | omega)) bnd_none (by omega) (by omega)) (congrArg V.s hq)) (hd 35 rfl) ?_
  refine jo_call Tryz.f70 (hCq) rfl Tryz.func70 rfl rfl (ovL_cons rfl ovL_nil) (.cons .s .nil) (hd 36 rfl) ?_ (fun ch hp => by simp at hp)
  rintro _ ⟨⟩; refine zmv rfl (hd 33 rfl) <| jo_l (ly_ext rfl rfl) (hd 37 rfl) <| jo_l (ly_ext rfl rfl) (hd 38 rfl) <| zas rfl (hd 7 rfl) <| zas rfl (hd 6 rfl) <| jo_nil <| jc_seq <| zsr <| zmv rfl (hd 39 rfl) <| jo_l (ly_ff (ly_eqS rfl rfl) (fun h => hp0 (by rw [h]; rfl))) (hd 40 rfl) <| zmv rfl (hd 41 rfl) <| jo_g 41 rfl rfl (ly_mv rfl) (hd 42 rfl) ?_; refine jo_g 41 rfl rfl (ly_ff (ly_neS rfl rfl) (fun h => h rfl)) (hd 43 rfl) <| jo_l (ly_pick_f rfl rfl) (hd 44 rfl) <| zmv rfl (hd 45 rfl) <| jo_g 45 rfl rfl (ly_mv rfl) (hd 46 rfl) <| jo_g 45 rfl rfl (ly_tt (ly_ne rfl rfl) (by decide)) (hd 47 rfl) <| jo_g 45 rfl rfl (ly_mv rfl) (hd 48 rfl) <| jo_g 48 rfl rfl (ly_mv rfl) (hd 49 rfl) <| jo_g 48 rfl rfl (ly_tt (ly_ne rfl rfl) (by decide)) (hd 50 rfl) <| jo_g 48 rfl rfl (ly_mv rfl) (hd 51 rfl) <| jo_g 51 rfl rfl (ly_mv rfl) (hd 52 rfl) <| jo_g 51 rfl rfl (ly_ff (ly_ne rfl rfl) (by decide)) (hd 53 rfl) <| jo_g 48 rfl rfl (ly_pick_t rfl rfl) (hd 54 rfl) <| jo_g 48 rfl rfl (ly_mv rfl) (hd 55 rfl) ?_; refine jo_g 55 rfl rfl (ly_mv rfl) (hd 56 rfl) <| jo_g 55 rfl rfl (ly_ff (ly_eqS rfl rfl) (fun h => hq0 (by rw [h]; rfl))) (hd 57 rfl) <| jo_g 48 rfl rfl (ly_pick_f rfl rfl) (hd 58 rfl) <| jo_g 45 rfl rfl (ly_pick_t rfl rfl) (hd 59 rfl) <| jo_l (ly_pick_f rfl rfl) (hd 60 rfl) <| jo_nil <| jc_litf rfl <| jc_skip <| jc_seq <| jc_region ?_
  refine jo_call Tryz.f68 (hF1) rfl Tryz.func68 rfl rfl (ovL_cons rfl ovL_nil) (.cons .i .nil) (hd 62 rfl) ?_ (fun ch hp => by simp at hp)
  rintro _ ⟨⟩; refine zas rfl (hd 9 rfl) <| jo_nil <| zsr <| zmv rfl (hd 63 rfl) <| zas rfl (hd 10 rfl) <| jo_nil <| jc_seq <| zsr <| zmv rfl (hd 64 rfl) <| jo_nil <| jc_block ?_; refine zsr <| jo_l (ly_ff (ly_eq rfl rfl) (by decide)) (hd 66 rfl) <| zas rfl (hd 65 rfl) <| jo_nil <| jc_litf rfl <| zsr <| jo_l (ly_tt (ly_eq rfl rfl) (by decide)) (hd 94 rfl) <| zas rfl (hd 93 rfl) <| jo_nil <| jc_litt rfl <| jc_region ?_; refine zmv rfl (hd 95 rfl) ?_
  refine jo_call Tryz.f72 (hQ) rfl Tryz.func72 rfl rfl (ovL_cons rfl (ovL_cons rfl ovL_nil)) (.cons .s (.cons .i .nil)) (hd 96 rfl) ?_ (fun ch hp => by simp at hp)
  rintro _ ⟨⟩; refine jo_l (ly_ext rfl rfl) (hd 97 rfl) <| jo_l (ly_ext rfl rfl) (hd 98 rfl) ?_
  refine jo_call Tryz.f34 (mustN _) rfl Tryz.func34 rfl rfl (ovL_cons rfl (ovL_cons rfl ovL_nil)) (.cons .n (.cons .i .nil)) (hd 99 rfl) ?_ (fun ch hp => by simp at hp)
  rintro _ ⟨⟩; refine zas rfl (hd 9 rfl) <| jo_nil <| jc_seq <| zsr <| zmv rfl (hd 100 rfl) <| jo_l (ly_lenn sl28 rfl) (hd 101 rfl) <| jo_l (ly_ff (ly_eq rfl rfl) (fun h => hyl (by exact_mod_cast h))) (hd 102 rfl) <| jo_nil <| jc_litf rfl <| jc_skip <| jc_seq <| jc_region ?_; refine zmv rfl (hd 104 rfl) ?_
  refine jo_call Tryz.f72 (hP) rfl Tryz.func72 rfl rfl (ovL_cons rfl (ovL_cons rfl ovL_nil)) (.cons .s (.cons .i .nil)) (hd 105 rfl) ?_ (fun ch hp => by simp at hp)
  rintro _ ⟨⟩; refine jo_l (ly_ext rfl rfl) (hd 106 rfl) <| jo_l (ly_ext rfl rfl) (hd 107 rfl) ?_
  refine jo_call Tryz.f34 (mustN _) rfl Tryz.func34 rfl rfl (ovL_cons rfl (ovL_cons rfl ovL_nil)) (.cons .n (.cons .i .nil)) (hd 108 rfl) ?_ (fun ch hp => by simp at hp)
  rintro _ ⟨⟩; refine zas rfl (hd 11 rfl) <| jo_nil <| zsr <| zmv rfl (hd 109 rfl) <| zmv rfl (hd 110 rfl) <| jo_l (ly_build (is := [0, 1]) (xs := [.tmp 109, .tmp 110]) zero30 pls30_0_1 rfl (ovL_cons rfl (ovL_cons rfl ovL_nil)) rfl (by first | (simp [plsOk, cellsV]; done) | (simp [plsOk, cellsV, old]; done)) (all_of rfl) rfl) (hd 111 rfl) <| zmv rfl (hd 112 rfl) <| jo_l (ly_build (is := [0, 1]) (xs := [.tmp 111, .tmp 112]) zero1027 pls1027_0_1 rfl (ovL_cons rfl (ovL_cons rfl ovL_nil)) rfl ⟨rfl, (by decide), rfl, (by decide), trivial⟩ (all_of rfl) rfl) (hd 113 rfl) ?_
  refine jo_call Tryz.f32 (qnorm_s true (lm ((x : Nat) : Int)) (lm ((y : Nat) : Int)) x y (Rw.of (by omega)) (Rw.of (by omega)) hy0) rfl Tryz.func32 rfl rfl (ovL_cons rfl ovL_nil) (.cons (.a1 .b (.a1 .n (.a1 .n .a0))) .nil) (hd 114 rfl) ?_ (fun ch hp => by simp at hp)
  rintro _ ⟨⟩; refine jo_st (sy_store rfl rfl rfl siz1027 rfl rfl (zlb rfl)) <| jo_st (sy_store rfl rfl rfl siz23 rfl rfl (zlb rfl)) <| jo_nil <| jc_ret <| Clo.fin clo_2354 (m := 2) (i := 0) (j := 1) (zlb rfl) rfl rfl rfl rfl ?_
  refine ⟨_, _, (.cons (ResV.cell agg1027 rfl rfl rfl rfl) (.cons (ResV.cell1 one23 rfl rfl rfl) .nil)), (.t1 (.a1 .b (.a1 .n (.a1 .n .a0))) (.t1 .i .t0)), ?_⟩
  exact rfl

theorem Parse_ntx (x : Nat) (b : lenV (x : Int) ≤ 1048600) : Spec Tryz.prog 72 [.s (ntx x), .i .i64 10] (fun o => o = .ret (.t [.n false .u64 (lm ((x : Nat) : Int)), .i .i64 0])) := by
  have hv := hv_hdg (b := 10) (by decide) 1 x
  have hs := ntx_size0 b
  unfold ntx at hs
  rw [txt_size] at hs
  have h := Parse_d (hdg 10 1 x) (hdg_rng (by decide) 1 x) (fun e => by have h1 := ntx_0 x; unfold ntx at h1; rw [txt_size, e] at h1; exact h1 rfl) (by omega) (by rw [hv]; omega)
  rw [hv] at h
  exact h
theorem cut1 {p r : ByteArray} (hp : isD p) (hr : r.size ≠ 0 → ¬ dB (byteAt r 0)) : (p ++ r).extract 0 (nd (p ++ r) 0) = p ∧ (p ++ r).extract (nd (p ++ r) 0) (p ++ r).size = r := by
  rw [nd_app hp hr]
  exact ⟨ex_l p r, ex_r p r⟩
theorem cut0 {p : ByteArray} (hp : isD p) : p.extract 0 (nd p 0) = p ∧ p.extract (nd p 0) p.size = .empty := by
  rw [hp.nd]
  exact ⟨ex_all p, ba_nil (by rw [ex_sz (Nat.le_refl _)]; omega)⟩
theorem Parse_rtx (s : Bool) (x y : Nat) (bx : lenV (x : Int) ≤ 1048600) (by9 : lenV (y : Int) ≤ 1048600) (h0 : y ≠ 0) : Spec Tryz.prog 22 [.s (rtx s x y)] (fun o => o = .ret (.t [(.a [.b (sgq s x), .n false .u64 (lm ((rn0 x y : Nat) : Int)), .n false .u64 (lm ((rd0 x y : Nat) : Int))]), .i .i64 0])) := by
  have dx := ntx_D x
  have dy := ntx_D y
  have zx := ntx_0 x
  have zy := ntx_0 y
  have sx := ntx_size0 bx
  have sy := ntx_size0 by9
  have hPx := Parse_ntx x bx
  have hPy := Parse_ntx y by9
  have d0 := dx 0 (by omega)
  unfold dB at d0
  have o1 : ∀ (c : UInt8) (t : ByteArray), ((⟨#[c]⟩ : ByteArray) ++ t).size = 1 + t.size := fun c t => ByteArray.size_append
  have sl := o1 47 (ntx y)
  have hr47 : ((⟨#[47]⟩ : ByteArray) ++ ntx y).size ≠ 0 → ¬ dB (byteAt ((⟨#[47]⟩ : ByteArray) ++ ntx y) 0) := fun _ => by rw [byte0]; decide
  have sp : (ntx x ++ ((⟨#[47]⟩ : ByteArray) ++ ntx y)).size = (ntx x).size + (1 + (ntx y).size) := by rw [ByteArray.size_append, sl]
  unfold rtx rtx1
  cases s with
  | false =>
    rw [if_neg (show ¬ (false = true) by decide)]
    by_cases h1 : y = 1
    · subst h1
      rw [if_pos rfl]
      exact QParseP_00 (ntx x) (ntx x) x zx (by omega) (by omega) (cut0 dx).1 (cut0 dx).2 dx zx bx hPx
    · rw [if_neg h1]
      exact QParseP_01 _ (ntx x) (ntx y) ((⟨#[47]⟩ : ByteArray) ++ ntx y) x y (by omega) (by omega) (by rw [bA_l (by omega)]; omega) (cut1 dx hr47).1 (cut1 dx hr47).2 dx zx (by omega) (byte0 47 _) (ex_1 47 _) dy zy (by omega) bx hPx h0 by9 hPy
  | true =>
    rw [if_pos (show true = true from rfl)]
    by_cases h1 : y = 1
    · subst h1
      rw [if_pos rfl]
      have sm := o1 45 (ntx x)
      exact QParseP_10 _ (ntx x) (ntx x) x (by omega) (by omega) (ex_1 45 _) (byte0 45 _) (by omega) (cut0 dx).1 (cut0 dx).2 dx zx bx hPx
    · rw [if_neg h1, ByteArray.append_assoc]
      have sm := o1 45 (ntx x ++ ((⟨#[47]⟩ : ByteArray) ++ ntx y))
      exact QParseP_11 _ (ntx x ++ ((⟨#[47]⟩ : ByteArray) ++ ntx y)) (ntx x) (ntx y) ((⟨#[47]⟩ : ByteArray) ++ ntx y) x y (by omega) (by omega) (ex_1 45 _) (byte0 45 _) (by omega) (cut1 dx hr47).1 (cut1 dx hr47).2 dx zx (by omega) (byte0 47 _) (ex_1 47 _) dy zy (by omega) bx hPx h0 by9 hPy

theorem RatioBack_n (s1 : Bool) (l1 d1 : List Int) (x1 y1 : Nat) (hx1 : Rw l1 x1) (hy1 : Rw d1 y1) (hbs : smallQ [(s1, l1, d1)] = false) : Spec Tryz.prog 4 [(.a [.b s1, .n false .u64 l1, .n false .u64 d1])] (fun o => o = .ret (.b true)) := by
  refine spec_of' [(0, (.a [.b s1, .n false .u64 l1, .n false .u64 d1]))] rfl Tryz.func4 rfl (zlb rfl) fun Γ hN hds hL hR => ?_
  have hd := hdOf 123 hN
  have hSm : Spec Tryz.prog 20 [.l false 3 [[V.b s1, V.n false .u64 l1, V.n false .u64 d1]]] (fun o => o = .ret (.b false)) := by have h := small7_s [(s1, l1, d1)] (fun r hr => by simp only [List.mem_cons, List.mem_nil_iff, or_false] at hr; subst hr; first | exact ⟨hx1.l, hx1.u, hy1.l, hy1.u⟩) (by simp); rwa [hbs] at h
  refine zsr <| jo_h (hy_box (id := 0) (n := 3) rfl rfl rfl (by decide) rfl) (hd 1 rfl) <| zas rfl (hd 2 rfl) <| jo_nil <| jc_seq <| zsr <| jo_l (ly_lda agg1027 rfl rfl rfl rfl) (hd 18 rfl) <| jo_h (hy_lit (id := 1) (xs := [.tmp 18]) el1084 rfl (ovL_cons rfl ovL_nil) rfl (all2_of rfl) (by decide) rfl) (hd 19 rfl) <| jo_frzr 19 (sz := 3) [[V.b s1, V.n false .u64 l1, V.n false .u64 d1]] rfl rfl rfl rfl (by simp) (by simp [pureV]) (by decide) hL ?_
  refine jo_call Tryz.f20 (hSm) rfl Tryz.func20 rfl rfl (ovL_cons rfl ovL_nil) (.cons .l .nil) (hd 20 rfl) ?_ (fun ch hp => by simp at hp)
  rintro _ ⟨⟩; refine jo_l (ly_not rfl) (hd 21 rfl) <| jo_nil <| jc_litt rfl <| jc_seq <| jc_region ?_
  refine jo_call Tryz.f12 (lives7_s) rfl Tryz.func12 rfl rfl ovL_nil .nil (hd 22 rfl) ?_ (fun ch hp => by simp at hp)
  rintro _ ⟨⟩; refine zas rfl (hd 2 rfl) <| jo_nil <| jc_ret ?_
  refine ⟨_, _, (.cons rfl .nil), .b, ?_⟩
  exact rfl

set_option maxHeartbeats 20000000 in
set_option maxRecDepth 100000 in
theorem RatioBack_y (s1 : Bool) (l1 d1 : List Int) (x1 y1 : Nat) (hx1 : Rw l1 x1) (hy1 : Rw d1 y1) (hbs : smallQ [(s1, l1, d1)] = true) : Spec Tryz.prog 4 [(.a [.b s1, .n false .u64 l1, .n false .u64 d1])] (fun o => o = .ret (.b true)) := by
  refine spec_of' [(0, (.a [.b s1, .n false .u64 l1, .n false .u64 d1]))] rfl Tryz.func4 rfl (zlb rfl) fun Γ hN hds hL hR => ?_
  have hd := hdOf 123 hN
  have hSm : Spec Tryz.prog 20 [.l false 3 [[V.b s1, V.n false .u64 l1, V.n false .u64 d1]]] (fun o => o = .ret (.b true)) := by have h := small7_s [(s1, l1, d1)] (fun r hr => by simp only [List.mem_cons, List.mem_nil_iff, or_false] at hr; subst hr; first | exact ⟨hx1.l, hx1.u, hy1.l, hy1.u⟩) (by simp); rwa [hbs] at h
  have hall := List.all_eq_true.1 hbs
  have ho1 := of_decide_eq_true (hall (s1, l1, d1) (by simp))
  have n1 : y1 ≠ 0 := fun e => ho1.1 (by show vl d1 = 0; rw [hy1.v, e]; rfl)
  obtain ⟨z1, ez1⟩ : ∃ z1 : Int, z1 = zs s1 x1 := ⟨_, rfl⟩
  have r1 : Qr s1 l1 d1 x1 y1 z1 y1 1048576 := ⟨hx1, hy1, by rw [ez1]; exact Qe.raw n1, by rw [← hx1.v]; exact ho1.2.2, by rw [← hy1.v]; exact ho1.2.1, by rw [ez1, lenV_zs, ← hx1.v]; exact ho1.2.2, by rw [← hy1.v]; exact ho1.2.1⟩
  obtain ⟨N9, eN⟩ : ∃ N9 : Nat, N9 = rn0 x1 y1 := ⟨_, rfl⟩
  obtain ⟨D9, eD⟩ : ∃ D9 : Nat, D9 = rd0 x1 y1 := ⟨_, rfl⟩
  obtain ⟨A9, eA⟩ : ∃ A9 : Nat, A9 = rn0 N9 D9 := ⟨_, rfl⟩
  obtain ⟨B9, eB⟩ : ∃ B9 : Nat, B9 = rd0 N9 D9 := ⟨_, rfl⟩
  obtain ⟨S9, eS⟩ : ∃ S9 : Bool, S9 = sgq (sgq s1 x1) N9 := ⟨_, rfl⟩
  obtain ⟨t9, et⟩ : ∃ t9 : ByteArray, t9 = rtx (sgq s1 x1) N9 D9 := ⟨_, rfl⟩
  have bx1 := r1.bx
  have bd1 := r1.bd
  have bN : lenV (N9 : Int) ≤ 1048576 := by rw [eN]; exact rn0_b bx1
  have bD : lenV (D9 : Int) ≤ 1048576 := by rw [eD]; exact rd0_b bd1
  have bA : lenV (A9 : Int) ≤ 1048576 := by rw [eA]; exact rn0_b bN
  have bB : lenV (B9 : Int) ≤ 1048576 := by rw [eB]; exact rd0_b bD
  have hD0 : D9 ≠ 0 := by rw [eD]; exact r1.q.d0
  have hcop : Nat.gcd N9 D9 = 1 := by rw [eN, eD]; exact r1.q.cop
  have hq1 : Qe (sgq s1 x1) N9 D9 z1 y1 := by rw [eN, eD]; exact r1.q.low'
  have hq2 : Qe S9 A9 B9 z1 y1 := by rw [eS, eA, eB]; exact hq1.low'
  have rP : Qr S9 (lm (A9 : Int)) (lm (B9 : Int)) A9 B9 z1 y1 1048576 := ⟨Rw.of (by omega), Rw.of (by omega), hq2, bA, bB, r1.bz, r1.bY⟩
  have hPr : Spec Tryz.prog 21 [(.a [.b s1, .n false .u64 l1, .n false .u64 d1])] (fun o => o = .ret (.t [.s t9, .i .i64 0])) := by have h := QPrint_s s1 l1 d1 x1 y1 hx1 hy1 n1; rw [← eN, ← eD, ← et] at h; exact h
  have hPa : Spec Tryz.prog 22 [.s t9] (fun o => o = .ret (.t [(.a [.b S9, .n false .u64 (lm (A9 : Int)), .n false .u64 (lm (B9 : Int))]), .i .i64 0])) := by have h := Parse_rtx (sgq s1 x1) N9 D9 (by omega) (by omega) hD0; rw [← eA, ← eB, ← eS, ← et] at h; exact h
  have hC1 : Spec Tryz.prog 10 [(.a [.b S9, .n false .u64 (lm (A9 : Int)), .n false .u64 (lm (B9 : Int))]), (.a [.b s1, .n false .u64 l1, .n false .u64 d1])] (fun o => o = .ret (.t [.i .i64 0, .i .i64 0])) := by have h := QCmp_r rP r1; rwa [cmpI_0.2 rfl] at h
  obtain ⟨v, ev⟩ : ∃ v : Int, v = zs (sgq s1 x1) N9 := ⟨_, rfl⟩
  have hs1 : sgq s1 x1 = decide (v < 0) := by rw [ev, zs_neg, eN, sgq_n, sgq_i]
  have hl1 : lm ((rn0 x1 y1 : Nat) : Int) = lm v := by rw [ev, lm_zs, eN]
  have hv9 : lenV v ≤ 1048600 := by rw [ev, lenV_zs]; omega
  have hw9 : lenV (D9 : Int) ≤ 1048600 := by omega
  have hva : v.natAbs = N9 := by rw [ev, zs_abs]
  obtain ⟨n, hc⟩ := chn_of (v := v) (w := D9) hD0 (by show Nat.gcd v.natAbs D9 = 1; rw [hva]; exact hcop)
  have hCh := Chain_s s1 l1 d1 x1 y1 hx1 hy1 n1 v D9 n hc hv9 hw9 hs1 hl1 eD.symm
  have hUn := Unchain_s v D9 n hc hv9 hw9
  have hnl := hc.len hw9
  have hcl : (cfR v D9 n).length = n := cfR_len
  have rU : Qr (decide (v < 0)) (lm v) (lm (D9 : Int)) N9 D9 z1 y1 1048576 := ⟨by have h := Rw.of (x := N9) (by omega); rwa [← hva, lm_abs, hva] at h, Rw.of (by omega), by rw [← hs1]; exact hq1, bN, bD, r1.bz, r1.bY⟩
  have hC2 : Spec Tryz.prog 10 [(.a [.b (decide (v < 0)), .n false .u64 (lm v), .n false .u64 (lm (D9 : Int))]), (.a [.b s1, .n false .u64 l1, .n false .u64 d1])] (fun o => o = .ret (.t [.i .i64 0, .i .i64 0])) := by have h := QCmp_r rU r1; rwa [cmpI_0.2 rfl] at h
  refine zsr <| jo_h (hy_box (id := 0) (n := 3) rfl rfl rfl (by decide) rfl) (hd 1 rfl) <| zas rfl (hd 2 rfl) <| jo_nil <| jc_seq <| zsr <| jo_l (ly_lda agg1027 rfl rfl rfl rfl) (hd 18 rfl) <| jo_h (hy_lit (id := 1) (xs := [.tmp 18]) el1084 rfl (ovL_cons rfl ovL_nil) rfl (all2_of rfl) (by decide) rfl) (hd 19 rfl) <| jo_frzr 19 (sz := 3) [[V.b s1, V.n false .u64 l1, V.n false .u64 d1]] rfl rfl rfl rfl (by simp) (by simp [pureV]) (by decide) hL ?_
  refine jo_call Tryz.f20 (hSm) rfl Tryz.func20 rfl rfl (ovL_cons rfl ovL_nil) (.cons .l .nil) (hd 20 rfl) ?_ (fun ch hp => by simp at hp)
  rintro _ ⟨⟩; refine jo_l (ly_not rfl) (hd 21 rfl) <| jo_nil <| jc_litf rfl <| jc_skip <| zsr <| jo_l (ly_lda agg1027 rfl rfl rfl rfl) (hd 24 rfl) ?_
  refine jo_call Tryz.f21 (hPr) rfl Tryz.func21 rfl rfl (ovL_cons rfl ovL_nil) (.cons (.a1 .b (.a1 .n (.a1 .n .a0))) .nil) (hd 25 rfl) ?_ (fun ch hp => by simp at hp)
  rintro _ ⟨⟩; refine zmv rfl (hd 23 rfl) <| jo_l (ly_ext rfl rfl) (hd 26 rfl) <| jo_l (ly_ext rfl rfl) (hd 27 rfl) <| zas rfl (hd 3 rfl) <| zas rfl (hd 4 rfl) <| jo_nil <| zsr <| zmv rfl (hd 29 rfl) ?_
  refine jo_call Tryz.f22 (hPa) rfl Tryz.func22 rfl rfl (ovL_cons rfl ovL_nil) (.cons .s .nil) (hd 30 rfl) ?_ (fun ch hp => by simp at hp)
  rintro _ ⟨⟩; refine zmv rfl (hd 28 rfl) <| jo_l (ly_ext rfl rfl) (hd 31 rfl) <| jo_l (ly_ext rfl rfl) (hd 32 rfl) <| jo_h (hy_alloc (id := 2) zero1027 (by decide) rfl (by decide) rfl) (hd 5 rfl) <| jo_st (sy_store rfl rfl rfl siz1027 rfl rfl (zlb rfl)) <| zas rfl (hd 6 rfl) <| jo_nil <| zsr <| jo_l (ly_lda agg1027 rfl rfl rfl rfl) (hd 34 rfl) <| jo_l (ly_lda agg1027 rfl rfl rfl rfl) (hd 35 rfl) ?_
  refine jo_call Tryz.f10 (hC1) rfl Tryz.func10 rfl rfl (ovL_cons rfl (ovL_cons rfl ovL_nil)) (.cons (.a1 .b (.a1 .n (.a1 .n .a0))) (.cons (.a1 .b (.a1 .n (.a1 .n .a0))) .nil)) (hd 36 rfl) ?_ (fun ch hp => by simp at hp)
  rintro _ ⟨⟩; refine zmv rfl (hd 33 rfl) <| jo_l (ly_ext rfl rfl) (hd 37 rfl) <| jo_l (ly_ext rfl rfl) (hd 38 rfl) <| zas rfl (hd 7 rfl) <| zas rfl (hd 8 rfl) <| jo_nil <| zsr <| jo_l (ly_lda agg1027 rfl rfl rfl rfl) (hd 40 rfl) ?_
  refine jo_call Tryz.f23 (hCh) rfl Tryz.func23 rfl rfl (ovL_cons rfl ovL_nil) (.cons (.a1 .b (.a1 .n (.a1 .n .a0))) .nil) (hd 41 rfl) ?_ (fun ch hp => by simp at hp)
  rintro _ ⟨⟩; refine zmv rfl (hd 39 rfl) <| jo_l (ly_ext rfl rfl) (hd 42 rfl) <| jo_l (ly_ext rfl rfl) (hd 43 rfl) <| zas rfl (hd 9 rfl) <| zas rfl (hd 10 rfl) <| jo_nil <| zsr <| zmv rfl (hd 45 rfl) ?_
  refine jo_call Tryz.f24 (hUn) rfl Tryz.func24 rfl rfl (ovL_cons rfl ovL_nil) (.cons .l .nil) (hd 46 rfl) ?_ (fun ch hp => by simp at hp)
  rintro _ ⟨⟩; refine zmv rfl (hd 44 rfl) <| jo_l (ly_ext rfl rfl) (hd 47 rfl) <| jo_l (ly_ext rfl rfl) (hd 48 rfl) <| jo_h (hy_alloc (id := 3) zero1027 (by decide) rfl (by decide) rfl) (hd 11 rfl) <| jo_st (sy_store rfl rfl rfl siz1027 rfl rfl (zlb rfl)) <| zas rfl (hd 12 rfl) <| jo_nil <| zsr <| jo_l (ly_lda agg1027 rfl rfl rfl rfl) (hd 50 rfl) <| jo_l (ly_lda agg1027 rfl rfl rfl rfl) (hd 51 rfl) ?_
  refine jo_call Tryz.f10 (hC2) rfl Tryz.func10 rfl rfl (ovL_cons rfl (ovL_cons rfl ovL_nil)) (.cons (.a1 .b (.a1 .n (.a1 .n .a0))) (.cons (.a1 .b (.a1 .n (.a1 .n .a0))) .nil)) (hd 52 rfl) ?_ (fun ch hp => by simp at hp)
  rintro _ ⟨⟩; refine zmv rfl (hd 49 rfl) <| jo_l (ly_ext rfl rfl) (hd 53 rfl) <| jo_l (ly_ext rfl rfl) (hd 54 rfl) <| zas rfl (hd 13 rfl) <| zas rfl (hd 14 rfl) <| jo_nil <| jc_seq <| zsr <| zmv rfl (hd 55 rfl) <| jo_l (ly_ff (ly_ne rfl rfl) (by decide)) (hd 56 rfl) <| zmv rfl (hd 57 rfl) <| jo_g 57 rfl rfl (ly_mv rfl) (hd 58 rfl) ?_; refine jo_g 57 rfl rfl (ly_ff (ly_ne rfl rfl) (by decide)) (hd 59 rfl) <| jo_l (ly_pick_f rfl rfl) (hd 60 rfl) <| zmv rfl (hd 61 rfl) <| jo_g 61 rfl rfl (ly_mv rfl) (hd 62 rfl) <| jo_g 61 rfl rfl (ly_ff (ly_ne rfl rfl) (by decide)) (hd 63 rfl) <| jo_l (ly_pick_f rfl rfl) (hd 64 rfl) <| zmv rfl (hd 65 rfl) <| jo_g 65 rfl rfl (ly_mv rfl) (hd 66 rfl) <| jo_g 65 rfl rfl (ly_ff (ly_ne rfl rfl) (by decide)) (hd 67 rfl) <| jo_l (ly_pick_f rfl rfl) (hd 68 rfl) <| zmv rfl (hd 69 rfl) <| jo_g 69 rfl rfl (ly_mv rfl) (hd 70 rfl) <| jo_g 69 rfl rfl (ly_ff (ly_ne rfl rfl) (by decide)) (hd 71 rfl) ?_; refine jo_l (ly_pick_f rfl rfl) (hd 72 rfl) <| zmv rfl (hd 73 rfl) <| jo_g 73 rfl rfl (ly_mv rfl) (hd 74 rfl) <| jo_g 73 rfl rfl (ly_ff (ly_ne rfl rfl) (by decide)) (hd 75 rfl) <| jo_l (ly_pick_f rfl rfl) (hd 76 rfl) <| zmv rfl (hd 77 rfl) <| jo_g 77 rfl rfl (ly_mv rfl) (hd 78 rfl) <| jo_g 77 rfl rfl (ly_ff (ly_ne rfl rfl) (by decide)) (hd 79 rfl) <| jo_l (ly_pick_f rfl rfl) (hd 80 rfl) <| zmv rfl (hd 81 rfl) <| jo_g 81 rfl rfl (ly_mv rfl) (hd 82 rfl) <| jo_g 81 rfl rfl (ly_ff (ly_ne rfl rfl) (by decide)) (hd 83 rfl) <| jo_l (ly_pick_f rfl rfl) (hd 84 rfl) ?_; refine jo_nil <| jc_litf rfl <| jc_skip <| jc_seq <| zsr <| zmv rfl (hd 85 rfl) <| jo_l (ly_lenl sl56 rfl) (hd 86 rfl) <| zmv rfl (hd 87 rfl) <| jo_nil <| jc_block ?_
  refine jc_loopD (G := Nat) 4 (fun k => k ≤ n) (fun k => [(87, .i .i64 (k : Int)), (2, .u), (15, .u), (16, .u), (17, .u), (88, .u), (89, .u), (90, .u), (91, .u), (92, .u), (93, .u), (94, .u), (95, .u), (96, .u), (97, .u), (98, .u), (99, .u), (100, .u), (101, .u), (102, .u), (103, .u), (104, .u), (105, .u), (106, .u), (107, .u), (108, .u), (109, .u), (110, .u), (111, .u), (112, .u), (113, .u), (114, .u), (115, .u), (116, .u), (117, .u), (118, .u), (119, .u), (120, .u), (121, .u)]) (fun k => [⟨27, 3, 0, true, [.b s1, .n false .u64 l1, .n false .u64 d1]⟩, ⟨27, 3, 0, false, []⟩, ⟨27, 3, 0, true, [.b S9, .n false .u64 (lm (A9 : Int)), .n false .u64 (lm (B9 : Int))]⟩, ⟨27, 3, 0, true, [.b (decide (v < 0)), .n false .u64 (lm v), .n false .u64 (lm (D9 : Int))]⟩]) (fun k => n - k) 0 ?_ ?_ rfl hR rfl (fun _ _ => rfl) (fun k hk => .cons rfl (.dead rfl (.cons rfl (.cons rfl .nil)))) ?_
  · exact Nat.zero_le _
  · exact (.cons rfl (.u (.u (.u (.u (.u (.u (.u (.u (.u (.u (.u (.u (.u (.u (.u (.u (.u (.u (.u (.u (.u (.u (.u (.u (.u (.u (.u (.u (.u (.u (.u (.u (.u (.u (.u (.u (.u (.u .nil)))))))))))))))))))))))))))))))))))))))
  · rintro k hkn
    rcases (show k = n ∨ (k < n ∧ k = 0) ∨ (k < n ∧ k ≠ 0 ∧ k + 1 ≠ n) ∨ (k < n ∧ k ≠ 0 ∧ k + 1 = n) by omega) with hE | ⟨hk, h0⟩ | ⟨hk, h0, h1⟩ | ⟨hk, h0, h1⟩
    · subst hE; refine zsr <| jo_l (ly_ff (ly_lt rfl rfl) (by omega)) (hd 88 rfl) <| jo_nil <| jc_seq <| jc_litf rfl <| jc_exit <| jc_seq <| jc_region ?_
      refine jo_call Tryz.f12 (lives7_s) rfl Tryz.func12 rfl rfl ovL_nil .nil (hd 122 rfl) ?_ (fun ch hp => by simp at hp)
      rintro _ ⟨⟩; refine zas rfl (hd 2 rfl) <| jo_nil <| jc_ret ?_
      refine ⟨_, _, (.cons rfl .nil), .b, ?_⟩
      exact rfl
    · have lq := eqt_len hv9 hw9 (k := k) (fun j hj => hc.lt j (by omega))
      have hRq : Rw (lm (eqt v D9 k)) (eqt v D9 k).natAbs := by have h := Rw.of (x := (eqt v D9 k).natAbs) (by rw [lenV_abs]; omega); rwa [lm_abs] at h
      have hOf : Spec Tryz.prog 25 [.n false .u64 (lm (eqt v D9 k))] (fun o => o = .ret (.n false .u64 (digs B32 (eqt v D9 k).natAbs))) := by have h := rOf_s (lm (eqt v D9 k)) (by have := hRq.l; omega) hRq.u; rwa [rOf_v hRq.u, hRq.v, Int.toNat_natCast] at h
      refine zsr <| jo_l (ly_tt (ly_lt rfl rfl) (by omega)) (hd 88 rfl) <| jo_nil <| jc_seq <| jc_litt rfl <| jc_skip <| jc_seq <| jc_block <| zsr <| zmv rfl (hd 89 rfl) <| jo_l (ly_ial (i := k) (row := [.b (decide ((eqt v D9 k) < 0)), .n false .u64 (lm (eqt v D9 k))]) sl56 rfl rfl rfl (cfR_at hk)) (hd 90 rfl) ?_; refine jo_l (ly_ldqa agg30 rfl rfl rfl) (hd 91 rfl) <| jo_h (hy_alloc (id := 4) zero30 (by decide) rfl (by decide) rfl) (hd 16 rfl) <| zas rfl (hd 15 rfl) <| jo_st (sy_store rfl rfl rfl siz30 rfl rfl (zlb rfl)) <| jo_nil <| zsr <| jo_l (ly_fa fld30_1 rfl rfl rfl) (hd 92 rfl) <| jo_l (ly_ld one28 rfl rfl rfl) (hd 93 rfl) ?_
      refine jo_call Tryz.f25 (hOf) rfl Tryz.func25 rfl rfl (ovL_cons rfl ovL_nil) (.cons .n .nil) (hd 94 rfl) ?_ (fun ch hp => by simp at hp)
      rintro _ ⟨⟩; refine zas rfl (hd 17 rfl) <| jo_nil <| zsr <| zmv rfl (hd 95 rfl) <| jo_l (ly_ff (ly_gt rfl rfl) (by omega)) (hd 96 rfl) <| zmv rfl (hd 97 rfl) <| jo_s 97 rfl rfl rfl (hd 98 rfl) <| jo_s 97 rfl rfl rfl (hd 99 rfl) <| jo_s 97 rfl rfl rfl (hd 100 rfl) <| jo_s' 100 rfl rfl (hd 101 rfl) <| jo_s' 100 rfl rfl (hd 102 rfl) <| jo_s 97 rfl rfl rfl (hd 103 rfl) ?_; refine jo_l (ly_pick_f rfl rfl) (hd 104 rfl) <| zmv rfl (hd 105 rfl) <| jo_g 105 rfl rfl (ly_mv rfl) (hd 106 rfl) <| jo_g 105 rfl rfl (ly_ff (ly_gt rfl rfl) (by omega)) (hd 107 rfl) <| jo_g 105 rfl rfl (ly_mv rfl) (hd 108 rfl) <| jo_s 108 rfl rfl rfl (hd 109 rfl) <| jo_s 108 rfl rfl rfl (hd 110 rfl) <| jo_s 108 rfl rfl rfl (hd 111 rfl) <| jo_s 108 rfl rfl rfl (hd 112 rfl) <| jo_s 108 rfl rfl rfl (hd 113 rfl) <| jo_g 105 rfl rfl (ly_pick_f rfl rfl) (hd 114 rfl) <| jo_g 105 rfl rfl (ly_mv rfl) (hd 115 rfl) <| jo_s 115 rfl rfl rfl (hd 116 rfl) ?_; refine jo_s 115 rfl rfl rfl (hd 117 rfl) <| jo_s 115 rfl rfl rfl (hd 118 rfl) <| jo_g 105 rfl rfl (ly_pick_f rfl rfl) (hd 119 rfl) <| jo_l (ly_pick_f rfl rfl) (hd 120 rfl) <| jo_nil <| jc_litf rfl <| jc_skip <| jc_region <| jo_l (ly_add rfl rfl (r := ((k + 1 : Nat) : Int)) (by rw [wrap_i64 (by omega) (by omega)]; omega)) (hd 121 rfl) <| zmv rfl (hd 87 rfl) <| jo_nil ?_
      refine ⟨k + 1, ?_, ?_, rfl, cov_n 77 rfl rfl ?_⟩
      · exact hk
      · omega
      · exact (.cons rfl (.u (.u (.u (.u (.u (.u (.u (.u (.u (.u (.u (.u (.u (.u (.u (.u (.u (.u (.u (.u (.u (.u (.u (.u (.u (.u (.u (.u (.u (.u (.u (.u (.u (.u (.u (.u (.u (.u .nil)))))))))))))))))))))))))))))))))))))))
    · have lq := eqt_len hv9 hw9 (k := k) (fun j hj => hc.lt j (by omega))
      have hRq : Rw (lm (eqt v D9 k)) (eqt v D9 k).natAbs := by have h := Rw.of (x := (eqt v D9 k).natAbs) (by rw [lenV_abs]; omega); rwa [lm_abs] at h
      have hOf : Spec Tryz.prog 25 [.n false .u64 (lm (eqt v D9 k))] (fun o => o = .ret (.n false .u64 (digs B32 (eqt v D9 k).natAbs))) := by have h := rOf_s (lm (eqt v D9 k)) (by have := hRq.l; omega) hRq.u; rwa [rOf_v hRq.u, hRq.v, Int.toNat_natCast] at h
      have hpos : 0 < (eqt v D9 k) := by
        obtain ⟨j, rfl⟩ : ∃ j, k = j + 1 := ⟨k - 1, by omega⟩
        exact hc.pos hk
      have hZe : Spec Tryz.prog 26 [.n false .u64 (digs B32 (eqt v D9 k).natAbs)] (fun o => o = .ret (.b false)) := by have h := Zero_s (digs B32 (eqt v D9 k).natAbs); rwa [decide_eq_false (by have := @dl0 (eqt v D9 k).natAbs; omega)] at h
      refine zsr <| jo_l (ly_tt (ly_lt rfl rfl) (by omega)) (hd 88 rfl) <| jo_nil <| jc_seq <| jc_litt rfl <| jc_skip <| jc_seq <| jc_block <| zsr <| zmv rfl (hd 89 rfl) <| jo_l (ly_ial (i := k) (row := [.b (decide ((eqt v D9 k) < 0)), .n false .u64 (lm (eqt v D9 k))]) sl56 rfl rfl rfl (cfR_at hk)) (hd 90 rfl) ?_; refine jo_l (ly_ldqa agg30 rfl rfl rfl) (hd 91 rfl) <| jo_h (hy_alloc (id := 4) zero30 (by decide) rfl (by decide) rfl) (hd 16 rfl) <| zas rfl (hd 15 rfl) <| jo_st (sy_store rfl rfl rfl siz30 rfl rfl (zlb rfl)) <| jo_nil <| zsr <| jo_l (ly_fa fld30_1 rfl rfl rfl) (hd 92 rfl) <| jo_l (ly_ld one28 rfl rfl rfl) (hd 93 rfl) ?_
      refine jo_call Tryz.f25 (hOf) rfl Tryz.func25 rfl rfl (ovL_cons rfl ovL_nil) (.cons .n .nil) (hd 94 rfl) ?_ (fun ch hp => by simp at hp)
      rintro _ ⟨⟩; refine zas rfl (hd 17 rfl) <| jo_nil <| zsr <| zmv rfl (hd 95 rfl) <| jo_l (ly_tt (ly_gt rfl rfl) (by omega)) (hd 96 rfl) <| zmv rfl (hd 97 rfl) <| jo_g 97 rfl rfl (ly_fa fld30_0 rfl rfl rfl) (hd 98 rfl) <| jo_g 97 rfl rfl (ly_ff (ly_ld one4 rfl rfl rfl) (by omega)) (hd 99 rfl) <| jo_g 97 rfl rfl (ly_mv rfl) (hd 100 rfl) <| jo_g 100 rfl rfl (ly_mv rfl) (hd 101 rfl) ?_
      refine jo_callg Tryz.f26 100 rfl rfl (hZe) rfl Tryz.func26 rfl rfl (ovL_cons rfl ovL_nil) (.cons .n .nil) (hd 102 rfl) ?_ (fun ch hp => by simp at hp)
      rintro _ ⟨⟩; refine jo_g 97 rfl rfl (ly_pick_f rfl rfl) (hd 103 rfl) <| jo_l (ly_pick_t rfl rfl) (hd 104 rfl) <| zmv rfl (hd 105 rfl) <| jo_g 105 rfl rfl (ly_mv rfl) (hd 106 rfl) <| jo_g 105 rfl rfl (ly_tt (ly_gt rfl rfl) (by omega)) (hd 107 rfl) <| jo_g 105 rfl rfl (ly_mv rfl) (hd 108 rfl) <| jo_g 108 rfl rfl (ly_mv rfl) (hd 109 rfl) <| jo_g 108 rfl rfl (ly_mv rfl) (hd 110 rfl) <| jo_g 108 rfl rfl (ly_lenl sl56 rfl) (hd 111 rfl) <| jo_g 108 rfl rfl (ly_sub rfl rfl (r := (n : Int) - 1) (by rw [hcl, wrap_i64 (by omega) (by omega)])) (hd 112 rfl) <| jo_g 108 rfl rfl (ly_ff (ly_eq rfl rfl) (by rw [hcl] at *; omega)) (hd 113 rfl) <| jo_g 105 rfl rfl (ly_pick_t rfl rfl) (hd 114 rfl) <| jo_g 105 rfl rfl (ly_mv rfl) (hd 115 rfl) ?_; refine jo_s 115 rfl rfl rfl (hd 116 rfl) <| jo_s 115 rfl rfl rfl (hd 117 rfl) <| jo_s 115 rfl rfl rfl (hd 118 rfl) <| jo_g 105 rfl rfl (ly_pick_f rfl rfl) (hd 119 rfl) <| jo_l (ly_pick_f rfl rfl) (hd 120 rfl) <| jo_nil <| jc_litf rfl <| jc_skip <| jc_region <| jo_l (ly_add rfl rfl (r := ((k + 1 : Nat) : Int)) (by rw [wrap_i64 (by omega) (by omega)]; omega)) (hd 121 rfl) <| zmv rfl (hd 87 rfl) <| jo_nil ?_
      refine ⟨k + 1, ?_, ?_, rfl, cov_n 77 rfl rfl ?_⟩
      · exact hk
      · omega
      · exact (.cons rfl (.u (.u (.u (.u (.u (.u (.u (.u (.u (.u (.u (.u (.u (.u (.u (.u (.u (.u (.u (.u (.u (.u (.u (.u (.u (.u (.u (.u (.u (.u (.u (.u (.u (.u (.u (.u (.u (.u .nil)))))))))))))))))))))))))))))))))))))))
    · have lq := eqt_len hv9 hw9 (k := k) (fun j hj => hc.lt j (by omega))
      have hRq : Rw (lm (eqt v D9 k)) (eqt v D9 k).natAbs := by have h := Rw.of (x := (eqt v D9 k).natAbs) (by rw [lenV_abs]; omega); rwa [lm_abs] at h
      have hOf : Spec Tryz.prog 25 [.n false .u64 (lm (eqt v D9 k))] (fun o => o = .ret (.n false .u64 (digs B32 (eqt v D9 k).natAbs))) := by have h := rOf_s (lm (eqt v D9 k)) (by have := hRq.l; omega) hRq.u; rwa [rOf_v hRq.u, hRq.v, Int.toNat_natCast] at h
      have hpos : 0 < (eqt v D9 k) := by
        obtain ⟨j, rfl⟩ : ∃ j, k = j + 1 := ⟨k - 1, by omega⟩
        exact hc.pos hk
      have hZe : Spec Tryz.prog 26 [.n false .u64 (digs B32 (eqt v D9 k).natAbs)] (fun o => o = .ret (.b false)) := by have h := Zero_s (digs B32 (eqt v D9 k).natAbs); rwa [decide_eq_false (by have := @dl0 (eqt v D9 k).natAbs; omega)] at h
      have hlast : 1 < (eqt v D9 k) := by
        obtain ⟨j, rfl⟩ : ∃ j, k = j + 1 := ⟨k - 1, by omega⟩
        exact hc.last (by omega)
      have hlq := dl_of (x := (eqt v D9 k).natAbs) (by rw [lenV_abs]; omega)
      have hLn : Spec Tryz.prog 27 [.n false .u64 (digs B32 (eqt v D9 k).natAbs)] (fun o => o = .ret (.i .i64 (lenV ((eqt v D9 k).natAbs : Int)))) := by have h := Len_s ((eqt v D9 k).natAbs : Int) (by rw [dgN]; omega); rwa [dgN] at h
      have hL2 : lenV (((eqt v D9 k).natAbs : Nat) : Int) ≠ 1 := fun e => by have h9 := nbits_le.1 (Nat.le_of_eq e); rw [Int.natAbs_natCast] at h9; omega
      refine zsr <| jo_l (ly_tt (ly_lt rfl rfl) (by omega)) (hd 88 rfl) <| jo_nil <| jc_seq <| jc_litt rfl <| jc_skip <| jc_seq <| jc_block <| zsr <| zmv rfl (hd 89 rfl) <| jo_l (ly_ial (i := k) (row := [.b (decide ((eqt v D9 k) < 0)), .n false .u64 (lm (eqt v D9 k))]) sl56 rfl rfl rfl (cfR_at hk)) (hd 90 rfl) ?_; refine jo_l (ly_ldqa agg30 rfl rfl rfl) (hd 91 rfl) <| jo_h (hy_alloc (id := 4) zero30 (by decide) rfl (by decide) rfl) (hd 16 rfl) <| zas rfl (hd 15 rfl) <| jo_st (sy_store rfl rfl rfl siz30 rfl rfl (zlb rfl)) <| jo_nil <| zsr <| jo_l (ly_fa fld30_1 rfl rfl rfl) (hd 92 rfl) <| jo_l (ly_ld one28 rfl rfl rfl) (hd 93 rfl) ?_
      refine jo_call Tryz.f25 (hOf) rfl Tryz.func25 rfl rfl (ovL_cons rfl ovL_nil) (.cons .n .nil) (hd 94 rfl) ?_ (fun ch hp => by simp at hp)
      rintro _ ⟨⟩; refine zas rfl (hd 17 rfl) <| jo_nil <| zsr <| zmv rfl (hd 95 rfl) <| jo_l (ly_tt (ly_gt rfl rfl) (by omega)) (hd 96 rfl) <| zmv rfl (hd 97 rfl) <| jo_g 97 rfl rfl (ly_fa fld30_0 rfl rfl rfl) (hd 98 rfl) <| jo_g 97 rfl rfl (ly_ff (ly_ld one4 rfl rfl rfl) (by omega)) (hd 99 rfl) <| jo_g 97 rfl rfl (ly_mv rfl) (hd 100 rfl) <| jo_g 100 rfl rfl (ly_mv rfl) (hd 101 rfl) ?_
      refine jo_callg Tryz.f26 100 rfl rfl (hZe) rfl Tryz.func26 rfl rfl (ovL_cons rfl ovL_nil) (.cons .n .nil) (hd 102 rfl) ?_ (fun ch hp => by simp at hp)
      rintro _ ⟨⟩; refine jo_g 97 rfl rfl (ly_pick_f rfl rfl) (hd 103 rfl) <| jo_l (ly_pick_t rfl rfl) (hd 104 rfl) <| zmv rfl (hd 105 rfl) <| jo_g 105 rfl rfl (ly_mv rfl) (hd 106 rfl) <| jo_g 105 rfl rfl (ly_tt (ly_gt rfl rfl) (by omega)) (hd 107 rfl) <| jo_g 105 rfl rfl (ly_mv rfl) (hd 108 rfl) <| jo_g 108 rfl rfl (ly_mv rfl) (hd 109 rfl) <| jo_g 108 rfl rfl (ly_mv rfl) (hd 110 rfl) <| jo_g 108 rfl rfl (ly_lenl sl56 rfl) (hd 111 rfl) <| jo_g 108 rfl rfl (ly_sub rfl rfl (r := (n : Int) - 1) (by rw [hcl, wrap_i64 (by omega) (by omega)])) (hd 112 rfl) <| jo_g 108 rfl rfl (ly_tt (ly_eq rfl rfl) (by rw [hcl] at *; omega)) (hd 113 rfl) <| jo_g 105 rfl rfl (ly_pick_t rfl rfl) (hd 114 rfl) <| jo_g 105 rfl rfl (ly_mv rfl) (hd 115 rfl) ?_; refine jo_g 115 rfl rfl (ly_mv rfl) (hd 116 rfl) ?_
      refine jo_callg Tryz.f27 115 rfl rfl (hLn) rfl Tryz.func27 rfl rfl (ovL_cons rfl ovL_nil) (.cons .n .nil) (hd 117 rfl) ?_ (fun ch hp => by simp at hp)
      rintro _ ⟨⟩; refine jo_g 115 rfl rfl (ly_ff (ly_eq rfl rfl) (by omega)) (hd 118 rfl) <| jo_g 105 rfl rfl (ly_pick_t rfl rfl) (hd 119 rfl) <| jo_l (ly_pick_f rfl rfl) (hd 120 rfl) <| jo_nil <| jc_litf rfl <| jc_skip <| jc_region <| jo_l (ly_add rfl rfl (r := ((k + 1 : Nat) : Int)) (by rw [wrap_i64 (by omega) (by omega)]; omega)) (hd 121 rfl) <| zmv rfl (hd 87 rfl) <| jo_nil ?_
      refine ⟨k + 1, ?_, ?_, rfl, cov_n 77 rfl rfl ?_⟩
      · exact hk
      · omega
      · exact (.cons rfl (.u (.u (.u (.u (.u (.u (.u (.u (.u (.u (.u (.u (.u (.u (.u (.u (.u (.u (.u (.u (.u (.u (.u (.u (.u (.u (.u (.u (.u (.u (.u (.u (.u (.u (.u (.u (.u (.u .nil)))))))))))))))))))))))))))))))))))))))

theorem RatioBack_s (s1 : Bool) (l1 d1 : List Int) (x1 y1 : Nat) (hx1 : Rw l1 x1) (hy1 : Rw d1 y1) : Spec Tryz.prog 4 [(.a [.b s1, .n false .u64 l1, .n false .u64 d1])] (fun o => o = .ret (.b true)) := by
  cases hbs : smallQ [(s1, l1, d1)] with
  | false => exact RatioBack_n s1 l1 d1 x1 y1 hx1 hy1 hbs
  | true => exact RatioBack_y s1 l1 d1 x1 y1 hx1 hy1 hbs
end Go.Proofs.YtpldmajdiljoaaaGreat.Vc

namespace Go.Proofs.YtpldmajdiljoaaaGreat.ratioBack
open Go Go.ChangeShapes Go.WideShapes Go.ChangeAt Go.RowKit
open Go.ChangeMaps (open_string shut_string)

theorem own : ownKnob Tryz.prog.godebug = none := by kernel_rfl
theorem laidOut : laidOutB Tryz.prog = true := by kernel_rfl
set_option maxRecDepth 100000 in
theorem lifted (os : Os) (started : os.Started) (H : Type) (enc : TypeId × Value → H) (F : Stop.Interp) :
    ReturnsInHanded {} Tryz.checked os 4 .any ((Rows.OpenSpec.upto Rows.ratioBackSpec).pre6 enc Tryz.prog Tryz.f4 Rows.ratioBackUptoRow.domain false) (((Rows.OpenSpec.upto Rows.ratioBackSpec).at F).post enc Tryz.prog Tryz.f4 false true false false) := by
  refine returnsInHanded_of_cond (C := Tryz.checked) (s := Rows.OpenSpec.upto Rows.ratioBackSpec) (k := Rows.uptoSmall) rfl own started (by kernel_rfl) Tryz.func4
    (OpenSpec.witness (enc := enc) (C := Tryz.checked) (s := Rows.OpenSpec.upto Rows.ratioBackSpec) (k := Rows.uptoSmall) rfl false ⟨#[], #[.agg #[.bool false, .slice none 0 0, .slice none 0 0]], []⟩ 8 (by kernel_rfl) (by kernel_rfl) (by kernel_rfl)
      (x := ([.agg [.agg [.lit (.bool false), .nil], .nil]], [], [])) (by kernel_rfl) rfl (by kernel_rfl)) ?_
  intro W base args ds gs before hval0 hW _ hk _
  have hval : ∀ (j : Nat) t v, Tryz.f4.params[j]? = some t → args[j]? = some v → Value.okWide Tryz.prog W .any base t v := hval0
  have hW' := hW
  obtain ⟨p, q, hA0, hV, rfl, hfz, hnd⟩ := hW
  have hA : DataW.TrodAll enc Tryz.prog W 0 (fun _ => true) true Tryz.f4.params.toList args.toList ds p := hA0
  rw [Tryz.params4] at hA hval
  obtain ⟨v0, vs0, d0, ds0, p0, q0, hargs, rfl, rfl, h0, r0⟩ := trodAll_cons hA
  obtain ⟨rfl, rfl, rfl⟩ := trodAll_nil r0
  obtain rfl : args = #[v0] := by cases args; simp_all
  obtain ⟨rfl, rfl⟩ := trodVars_none hV
  have hk0 := h0
  obtain ⟨s0, l0, e0, rel0, hb0, ul0, ue0⟩ := Vc.openQ (hval 0 27 v0 rfl rfl) h0
  clear hA0 hval0
  simp only [List.append_nil] at hW' hk
  refine (Vc.spec_calls (vals := [v0]) (Vc.RatioBack_s s0 l0 e0 _ _ (Vc.Rw.mk' ul0 (by have := Vc.short1q hk hb0; omega)) (Vc.Rw.mk' ue0 (by have := Vc.short1q hk hb0; omega))) W (⟨_, _, rfl, rel0, rfl⟩)).mono fun e W' ⟨he, hb⟩ => ?_; subst he
  have hlt : ∀ x ∈ p0, x.block < W.heap.size := fun x hx => by simpa using hW'.lt x (by simpa using hx)
  exact ⟨_, rfl, Vc.post_of_below (pa := (p0 ++ [])) (pv := []) hW' (fun _ _ _ => (trodAll_cons_mk (shut_bool Tryz.underlying4 _) trodAll_mk0)) (fun sp hsp => (trodAll_cons_mk (Go.WideElems.Trod_stays laidOut (by kernel_rfl) (of_decide_eq_true (by kernel_rfl)) hk0 (fun x hx => hb.same (hlt x (by simp [hx]))) (fun x hx => hsp x (by simp [hx]))) trodAll_mk0)) (fun _ _ => rfl) (by simp) hb⟩

theorem proved : Rows.RatioBackUptoSaid :=
  OpenClaim.holds_of_cond 4 Tryz.f4 rfl rfl rfl rfl rfl rfl rfl ⟨rfl, rfl, rfl, rfl, rfl⟩ rfl rfl rfl rfl rfl (by kernel_rfl) Tryz.func4 (by kernel_rfl)
    (of_decide_eq_true (by kernel_rfl)) (by unfold Func.isWrapper; first | (rw [if_pos (by decide +kernel)]; kernel_rfl) | (rw [if_neg (by decide +kernel)]; exact ⟨rfl, rfl⟩))
    (fun os started H enc _ F => lifted os started H enc F)
end Go.Proofs.YtpldmajdiljoaaaGreat.ratioBack
