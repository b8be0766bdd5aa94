/- What is printed of a whole number reads back as that number, and what reads as a whole number prints as its text without sign or noughts that are not needed. Texts joined: Qv, RWBack. -/
import Derived.Test.YtcfdclehmpfkcaaK7
import Derived.Test.YtcfdclehmpfkcaaRows
import Derived.WalkKit
import Derived.ProofKit
import Derived.OpenShut
import Derived.Carry
import Derived.JoinedCond
set_option linter.unusedVariables false
set_option linter.unusedSimpArgs false
/- The contract of surdlaw06.WholeBack. -/
namespace Go.Proofs.Ytcfdclehmpfkcaa.Vc
open Go Go.RowKit
theorem Parse_or (t : ByteArray) (ht : t.size < 1099511627776) : (∃ l, t = txt l ∧ rng 10 l ∧ l ≠ []) ∨ Spec Try.prog 16 [.s t, .i .i64 10] (fun o => o = .ret (.t [.n false .u64 [], .i .i64 51])) := by
  by_cases h0 : t.size = 0
  · right
    have e : t = .empty := by
      obtain ⟨⟨l⟩⟩ := t
      have h1 : l.length = 0 := h0
      have h2 := List.eq_nil_of_length_eq_zero h1
      subst h2
      rfl
    subst e
    exact Parse_empty 10 (by decide) (by decide)
  · rcases digits_or t with ⟨h1, h2⟩ | ⟨k, h1, h2, h3⟩
    · exact .inl ⟨dgs t, h1.symm, h2, fun h => h0 (by rw [← dgs_len, h]; rfl)⟩
    · exact .inr (Parse_bad t 10 (by decide) (by decide) k h0 ht h1 h3)
theorem Parse_d (l : List Int) (hr : rng 10 l) (h0 : l ≠ []) (hl : l.length ≤ 1073741824) (hv9 : lenV (hv 10 l) ≤ 67108864) : Spec Try.prog 16 [.s (txt l), .i .i64 10] (fun o => o = .ret (.t [.n false .u64 (lm (hv 10 l)), .i .i64 0])) := Parse_t l 10 (by decide) (by decide) hr h0 hl hv9
theorem WParse_w (V : Int) (hV : lenV V ≤ 67108864) (hsz : (wtxt V).size ≤ 1048576) : Spec Try.prog 38 [.s (wtxt V)] (fun o => o = .ret (.t [.a [.b (decide (V < 0)), .n true .u64 (lm V)], .i .i64 0])) := by
  have hr := hdg_rng (b := 10) (by decide) 1 V.natAbs
  have hn : hdg 10 1 V.natAbs ≠ [] := fun h => by have h1 := congrArg List.length h; rw [hdg_le] at h1; simp at h1
  have hh : hv 10 (hdg 10 1 V.natAbs) = (V.natAbs : Int) := hv_hdg (by decide) 1 _
  have hla : lenV (V.natAbs : Int) ≤ 67108864 := by have h : lenV (V.natAbs : Int) = lenV V := by unfold lenV; rw [Int.natAbs_natCast]
                                                    rw [h]; exact hV
  have hts := txt_size (hdg 10 1 V.natAbs)
  by_cases h : V < 0
  · have e : wtxt V = (⟨#[45]⟩ : ByteArray) ++ txt (hdg 10 1 V.natAbs) := by unfold wtxt; rw [if_pos h]
    rw [e] at hsz ⊢
    have hone := one_size 45 (txt (hdg 10 1 V.natAbs))
    have hP := Parse_d _ hr hn (by omega) (by rw [hh]; exact hla)
    rw [hh] at hP
    have hm := WParse_mk (txt (hdg 10 1 V.natAbs)) hsz V.natAbs (by omega) hla hP
    rwa [show -(V.natAbs : Int) = V by omega] at hm
  · have e : wtxt V = txt (hdg 10 1 V.natAbs) := by unfold wtxt; rw [if_neg h]
    rw [e] at hsz ⊢
    have hP := Parse_d _ hr hn (by omega) (by rw [hh]; exact hla)
    rw [hh] at hP
    have hb := txt_b0 hr hn
    have hlp := List.length_pos_iff.2 hn
    have hm := WParse_nk (txt (hdg 10 1 V.natAbs)) (by omega) (by omega) (by omega) hsz V.natAbs (by omega) hla hP
    rwa [show (V.natAbs : Int) = V by omega] at hm

set_option maxHeartbeats 4000000 in
theorem WholeBack_b (sa : Bool) (a : List Int) (s : ByteArray) (hS : Spec Try.prog 38 [.s s] (fun o => o = .ret (.t [.a [.b false, .n true .u64 []], .i .i64 62]))) (ha : a.length ≤ 1048574) (ua : u64s a) : Spec Try.prog 11 [.a [.b sa, .n false .u64 a], .s s] (fun o => o = .ret (.b true)) := by
  refine spec_of' [(0, .a [.b sa, .n false .u64 a]), (1, .s s)] rfl Try.func11 rfl (Nat.le_of_ble_eq_true rfl) fun Γ hN hds hL hR => ?_
  have hd : ∀ d, Nat.blt d 89 = true → d < Γ.N := fun d h => by rw [hN]; exact Nat.le_of_ble_eq_true h
  have hlv : lenV (sv sa a) ≤ 67108864 := by have := lenV_64 (s := sa) ua; omega
  have hlmv := lenV_lm hlv
  have hW := WParse_w (sv sa a) hlv
  have hSm : Spec Try.prog 47 [.a [.b sa, .n false .u64 a], .a [.b (decide ((sv sa a) < 0)), .n false .u64 (lm (sv sa a))]] (fun o => o = .ret (.b true)) := by have h := same_s sa (decide ((sv sa a) < 0)) a (lm (sv sa a)) (by omega) (by omega) ua (lm_u _); rwa [sv_lm, show decide (cmpI (sv sa a) (sv sa a) = 0) = true from decide_eq_true (cmpI_0.2 rfl)] at h
  refine jc_seq ?_; refine jc_region ?_; refine jo_h (hy_box (id := 0) (n := 2) rfl rfl rfl (by decide) rfl) (hd 2 rfl) ?_; refine jo_l (ly_as rfl) (hd 4 rfl) ?_; refine jo_nil ?_; refine jc_seq ?_; refine jc_region ?_; refine jo_l (ly_lda agg27 rfl rfl rfl rfl) (hd 12 rfl) ?_
  refine jo_call Try.f44 (in_s sa a) rfl Try.func44 rfl rfl (ovL_cons rfl ovL_nil) (.cons (.a1 .b (.a1 .n .a0)) .nil) (hd 13 rfl) ?_ (fun ch hp => by simp at hp)
  rintro y hy; injection hy with hy; subst hy; refine jo_h (hy_alloc (id := 1) zero30 (by decide) rfl (by decide) rfl) (hd 5 rfl) ?_; refine jo_st (sy_store rfl rfl rfl siz30 rfl rfl (Nat.le_of_ble_eq_true rfl)) ?_; refine jo_nil ?_; refine jc_seq ?_; refine jc_region ?_; refine jo_l (ly_lda agg30 rfl rfl rfl rfl) (hd 14 rfl) ?_
  refine jo_call Try.f39 (WPrint_s sa a (by omega) ua) rfl Try.func39 rfl rfl (ovL_cons rfl ovL_nil) (.cons (.a1 .b (.a1 .n .a0)) .nil) (hd 15 rfl) ?_ (fun ch hp => by simp at hp)
  rintro y hy; injection hy with hy; subst hy; refine jo_l (ly_as rfl) (hd 6 rfl) ?_; refine jo_nil ?_; refine jc_seq ?_; refine jc_seq ?_; refine jc_region ?_; refine jo_l (ly_mv rfl) (hd 16 rfl) ?_; refine jo_l (ly_lens und9 rfl) (hd 17 rfl) ?_; refine jo_l (ly_le rfl rfl) (hd 18 rfl) ?_; refine jo_nil ?_
  refine jc_if rfl (fun h1 => ?_) (fun h1 => ?_)
  · have hWq := hW (by omega)
    refine jc_seq ?_; refine jc_region ?_; refine jo_l (ly_mv rfl) (hd 20 rfl) ?_
    refine jo_call Try.f38 (hWq) rfl Try.func38 rfl rfl (ovL_cons rfl ovL_nil) (.cons .s .nil) (hd 21 rfl) ?_ (fun ch hp => by simp at hp)
    rintro y hy; injection hy with hy; subst hy; refine jo_l (ly_mv rfl) (hd 19 rfl) ?_; refine jo_l (ly_ext rfl rfl) (hd 22 rfl) ?_; refine jo_l (ly_ext rfl rfl) (hd 23 rfl) ?_; refine jo_h (hy_alloc (id := 2) zero30 (by decide) rfl (by decide) rfl) (hd 7 rfl) ?_; refine jo_st (sy_store rfl rfl rfl siz30 rfl rfl (Nat.le_of_ble_eq_true rfl)) ?_; refine jo_l (ly_as rfl) (hd 8 rfl) ?_; refine jo_nil ?_; refine jc_seq ?_; refine jc_region ?_; refine jo_l (ly_mv rfl) (hd 24 rfl) ?_
    refine jo_call Try.f45 (num_s 0) rfl Try.func45 rfl rfl (ovL_cons rfl ovL_nil) (.cons .i .nil) (hd 25 rfl) ?_ (fun ch hp => by simp at hp)
    rintro y hy; injection hy with hy; subst hy; refine jo_l (ly_ff (ly_ne rfl rfl) (by decide)) (hd 26 rfl) ?_; refine jo_l (ly_mv rfl) (hd 27 rfl) ?_; refine jo_s 27 rfl rfl rfl (hd 28 rfl) ?_; refine jo_s 27 rfl rfl rfl (hd 29 rfl) ?_; refine jo_s 27 rfl rfl rfl (hd 30 rfl) ?_; refine jo_s 27 rfl rfl rfl (hd 31 rfl) ?_; refine jo_s 27 rfl rfl rfl (hd 32 rfl) ?_; refine jo_l (ly_pick_f rfl rfl) (hd 33 rfl) ?_; refine jo_l (ly_mv rfl) (hd 34 rfl) ?_; refine jo_g 34 rfl rfl (ly_mv rfl) (hd 35 rfl) ?_
    refine jo_callg Try.f45 34 rfl rfl (num_s 0) rfl Try.func45 rfl rfl (ovL_cons rfl ovL_nil) (.cons .i .nil) (hd 36 rfl) ?_ (fun ch hp => by simp at hp)
    rintro y hy; injection hy with hy; subst hy; refine jo_g 34 rfl rfl (ly_tt (ly_eq rfl rfl) (by decide)) (hd 37 rfl) ?_; refine jo_g 34 rfl rfl (ly_mv rfl) (hd 38 rfl) ?_; refine jo_g 38 rfl rfl (ly_lda agg30 rfl rfl rfl rfl) (hd 39 rfl) ?_; refine jo_g 38 rfl rfl (ly_lda agg30 rfl rfl rfl rfl) (hd 40 rfl) ?_
    refine jo_callg Try.f47 38 rfl rfl (hSm) rfl Try.func47 rfl rfl (ovL_cons rfl (ovL_cons rfl ovL_nil)) (.cons (.a1 .b (.a1 .n .a0)) (.cons (.a1 .b (.a1 .n .a0)) .nil)) (hd 41 rfl) ?_ (fun ch hp => by simp at hp)
    rintro y hy; injection hy with hy; subst hy; refine jo_g 38 rfl rfl (ly_not rfl) (hd 42 rfl) ?_; refine jo_g 34 rfl rfl (ly_pick_t rfl rfl) (hd 43 rfl) ?_; refine jo_l (ly_pick_f rfl rfl) (hd 44 rfl) ?_; refine jo_nil ?_; refine jc_litf rfl ?_; refine jc_skip ?_; refine jc_seq ?_; refine jc_region ?_; refine jo_l (ly_mv rfl) (hd 46 rfl) ?_
    refine jo_call Try.f38 (hS) rfl Try.func38 rfl rfl (ovL_cons rfl ovL_nil) (.cons .s .nil) (hd 47 rfl) ?_ (fun ch hp => by simp at hp)
    rintro y hy; injection hy with hy; subst hy; refine jo_l (ly_mv rfl) (hd 45 rfl) ?_; refine jo_l (ly_ext rfl rfl) (hd 48 rfl) ?_; refine jo_l (ly_ext rfl rfl) (hd 49 rfl) ?_; refine jo_h (hy_alloc (id := 3) zero30 (by decide) rfl (by decide) rfl) (hd 9 rfl) ?_; refine jo_st (sy_store rfl rfl rfl siz30 rfl rfl (Nat.le_of_ble_eq_true rfl)) ?_; refine jo_l (ly_as rfl) (hd 10 rfl) ?_; refine jo_nil ?_; refine jc_seq ?_; refine jc_seq ?_; refine jc_region ?_; refine jo_l (ly_mv rfl) (hd 50 rfl) ?_
    refine jo_call Try.f45 (num_s 62) rfl Try.func45 rfl rfl (ovL_cons rfl ovL_nil) (.cons .i .nil) (hd 51 rfl) ?_ (fun ch hp => by simp at hp)
    rintro y hy; injection hy with hy; subst hy; refine jo_l (ly_tt (ly_ne rfl rfl) (by decide)) (hd 52 rfl) ?_; refine jo_nil ?_; refine jc_litt rfl ?_; refine jc_seq ?_; refine jc_region ?_
    refine jo_call Try.f43 (awake_s) rfl Try.func43 rfl rfl ovL_nil .nil (hd 53 rfl) ?_ (fun ch hp => by simp at hp)
    rintro y hy; injection hy with hy; subst hy; refine jo_l (ly_as rfl) (hd 4 rfl) ?_; refine jo_nil ?_; refine jc_ret ?_
    refine ⟨_, _, (.cons rfl .nil), .b, ?_⟩
    exact rfl
  · refine jc_skip ?_; refine jc_seq ?_; refine jc_region ?_; refine jo_l (ly_mv rfl) (hd 46 rfl) ?_
    refine jo_call Try.f38 (hS) rfl Try.func38 rfl rfl (ovL_cons rfl ovL_nil) (.cons .s .nil) (hd 47 rfl) ?_ (fun ch hp => by simp at hp)
    rintro y hy; injection hy with hy; subst hy; refine jo_l (ly_mv rfl) (hd 45 rfl) ?_; refine jo_l (ly_ext rfl rfl) (hd 48 rfl) ?_; refine jo_l (ly_ext rfl rfl) (hd 49 rfl) ?_; refine jo_h (hy_alloc (id := 2) zero30 (by decide) rfl (by decide) rfl) (hd 9 rfl) ?_; refine jo_st (sy_store rfl rfl rfl siz30 rfl rfl (Nat.le_of_ble_eq_true rfl)) ?_; refine jo_l (ly_as rfl) (hd 10 rfl) ?_; refine jo_nil ?_; refine jc_seq ?_; refine jc_seq ?_; refine jc_region ?_; refine jo_l (ly_mv rfl) (hd 50 rfl) ?_
    refine jo_call Try.f45 (num_s 62) rfl Try.func45 rfl rfl (ovL_cons rfl ovL_nil) (.cons .i .nil) (hd 51 rfl) ?_ (fun ch hp => by simp at hp)
    rintro y hy; injection hy with hy; subst hy; refine jo_l (ly_tt (ly_ne rfl rfl) (by decide)) (hd 52 rfl) ?_; refine jo_nil ?_; refine jc_litt rfl ?_; refine jc_seq ?_; refine jc_region ?_
    refine jo_call Try.f43 (awake_s) rfl Try.func43 rfl rfl ovL_nil .nil (hd 53 rfl) ?_ (fun ch hp => by simp at hp)
    rintro y hy; injection hy with hy; subst hy; refine jo_l (ly_as rfl) (hd 4 rfl) ?_; refine jo_nil ?_; refine jc_ret ?_
    refine ⟨_, _, (.cons rfl .nil), .b, ?_⟩
    exact rfl

set_option maxHeartbeats 4000000 in
theorem WholeBack_m (sa : Bool) (a : List Int) (l : List Int) (hr : rng 10 l) (h0 : l ≠ []) (hl : l.length ≤ 1048575) (ha : a.length ≤ 1048574) (ua : u64s a) : Spec Try.prog 11 [.a [.b sa, .n false .u64 a], .s ((⟨#[45]⟩ : ByteArray) ++ txt l)] (fun o => o = .ret (.b true)) := by
  refine spec_of' [(0, .a [.b sa, .n false .u64 a]), (1, .s ((⟨#[45]⟩ : ByteArray) ++ txt l))] rfl Try.func11 rfl (Nat.le_of_ble_eq_true rfl) fun Γ hN hds hL hR => ?_
  have hd : ∀ d, Nat.blt d 89 = true → d < Γ.N := fun d h => by rw [hN]; exact Nat.le_of_ble_eq_true h
  have hlv : lenV (sv sa a) ≤ 67108864 := by have := lenV_64 (s := sa) ua; omega
  have hlmv := lenV_lm hlv
  have hW := WParse_w (sv sa a) hlv
  have hSm : Spec Try.prog 47 [.a [.b sa, .n false .u64 a], .a [.b (decide ((sv sa a) < 0)), .n false .u64 (lm (sv sa a))]] (fun o => o = .ret (.b true)) := by have h := same_s sa (decide ((sv sa a) < 0)) a (lm (sv sa a)) (by omega) (by omega) ua (lm_u _); rwa [sv_lm, show decide (cmpI (sv sa a) (sv sa a) = 0) = true from decide_eq_true (cmpI_0.2 rfl)] at h
  have hv0 := hv_nonneg hr
  have hv9 : lenV (hv 10 l) ≤ 67108864 := Nat.le_trans (hv_fit (by decide) (by decide) hr (by omega)) (by decide)
  have hPd := Parse_d l hr h0 (by omega) hv9
  have hlp := List.length_pos_iff.2 h0
  have hts := txt_size l
  have hb0 := txt_b0 hr h0
  have hlw : (lm (-(hv 10 l))).length ≤ 1048576 := lenV_lm (by rw [lenV_neg]; exact hv9)
  have hPw : Spec Try.prog 39 [.a [.b (decide ((-(hv 10 l)) < 0)), .n false .u64 (lm (-(hv 10 l)))]] (fun o => o = .ret (.s (wtxt (-(hv 10 l))))) := by have h := WPrint_s (decide ((-(hv 10 l)) < 0)) (lm (-(hv 10 l))) hlw (lm_u _); rwa [sv_lm] at h
  have hone := one_size 45 (txt l)
  have hbb : byteAt ((⟨#[45]⟩ : ByteArray) ++ txt l) 0 = 45 := byte0 45 (txt l)
  have hS := WParse_mk (txt l) (by omega) (hv 10 l) hv0 hv9 hPd
  refine jc_seq ?_; refine jc_region ?_; refine jo_h (hy_box (id := 0) (n := 2) rfl rfl rfl (by decide) rfl) (hd 2 rfl) ?_; refine jo_l (ly_as rfl) (hd 4 rfl) ?_; refine jo_nil ?_; refine jc_seq ?_; refine jc_region ?_; refine jo_l (ly_lda agg27 rfl rfl rfl rfl) (hd 12 rfl) ?_
  refine jo_call Try.f44 (in_s sa a) rfl Try.func44 rfl rfl (ovL_cons rfl ovL_nil) (.cons (.a1 .b (.a1 .n .a0)) .nil) (hd 13 rfl) ?_ (fun ch hp => by simp at hp)
  rintro y hy; injection hy with hy; subst hy; refine jo_h (hy_alloc (id := 1) zero30 (by decide) rfl (by decide) rfl) (hd 5 rfl) ?_; refine jo_st (sy_store rfl rfl rfl siz30 rfl rfl (Nat.le_of_ble_eq_true rfl)) ?_; refine jo_nil ?_; refine jc_seq ?_; refine jc_region ?_; refine jo_l (ly_lda agg30 rfl rfl rfl rfl) (hd 14 rfl) ?_
  refine jo_call Try.f39 (WPrint_s sa a (by omega) ua) rfl Try.func39 rfl rfl (ovL_cons rfl ovL_nil) (.cons (.a1 .b (.a1 .n .a0)) .nil) (hd 15 rfl) ?_ (fun ch hp => by simp at hp)
  rintro y hy; injection hy with hy; subst hy; refine jo_l (ly_as rfl) (hd 6 rfl) ?_; refine jo_nil ?_; refine jc_seq ?_; refine jc_seq ?_; refine jc_region ?_; refine jo_l (ly_mv rfl) (hd 16 rfl) ?_; refine jo_l (ly_lens und9 rfl) (hd 17 rfl) ?_; refine jo_l (ly_le rfl rfl) (hd 18 rfl) ?_; refine jo_nil ?_
  refine jc_if rfl (fun h1 => ?_) (fun h1 => ?_)
  · have hWq := hW (by omega)
    refine jc_seq ?_; refine jc_region ?_; refine jo_l (ly_mv rfl) (hd 20 rfl) ?_
    refine jo_call Try.f38 (hWq) rfl Try.func38 rfl rfl (ovL_cons rfl ovL_nil) (.cons .s .nil) (hd 21 rfl) ?_ (fun ch hp => by simp at hp)
    rintro y hy; injection hy with hy; subst hy; refine jo_l (ly_mv rfl) (hd 19 rfl) ?_; refine jo_l (ly_ext rfl rfl) (hd 22 rfl) ?_; refine jo_l (ly_ext rfl rfl) (hd 23 rfl) ?_; refine jo_h (hy_alloc (id := 2) zero30 (by decide) rfl (by decide) rfl) (hd 7 rfl) ?_; refine jo_st (sy_store rfl rfl rfl siz30 rfl rfl (Nat.le_of_ble_eq_true rfl)) ?_; refine jo_l (ly_as rfl) (hd 8 rfl) ?_; refine jo_nil ?_; refine jc_seq ?_; refine jc_region ?_; refine jo_l (ly_mv rfl) (hd 24 rfl) ?_
    refine jo_call Try.f45 (num_s 0) rfl Try.func45 rfl rfl (ovL_cons rfl ovL_nil) (.cons .i .nil) (hd 25 rfl) ?_ (fun ch hp => by simp at hp)
    rintro y hy; injection hy with hy; subst hy; refine jo_l (ly_ff (ly_ne rfl rfl) (by decide)) (hd 26 rfl) ?_; refine jo_l (ly_mv rfl) (hd 27 rfl) ?_; refine jo_s 27 rfl rfl rfl (hd 28 rfl) ?_; refine jo_s 27 rfl rfl rfl (hd 29 rfl) ?_; refine jo_s 27 rfl rfl rfl (hd 30 rfl) ?_; refine jo_s 27 rfl rfl rfl (hd 31 rfl) ?_; refine jo_s 27 rfl rfl rfl (hd 32 rfl) ?_; refine jo_l (ly_pick_f rfl rfl) (hd 33 rfl) ?_; refine jo_l (ly_mv rfl) (hd 34 rfl) ?_; refine jo_g 34 rfl rfl (ly_mv rfl) (hd 35 rfl) ?_
    refine jo_callg Try.f45 34 rfl rfl (num_s 0) rfl Try.func45 rfl rfl (ovL_cons rfl ovL_nil) (.cons .i .nil) (hd 36 rfl) ?_ (fun ch hp => by simp at hp)
    rintro y hy; injection hy with hy; subst hy; refine jo_g 34 rfl rfl (ly_tt (ly_eq rfl rfl) (by decide)) (hd 37 rfl) ?_; refine jo_g 34 rfl rfl (ly_mv rfl) (hd 38 rfl) ?_; refine jo_g 38 rfl rfl (ly_lda agg30 rfl rfl rfl rfl) (hd 39 rfl) ?_; refine jo_g 38 rfl rfl (ly_lda agg30 rfl rfl rfl rfl) (hd 40 rfl) ?_
    refine jo_callg Try.f47 38 rfl rfl (hSm) rfl Try.func47 rfl rfl (ovL_cons rfl (ovL_cons rfl ovL_nil)) (.cons (.a1 .b (.a1 .n .a0)) (.cons (.a1 .b (.a1 .n .a0)) .nil)) (hd 41 rfl) ?_ (fun ch hp => by simp at hp)
    rintro y hy; injection hy with hy; subst hy; refine jo_g 38 rfl rfl (ly_not rfl) (hd 42 rfl) ?_; refine jo_g 34 rfl rfl (ly_pick_t rfl rfl) (hd 43 rfl) ?_; refine jo_l (ly_pick_f rfl rfl) (hd 44 rfl) ?_; refine jo_nil ?_; refine jc_litf rfl ?_; refine jc_skip ?_; refine jc_seq ?_; refine jc_region ?_; refine jo_l (ly_mv rfl) (hd 46 rfl) ?_
    refine jo_call Try.f38 (hS) rfl Try.func38 rfl rfl (ovL_cons rfl ovL_nil) (.cons .s .nil) (hd 47 rfl) ?_ (fun ch hp => by simp at hp)
    rintro y hy; injection hy with hy; subst hy; refine jo_l (ly_mv rfl) (hd 45 rfl) ?_; refine jo_l (ly_ext rfl rfl) (hd 48 rfl) ?_; refine jo_l (ly_ext rfl rfl) (hd 49 rfl) ?_; refine jo_h (hy_alloc (id := 3) zero30 (by decide) rfl (by decide) rfl) (hd 9 rfl) ?_; refine jo_st (sy_store rfl rfl rfl siz30 rfl rfl (Nat.le_of_ble_eq_true rfl)) ?_; refine jo_l (ly_as rfl) (hd 10 rfl) ?_; refine jo_nil ?_; refine jc_seq ?_; refine jc_seq ?_; refine jc_region ?_; refine jo_l (ly_mv rfl) (hd 50 rfl) ?_
    refine jo_call Try.f45 (num_s 0) rfl Try.func45 rfl rfl (ovL_cons rfl ovL_nil) (.cons .i .nil) (hd 51 rfl) ?_ (fun ch hp => by simp at hp)
    rintro y hy; injection hy with hy; subst hy; refine jo_l (ly_ff (ly_ne rfl rfl) (by decide)) (hd 52 rfl) ?_; refine jo_nil ?_; refine jc_litf rfl ?_; refine jc_skip ?_; refine jc_seq ?_; refine jc_region ?_; refine jo_l (ly_mv rfl) (hd 54 rfl) ?_; refine jo_l (ly_ixs (i := 0) und9 rfl rfl (by first | rfl | omega) (by omega)) (hd 55 rfl) ?_; refine jo_l (ly_tt (ly_eq rfl rfl) (by omega)) (hd 56 rfl) ?_; refine jo_l (ly_as rfl) (hd 11 rfl) ?_; refine jo_nil ?_; refine jc_seq ?_; refine jc_seq ?_; refine jc_region ?_; refine jo_l (ly_mv rfl) (hd 57 rfl) ?_; refine jo_l (ly_mv rfl) (hd 58 rfl) ?_; refine jo_s 58 rfl rfl rfl (hd 59 rfl) ?_; refine jo_s 58 rfl rfl rfl (hd 60 rfl) ?_; refine jo_s 58 rfl rfl rfl (hd 61 rfl) ?_; refine jo_l (ly_pick_t rfl rfl) (hd 62 rfl) ?_; refine jo_nil ?_; refine jc_litt rfl ?_; refine jc_region ?_; refine jo_l (ly_mv rfl) (hd 63 rfl) ?_; refine jo_l (ly_is (ly_sls und9 rfl (bnd_some' (n := 1) rfl rfl) bnd_none (by omega) (by omega)) (show V.s _ = V.s (txt l) from congrArg V.s (ext1 45 (txt l)))) (hd 64 rfl) ?_; refine jo_l (ly_as rfl) (hd 1 rfl) ?_; refine jo_nil ?_
    refine jc_meetH (G := Nat) (fun i => i < l.length ∧ hv 10 (l.drop i) = hv 10 l ∧ ((l.drop i).length = 1 ∨ (l.drop i).getD 0 0 ≠ 0)) (fun i => [(1, .s (txt (l.drop i))), (65, .u), (66, .u), (67, .u), (68, .u), (69, .u), (70, .u), (71, .u), (72, .u), (73, .u), (74, .u)]) ?_ ?_
    · refine jc_block ?_
      refine jc_loopF (G := Nat) (fun i => i < l.length ∧ hv 10 (l.drop i) = hv 10 l) (fun i => [(1, .s (txt (l.drop i))), (65, .u), (66, .u), (67, .u), (68, .u), (69, .u), (70, .u), (71, .u), (72, .u), (73, .u), (74, .u)]) (fun _ => _) (fun i => l.length - i) 0 ?_ ?_ rfl ?_
      · exact ⟨hlp, rfl⟩
      · exact (.cons (by show some (V.s _) = some (V.s _); rfl) (.u (.u (.u (.u (.u (.u (.u (.u (.u (.u .nil)))))))))))
      · rintro i ⟨hi, hvi⟩
        have hld : (l.drop i).length = l.length - i := List.length_drop ..
        have htd := txt_size (l.drop i)
        have hnd : l.drop i ≠ [] := fun h => by rw [h] at hld; simp at hld; omega
        have hzz := txt_b0z (rng_drop hr i) hnd
        refine jc_seq ?_; refine jc_seq ?_; refine jc_region ?_; refine jo_l (ly_mv rfl) (hd 65 rfl) ?_; refine jo_l (ly_lens und9 rfl) (hd 66 rfl) ?_; refine jo_l (ly_gt rfl rfl) (hd 67 rfl) ?_; refine jo_l (ly_mv rfl) (hd 68 rfl) ?_
        refine jo_ifp 68 rfl (fun h5 => ?_) (fun h5 => ?_)
        · refine jo_g 68 rfl rfl (ly_mv rfl) (hd 69 rfl) ?_; refine jo_g 68 rfl rfl (ly_ixs (i := 0) und9 rfl rfl (by first | rfl | omega) (by omega)) (hd 70 rfl) ?_; refine jo_g 68 rfl rfl (ly_eq rfl rfl) (hd 71 rfl) ?_; refine jo_l (ly_pick_t rfl rfl) (hd 72 rfl) ?_; refine jo_nil ?_
          refine jc_if rfl (fun h6 => ?_) (fun h6 => ?_)
          · have hz0 := hzz.1 (by assumption)
            refine jc_skip ?_; refine jc_block ?_; refine jc_region ?_; refine jo_l (ly_mv rfl) (hd 73 rfl) ?_; refine jo_l (ly_is (ly_sls und9 rfl (bnd_some' (n := 1) rfl rfl) bnd_none (by omega) (by omega)) (show V.s _ = V.s (txt (l.drop (i + 1))) by rw [txt_ext1 hnd, List.drop_drop])) (hd 74 rfl) ?_; refine jo_l (ly_as rfl) (hd 1 rfl) ?_; refine jo_nil ?_
            refine ⟨i + 1, ?_, ?_, rfl, cov_n 23 rfl rfl ?_⟩
            · exact ⟨by omega, hv_dropI (by assumption) hvi⟩
            · omega
            · exact (.cons rfl (.u (.u (.u (.u (.u (.u (.u (.u (.u (.u .nil)))))))))))
          · refine jc_exit ?_
            refine ⟨i, ?_, rfl, cov_n 20 rfl rfl ?_⟩
            · exact ⟨hi, hvi, by first | (left; omega) | (right; exact fun h => absurd (hzz.2 h) (by assumption))⟩
            · exact (.cons rfl (.u (.u (.u (.u (.u (.u (.u (.u (.u (.u .nil)))))))))))
        · refine jo_s 68 rfl rfl rfl (hd 69 rfl) ?_; refine jo_s 68 rfl rfl rfl (hd 70 rfl) ?_; refine jo_s 68 rfl rfl rfl (hd 71 rfl) ?_; refine jo_l (ly_pick_f rfl rfl) (hd 72 rfl) ?_; refine jo_nil ?_; refine jc_litf rfl ?_; refine jc_exit ?_
          refine ⟨i, ?_, rfl, cov_n 20 rfl rfl ?_⟩
          · exact ⟨hi, hvi, by first | (left; omega) | (right; exact fun h => absurd (hzz.2 h) (by assumption))⟩
          · exact (.cons rfl (.u (.u (.u (.u (.u (.u (.u (.u (.u (.u .nil)))))))))))
    · rintro i ⟨hi, hvi, hci⟩
      have hld : (l.drop i).length = l.length - i := List.length_drop ..
      have htd := txt_size (l.drop i)
      have hnd : l.drop i ≠ [] := fun h => by rw [h] at hld; simp at hld; omega
      have hcan : hdg 10 1 (hv 10 l).natAbs = l.drop i := by have h := canon (by decide) (rng_drop hr i) hnd hci; rw [hvi] at h; rw [← h]; congr 1; omega
      have hi0 := txt_is0 (rng_drop hr i)
      refine jc_seq ?_; refine jc_seq ?_; refine jc_region ?_; refine jo_l (ly_mv rfl) (hd 75 rfl) ?_; refine jo_l (ly_mv rfl) (hd 76 rfl) ?_; refine jo_g 76 rfl rfl (ly_mv rfl) (hd 77 rfl) ?_; refine jo_g 76 rfl rfl (ly_neS rfl rfl) (hd 78 rfl) ?_; refine jo_l (ly_pick_t rfl rfl) (hd 79 rfl) ?_; refine jo_nil ?_
      refine jc_if rfl (fun h8 => ?_) (fun h8 => ?_)
      · refine jc_region ?_; refine jo_l (ly_mv rfl) (hd 80 rfl) ?_; refine jo_l (ly_adds rfl rfl (by show ((1 + _ : Nat) : Int) ≤ 9223372036854775807; omega)) (hd 81 rfl) ?_; refine jo_l (ly_as rfl) (hd 1 rfl) ?_; refine jo_nil ?_; refine jc_seq ?_; refine jc_region ?_; refine jo_l (ly_lda agg30 rfl rfl rfl rfl) (hd 82 rfl) ?_
        refine jo_call Try.f39 (hPw) rfl Try.func39 rfl rfl (ovL_cons rfl ovL_nil) (.cons (.a1 .b (.a1 .n .a0)) .nil) (hd 83 rfl) ?_ (fun ch hp => by simp at hp)
        rintro y hy; injection hy with hy; subst hy; refine jo_l (ly_mv rfl) (hd 84 rfl) ?_; refine jo_l (ly_tt (ly_eqS rfl rfl) (by first | exact wtxt_nn hv0 hcan | exact wtxt_m1 hv0 hcan (by assumption) | exact wtxt_m0 hv0 hcan hi0 (by assumption))) (hd 85 rfl) ?_; refine jo_l (ly_mv rfl) (hd 86 rfl) ?_
        refine jo_callg Try.f43 86 rfl rfl (awake_s) rfl Try.func43 rfl rfl ovL_nil .nil (hd 87 rfl) ?_ (fun ch hp => by simp at hp)
        rintro y hy; injection hy with hy; subst hy; refine jo_l (ly_pick_t rfl rfl) (hd 88 rfl) ?_; refine jo_l (ly_as rfl) (hd 4 rfl) ?_; refine jo_nil ?_; refine jc_ret ?_
        refine ⟨_, _, (.cons rfl .nil), .b, ?_⟩
        exact rfl
      · refine jc_skip ?_; refine jc_seq ?_; refine jc_region ?_; refine jo_l (ly_lda agg30 rfl rfl rfl rfl) (hd 82 rfl) ?_
        refine jo_call Try.f39 (hPw) rfl Try.func39 rfl rfl (ovL_cons rfl ovL_nil) (.cons (.a1 .b (.a1 .n .a0)) .nil) (hd 83 rfl) ?_ (fun ch hp => by simp at hp)
        rintro y hy; injection hy with hy; subst hy; refine jo_l (ly_mv rfl) (hd 84 rfl) ?_; refine jo_l (ly_tt (ly_eqS rfl rfl) (by first | exact wtxt_nn hv0 hcan | exact wtxt_m1 hv0 hcan (by assumption) | exact wtxt_m0 hv0 hcan hi0 (by assumption))) (hd 85 rfl) ?_; refine jo_l (ly_mv rfl) (hd 86 rfl) ?_
        refine jo_callg Try.f43 86 rfl rfl (awake_s) rfl Try.func43 rfl rfl ovL_nil .nil (hd 87 rfl) ?_ (fun ch hp => by simp at hp)
        rintro y hy; injection hy with hy; subst hy; refine jo_l (ly_pick_t rfl rfl) (hd 88 rfl) ?_; refine jo_l (ly_as rfl) (hd 4 rfl) ?_; refine jo_nil ?_; refine jc_ret ?_
        refine ⟨_, _, (.cons rfl .nil), .b, ?_⟩
        exact rfl
  · refine jc_skip ?_; refine jc_seq ?_; refine jc_region ?_; refine jo_l (ly_mv rfl) (hd 46 rfl) ?_
    refine jo_call Try.f38 (hS) rfl Try.func38 rfl rfl (ovL_cons rfl ovL_nil) (.cons .s .nil) (hd 47 rfl) ?_ (fun ch hp => by simp at hp)
    rintro y hy; injection hy with hy; subst hy; refine jo_l (ly_mv rfl) (hd 45 rfl) ?_; refine jo_l (ly_ext rfl rfl) (hd 48 rfl) ?_; refine jo_l (ly_ext rfl rfl) (hd 49 rfl) ?_; refine jo_h (hy_alloc (id := 2) zero30 (by decide) rfl (by decide) rfl) (hd 9 rfl) ?_; refine jo_st (sy_store rfl rfl rfl siz30 rfl rfl (Nat.le_of_ble_eq_true rfl)) ?_; refine jo_l (ly_as rfl) (hd 10 rfl) ?_; refine jo_nil ?_; refine jc_seq ?_; refine jc_seq ?_; refine jc_region ?_; refine jo_l (ly_mv rfl) (hd 50 rfl) ?_
    refine jo_call Try.f45 (num_s 0) rfl Try.func45 rfl rfl (ovL_cons rfl ovL_nil) (.cons .i .nil) (hd 51 rfl) ?_ (fun ch hp => by simp at hp)
    rintro y hy; injection hy with hy; subst hy; refine jo_l (ly_ff (ly_ne rfl rfl) (by decide)) (hd 52 rfl) ?_; refine jo_nil ?_; refine jc_litf rfl ?_; refine jc_skip ?_; refine jc_seq ?_; refine jc_region ?_; refine jo_l (ly_mv rfl) (hd 54 rfl) ?_; refine jo_l (ly_ixs (i := 0) und9 rfl rfl (by first | rfl | omega) (by omega)) (hd 55 rfl) ?_; refine jo_l (ly_tt (ly_eq rfl rfl) (by omega)) (hd 56 rfl) ?_; refine jo_l (ly_as rfl) (hd 11 rfl) ?_; refine jo_nil ?_; refine jc_seq ?_; refine jc_seq ?_; refine jc_region ?_; refine jo_l (ly_mv rfl) (hd 57 rfl) ?_; refine jo_l (ly_mv rfl) (hd 58 rfl) ?_; refine jo_s 58 rfl rfl rfl (hd 59 rfl) ?_; refine jo_s 58 rfl rfl rfl (hd 60 rfl) ?_; refine jo_s 58 rfl rfl rfl (hd 61 rfl) ?_; refine jo_l (ly_pick_t rfl rfl) (hd 62 rfl) ?_; refine jo_nil ?_; refine jc_litt rfl ?_; refine jc_region ?_; refine jo_l (ly_mv rfl) (hd 63 rfl) ?_; refine jo_l (ly_is (ly_sls und9 rfl (bnd_some' (n := 1) rfl rfl) bnd_none (by omega) (by omega)) (show V.s _ = V.s (txt l) from congrArg V.s (ext1 45 (txt l)))) (hd 64 rfl) ?_; refine jo_l (ly_as rfl) (hd 1 rfl) ?_; refine jo_nil ?_
    refine jc_meetH (G := Nat) (fun i => i < l.length ∧ hv 10 (l.drop i) = hv 10 l ∧ ((l.drop i).length = 1 ∨ (l.drop i).getD 0 0 ≠ 0)) (fun i => [(1, .s (txt (l.drop i))), (65, .u), (66, .u), (67, .u), (68, .u), (69, .u), (70, .u), (71, .u), (72, .u), (73, .u), (74, .u)]) ?_ ?_
    · refine jc_block ?_
      refine jc_loopF (G := Nat) (fun i => i < l.length ∧ hv 10 (l.drop i) = hv 10 l) (fun i => [(1, .s (txt (l.drop i))), (65, .u), (66, .u), (67, .u), (68, .u), (69, .u), (70, .u), (71, .u), (72, .u), (73, .u), (74, .u)]) (fun _ => _) (fun i => l.length - i) 0 ?_ ?_ rfl ?_
      · exact ⟨hlp, rfl⟩
      · exact (.cons (by show some (V.s _) = some (V.s _); rfl) (.u (.u (.u (.u (.u (.u (.u (.u (.u (.u .nil)))))))))))
      · rintro i ⟨hi, hvi⟩
        have hld : (l.drop i).length = l.length - i := List.length_drop ..
        have htd := txt_size (l.drop i)
        have hnd : l.drop i ≠ [] := fun h => by rw [h] at hld; simp at hld; omega
        have hzz := txt_b0z (rng_drop hr i) hnd
        refine jc_seq ?_; refine jc_seq ?_; refine jc_region ?_; refine jo_l (ly_mv rfl) (hd 65 rfl) ?_; refine jo_l (ly_lens und9 rfl) (hd 66 rfl) ?_; refine jo_l (ly_gt rfl rfl) (hd 67 rfl) ?_; refine jo_l (ly_mv rfl) (hd 68 rfl) ?_
        refine jo_ifp 68 rfl (fun h11 => ?_) (fun h11 => ?_)
        · refine jo_g 68 rfl rfl (ly_mv rfl) (hd 69 rfl) ?_; refine jo_g 68 rfl rfl (ly_ixs (i := 0) und9 rfl rfl (by first | rfl | omega) (by omega)) (hd 70 rfl) ?_; refine jo_g 68 rfl rfl (ly_eq rfl rfl) (hd 71 rfl) ?_; refine jo_l (ly_pick_t rfl rfl) (hd 72 rfl) ?_; refine jo_nil ?_
          refine jc_if rfl (fun h12 => ?_) (fun h12 => ?_)
          · have hz0 := hzz.1 (by assumption)
            refine jc_skip ?_; refine jc_block ?_; refine jc_region ?_; refine jo_l (ly_mv rfl) (hd 73 rfl) ?_; refine jo_l (ly_is (ly_sls und9 rfl (bnd_some' (n := 1) rfl rfl) bnd_none (by omega) (by omega)) (show V.s _ = V.s (txt (l.drop (i + 1))) by rw [txt_ext1 hnd, List.drop_drop])) (hd 74 rfl) ?_; refine jo_l (ly_as rfl) (hd 1 rfl) ?_; refine jo_nil ?_
            refine ⟨i + 1, ?_, ?_, rfl, cov_n 23 rfl rfl ?_⟩
            · exact ⟨by omega, hv_dropI (by assumption) hvi⟩
            · omega
            · exact (.cons rfl (.u (.u (.u (.u (.u (.u (.u (.u (.u (.u .nil)))))))))))
          · refine jc_exit ?_
            refine ⟨i, ?_, rfl, cov_n 20 rfl rfl ?_⟩
            · exact ⟨hi, hvi, by first | (left; omega) | (right; exact fun h => absurd (hzz.2 h) (by assumption))⟩
            · exact (.cons rfl (.u (.u (.u (.u (.u (.u (.u (.u (.u (.u .nil)))))))))))
        · refine jo_s 68 rfl rfl rfl (hd 69 rfl) ?_; refine jo_s 68 rfl rfl rfl (hd 70 rfl) ?_; refine jo_s 68 rfl rfl rfl (hd 71 rfl) ?_; refine jo_l (ly_pick_f rfl rfl) (hd 72 rfl) ?_; refine jo_nil ?_; refine jc_litf rfl ?_; refine jc_exit ?_
          refine ⟨i, ?_, rfl, cov_n 20 rfl rfl ?_⟩
          · exact ⟨hi, hvi, by first | (left; omega) | (right; exact fun h => absurd (hzz.2 h) (by assumption))⟩
          · exact (.cons rfl (.u (.u (.u (.u (.u (.u (.u (.u (.u (.u .nil)))))))))))
    · rintro i ⟨hi, hvi, hci⟩
      have hld : (l.drop i).length = l.length - i := List.length_drop ..
      have htd := txt_size (l.drop i)
      have hnd : l.drop i ≠ [] := fun h => by rw [h] at hld; simp at hld; omega
      have hcan : hdg 10 1 (hv 10 l).natAbs = l.drop i := by have h := canon (by decide) (rng_drop hr i) hnd hci; rw [hvi] at h; rw [← h]; congr 1; omega
      have hi0 := txt_is0 (rng_drop hr i)
      refine jc_seq ?_; refine jc_seq ?_; refine jc_region ?_; refine jo_l (ly_mv rfl) (hd 75 rfl) ?_; refine jo_l (ly_mv rfl) (hd 76 rfl) ?_; refine jo_g 76 rfl rfl (ly_mv rfl) (hd 77 rfl) ?_; refine jo_g 76 rfl rfl (ly_neS rfl rfl) (hd 78 rfl) ?_; refine jo_l (ly_pick_t rfl rfl) (hd 79 rfl) ?_; refine jo_nil ?_
      refine jc_if rfl (fun h14 => ?_) (fun h14 => ?_)
      · refine jc_region ?_; refine jo_l (ly_mv rfl) (hd 80 rfl) ?_; refine jo_l (ly_adds rfl rfl (by show ((1 + _ : Nat) : Int) ≤ 9223372036854775807; omega)) (hd 81 rfl) ?_; refine jo_l (ly_as rfl) (hd 1 rfl) ?_; refine jo_nil ?_; refine jc_seq ?_; refine jc_region ?_; refine jo_l (ly_lda agg30 rfl rfl rfl rfl) (hd 82 rfl) ?_
        refine jo_call Try.f39 (hPw) rfl Try.func39 rfl rfl (ovL_cons rfl ovL_nil) (.cons (.a1 .b (.a1 .n .a0)) .nil) (hd 83 rfl) ?_ (fun ch hp => by simp at hp)
        rintro y hy; injection hy with hy; subst hy; refine jo_l (ly_mv rfl) (hd 84 rfl) ?_; refine jo_l (ly_tt (ly_eqS rfl rfl) (by first | exact wtxt_nn hv0 hcan | exact wtxt_m1 hv0 hcan (by assumption) | exact wtxt_m0 hv0 hcan hi0 (by assumption))) (hd 85 rfl) ?_; refine jo_l (ly_mv rfl) (hd 86 rfl) ?_
        refine jo_callg Try.f43 86 rfl rfl (awake_s) rfl Try.func43 rfl rfl ovL_nil .nil (hd 87 rfl) ?_ (fun ch hp => by simp at hp)
        rintro y hy; injection hy with hy; subst hy; refine jo_l (ly_pick_t rfl rfl) (hd 88 rfl) ?_; refine jo_l (ly_as rfl) (hd 4 rfl) ?_; refine jo_nil ?_; refine jc_ret ?_
        refine ⟨_, _, (.cons rfl .nil), .b, ?_⟩
        exact rfl
      · refine jc_skip ?_; refine jc_seq ?_; refine jc_region ?_; refine jo_l (ly_lda agg30 rfl rfl rfl rfl) (hd 82 rfl) ?_
        refine jo_call Try.f39 (hPw) rfl Try.func39 rfl rfl (ovL_cons rfl ovL_nil) (.cons (.a1 .b (.a1 .n .a0)) .nil) (hd 83 rfl) ?_ (fun ch hp => by simp at hp)
        rintro y hy; injection hy with hy; subst hy; refine jo_l (ly_mv rfl) (hd 84 rfl) ?_; refine jo_l (ly_tt (ly_eqS rfl rfl) (by first | exact wtxt_nn hv0 hcan | exact wtxt_m1 hv0 hcan (by assumption) | exact wtxt_m0 hv0 hcan hi0 (by assumption))) (hd 85 rfl) ?_; refine jo_l (ly_mv rfl) (hd 86 rfl) ?_
        refine jo_callg Try.f43 86 rfl rfl (awake_s) rfl Try.func43 rfl rfl ovL_nil .nil (hd 87 rfl) ?_ (fun ch hp => by simp at hp)
        rintro y hy; injection hy with hy; subst hy; refine jo_l (ly_pick_t rfl rfl) (hd 88 rfl) ?_; refine jo_l (ly_as rfl) (hd 4 rfl) ?_; refine jo_nil ?_; refine jc_ret ?_
        refine ⟨_, _, (.cons rfl .nil), .b, ?_⟩
        exact rfl

set_option maxHeartbeats 4000000 in
theorem WholeBack_p (sa : Bool) (a : List Int) (l : List Int) (hr : rng 10 l) (h0 : l ≠ []) (hl : l.length ≤ 1048575) (ha : a.length ≤ 1048574) (ua : u64s a) : Spec Try.prog 11 [.a [.b sa, .n false .u64 a], .s ((⟨#[43]⟩ : ByteArray) ++ txt l)] (fun o => o = .ret (.b true)) := by
  refine spec_of' [(0, .a [.b sa, .n false .u64 a]), (1, .s ((⟨#[43]⟩ : ByteArray) ++ txt l))] rfl Try.func11 rfl (Nat.le_of_ble_eq_true rfl) fun Γ hN hds hL hR => ?_
  have hd : ∀ d, Nat.blt d 89 = true → d < Γ.N := fun d h => by rw [hN]; exact Nat.le_of_ble_eq_true h
  have hlv : lenV (sv sa a) ≤ 67108864 := by have := lenV_64 (s := sa) ua; omega
  have hlmv := lenV_lm hlv
  have hW := WParse_w (sv sa a) hlv
  have hSm : Spec Try.prog 47 [.a [.b sa, .n false .u64 a], .a [.b (decide ((sv sa a) < 0)), .n false .u64 (lm (sv sa a))]] (fun o => o = .ret (.b true)) := by have h := same_s sa (decide ((sv sa a) < 0)) a (lm (sv sa a)) (by omega) (by omega) ua (lm_u _); rwa [sv_lm, show decide (cmpI (sv sa a) (sv sa a) = 0) = true from decide_eq_true (cmpI_0.2 rfl)] at h
  have hv0 := hv_nonneg hr
  have hv9 : lenV (hv 10 l) ≤ 67108864 := Nat.le_trans (hv_fit (by decide) (by decide) hr (by omega)) (by decide)
  have hPd := Parse_d l hr h0 (by omega) hv9
  have hlp := List.length_pos_iff.2 h0
  have hts := txt_size l
  have hb0 := txt_b0 hr h0
  have hlw : (lm (hv 10 l)).length ≤ 1048576 := lenV_lm (by exact hv9)
  have hPw : Spec Try.prog 39 [.a [.b (decide ((hv 10 l) < 0)), .n false .u64 (lm (hv 10 l))]] (fun o => o = .ret (.s (wtxt (hv 10 l)))) := by have h := WPrint_s (decide ((hv 10 l) < 0)) (lm (hv 10 l)) hlw (lm_u _); rwa [sv_lm] at h
  have hone := one_size 43 (txt l)
  have hbb : byteAt ((⟨#[43]⟩ : ByteArray) ++ txt l) 0 = 43 := byte0 43 (txt l)
  have hS := WParse_pk (txt l) (by omega) (hv 10 l) hv0 hv9 hPd
  refine jc_seq ?_; refine jc_region ?_; refine jo_h (hy_box (id := 0) (n := 2) rfl rfl rfl (by decide) rfl) (hd 2 rfl) ?_; refine jo_l (ly_as rfl) (hd 4 rfl) ?_; refine jo_nil ?_; refine jc_seq ?_; refine jc_region ?_; refine jo_l (ly_lda agg27 rfl rfl rfl rfl) (hd 12 rfl) ?_
  refine jo_call Try.f44 (in_s sa a) rfl Try.func44 rfl rfl (ovL_cons rfl ovL_nil) (.cons (.a1 .b (.a1 .n .a0)) .nil) (hd 13 rfl) ?_ (fun ch hp => by simp at hp)
  rintro y hy; injection hy with hy; subst hy; refine jo_h (hy_alloc (id := 1) zero30 (by decide) rfl (by decide) rfl) (hd 5 rfl) ?_; refine jo_st (sy_store rfl rfl rfl siz30 rfl rfl (Nat.le_of_ble_eq_true rfl)) ?_; refine jo_nil ?_; refine jc_seq ?_; refine jc_region ?_; refine jo_l (ly_lda agg30 rfl rfl rfl rfl) (hd 14 rfl) ?_
  refine jo_call Try.f39 (WPrint_s sa a (by omega) ua) rfl Try.func39 rfl rfl (ovL_cons rfl ovL_nil) (.cons (.a1 .b (.a1 .n .a0)) .nil) (hd 15 rfl) ?_ (fun ch hp => by simp at hp)
  rintro y hy; injection hy with hy; subst hy; refine jo_l (ly_as rfl) (hd 6 rfl) ?_; refine jo_nil ?_; refine jc_seq ?_; refine jc_seq ?_; refine jc_region ?_; refine jo_l (ly_mv rfl) (hd 16 rfl) ?_; refine jo_l (ly_lens und9 rfl) (hd 17 rfl) ?_; refine jo_l (ly_le rfl rfl) (hd 18 rfl) ?_; refine jo_nil ?_
  refine jc_if rfl (fun h1 => ?_) (fun h1 => ?_)
  · have hWq := hW (by omega)
    refine jc_seq ?_; refine jc_region ?_; refine jo_l (ly_mv rfl) (hd 20 rfl) ?_
    refine jo_call Try.f38 (hWq) rfl Try.func38 rfl rfl (ovL_cons rfl ovL_nil) (.cons .s .nil) (hd 21 rfl) ?_ (fun ch hp => by simp at hp)
    rintro y hy; injection hy with hy; subst hy; refine jo_l (ly_mv rfl) (hd 19 rfl) ?_; refine jo_l (ly_ext rfl rfl) (hd 22 rfl) ?_; refine jo_l (ly_ext rfl rfl) (hd 23 rfl) ?_; refine jo_h (hy_alloc (id := 2) zero30 (by decide) rfl (by decide) rfl) (hd 7 rfl) ?_; refine jo_st (sy_store rfl rfl rfl siz30 rfl rfl (Nat.le_of_ble_eq_true rfl)) ?_; refine jo_l (ly_as rfl) (hd 8 rfl) ?_; refine jo_nil ?_; refine jc_seq ?_; refine jc_region ?_; refine jo_l (ly_mv rfl) (hd 24 rfl) ?_
    refine jo_call Try.f45 (num_s 0) rfl Try.func45 rfl rfl (ovL_cons rfl ovL_nil) (.cons .i .nil) (hd 25 rfl) ?_ (fun ch hp => by simp at hp)
    rintro y hy; injection hy with hy; subst hy; refine jo_l (ly_ff (ly_ne rfl rfl) (by decide)) (hd 26 rfl) ?_; refine jo_l (ly_mv rfl) (hd 27 rfl) ?_; refine jo_s 27 rfl rfl rfl (hd 28 rfl) ?_; refine jo_s 27 rfl rfl rfl (hd 29 rfl) ?_; refine jo_s 27 rfl rfl rfl (hd 30 rfl) ?_; refine jo_s 27 rfl rfl rfl (hd 31 rfl) ?_; refine jo_s 27 rfl rfl rfl (hd 32 rfl) ?_; refine jo_l (ly_pick_f rfl rfl) (hd 33 rfl) ?_; refine jo_l (ly_mv rfl) (hd 34 rfl) ?_; refine jo_g 34 rfl rfl (ly_mv rfl) (hd 35 rfl) ?_
    refine jo_callg Try.f45 34 rfl rfl (num_s 0) rfl Try.func45 rfl rfl (ovL_cons rfl ovL_nil) (.cons .i .nil) (hd 36 rfl) ?_ (fun ch hp => by simp at hp)
    rintro y hy; injection hy with hy; subst hy; refine jo_g 34 rfl rfl (ly_tt (ly_eq rfl rfl) (by decide)) (hd 37 rfl) ?_; refine jo_g 34 rfl rfl (ly_mv rfl) (hd 38 rfl) ?_; refine jo_g 38 rfl rfl (ly_lda agg30 rfl rfl rfl rfl) (hd 39 rfl) ?_; refine jo_g 38 rfl rfl (ly_lda agg30 rfl rfl rfl rfl) (hd 40 rfl) ?_
    refine jo_callg Try.f47 38 rfl rfl (hSm) rfl Try.func47 rfl rfl (ovL_cons rfl (ovL_cons rfl ovL_nil)) (.cons (.a1 .b (.a1 .n .a0)) (.cons (.a1 .b (.a1 .n .a0)) .nil)) (hd 41 rfl) ?_ (fun ch hp => by simp at hp)
    rintro y hy; injection hy with hy; subst hy; refine jo_g 38 rfl rfl (ly_not rfl) (hd 42 rfl) ?_; refine jo_g 34 rfl rfl (ly_pick_t rfl rfl) (hd 43 rfl) ?_; refine jo_l (ly_pick_f rfl rfl) (hd 44 rfl) ?_; refine jo_nil ?_; refine jc_litf rfl ?_; refine jc_skip ?_; refine jc_seq ?_; refine jc_region ?_; refine jo_l (ly_mv rfl) (hd 46 rfl) ?_
    refine jo_call Try.f38 (hS) rfl Try.func38 rfl rfl (ovL_cons rfl ovL_nil) (.cons .s .nil) (hd 47 rfl) ?_ (fun ch hp => by simp at hp)
    rintro y hy; injection hy with hy; subst hy; refine jo_l (ly_mv rfl) (hd 45 rfl) ?_; refine jo_l (ly_ext rfl rfl) (hd 48 rfl) ?_; refine jo_l (ly_ext rfl rfl) (hd 49 rfl) ?_; refine jo_h (hy_alloc (id := 3) zero30 (by decide) rfl (by decide) rfl) (hd 9 rfl) ?_; refine jo_st (sy_store rfl rfl rfl siz30 rfl rfl (Nat.le_of_ble_eq_true rfl)) ?_; refine jo_l (ly_as rfl) (hd 10 rfl) ?_; refine jo_nil ?_; refine jc_seq ?_; refine jc_seq ?_; refine jc_region ?_; refine jo_l (ly_mv rfl) (hd 50 rfl) ?_
    refine jo_call Try.f45 (num_s 0) rfl Try.func45 rfl rfl (ovL_cons rfl ovL_nil) (.cons .i .nil) (hd 51 rfl) ?_ (fun ch hp => by simp at hp)
    rintro y hy; injection hy with hy; subst hy; refine jo_l (ly_ff (ly_ne rfl rfl) (by decide)) (hd 52 rfl) ?_; refine jo_nil ?_; refine jc_litf rfl ?_; refine jc_skip ?_; refine jc_seq ?_; refine jc_region ?_; refine jo_l (ly_mv rfl) (hd 54 rfl) ?_; refine jo_l (ly_ixs (i := 0) und9 rfl rfl (by first | rfl | omega) (by omega)) (hd 55 rfl) ?_; refine jo_l (ly_ff (ly_eq rfl rfl) (by omega)) (hd 56 rfl) ?_; refine jo_l (ly_as rfl) (hd 11 rfl) ?_; refine jo_nil ?_; refine jc_seq ?_; refine jc_seq ?_; refine jc_region ?_; refine jo_l (ly_mv rfl) (hd 57 rfl) ?_; refine jo_l (ly_mv rfl) (hd 58 rfl) ?_; refine jo_g 58 rfl rfl (ly_mv rfl) (hd 59 rfl) ?_; refine jo_g 58 rfl rfl (ly_ixs (i := 0) und9 rfl rfl (by first | rfl | omega) (by omega)) (hd 60 rfl) ?_; refine jo_g 58 rfl rfl (ly_tt (ly_eq rfl rfl) (by omega)) (hd 61 rfl) ?_; refine jo_l (ly_pick_f rfl rfl) (hd 62 rfl) ?_; refine jo_nil ?_; refine jc_litt rfl ?_; refine jc_region ?_; refine jo_l (ly_mv rfl) (hd 63 rfl) ?_; refine jo_l (ly_is (ly_sls und9 rfl (bnd_some' (n := 1) rfl rfl) bnd_none (by omega) (by omega)) (show V.s _ = V.s (txt l) from congrArg V.s (ext1 43 (txt l)))) (hd 64 rfl) ?_; refine jo_l (ly_as rfl) (hd 1 rfl) ?_; refine jo_nil ?_
    refine jc_meetH (G := Nat) (fun i => i < l.length ∧ hv 10 (l.drop i) = hv 10 l ∧ ((l.drop i).length = 1 ∨ (l.drop i).getD 0 0 ≠ 0)) (fun i => [(1, .s (txt (l.drop i))), (65, .u), (66, .u), (67, .u), (68, .u), (69, .u), (70, .u), (71, .u), (72, .u), (73, .u), (74, .u)]) ?_ ?_
    · refine jc_block ?_
      refine jc_loopF (G := Nat) (fun i => i < l.length ∧ hv 10 (l.drop i) = hv 10 l) (fun i => [(1, .s (txt (l.drop i))), (65, .u), (66, .u), (67, .u), (68, .u), (69, .u), (70, .u), (71, .u), (72, .u), (73, .u), (74, .u)]) (fun _ => _) (fun i => l.length - i) 0 ?_ ?_ rfl ?_
      · exact ⟨hlp, rfl⟩
      · exact (.cons (by show some (V.s _) = some (V.s _); rfl) (.u (.u (.u (.u (.u (.u (.u (.u (.u (.u .nil)))))))))))
      · rintro i ⟨hi, hvi⟩
        have hld : (l.drop i).length = l.length - i := List.length_drop ..
        have htd := txt_size (l.drop i)
        have hnd : l.drop i ≠ [] := fun h => by rw [h] at hld; simp at hld; omega
        have hzz := txt_b0z (rng_drop hr i) hnd
        refine jc_seq ?_; refine jc_seq ?_; refine jc_region ?_; refine jo_l (ly_mv rfl) (hd 65 rfl) ?_; refine jo_l (ly_lens und9 rfl) (hd 66 rfl) ?_; refine jo_l (ly_gt rfl rfl) (hd 67 rfl) ?_; refine jo_l (ly_mv rfl) (hd 68 rfl) ?_
        refine jo_ifp 68 rfl (fun h5 => ?_) (fun h5 => ?_)
        · refine jo_g 68 rfl rfl (ly_mv rfl) (hd 69 rfl) ?_; refine jo_g 68 rfl rfl (ly_ixs (i := 0) und9 rfl rfl (by first | rfl | omega) (by omega)) (hd 70 rfl) ?_; refine jo_g 68 rfl rfl (ly_eq rfl rfl) (hd 71 rfl) ?_; refine jo_l (ly_pick_t rfl rfl) (hd 72 rfl) ?_; refine jo_nil ?_
          refine jc_if rfl (fun h6 => ?_) (fun h6 => ?_)
          · have hz0 := hzz.1 (by assumption)
            refine jc_skip ?_; refine jc_block ?_; refine jc_region ?_; refine jo_l (ly_mv rfl) (hd 73 rfl) ?_; refine jo_l (ly_is (ly_sls und9 rfl (bnd_some' (n := 1) rfl rfl) bnd_none (by omega) (by omega)) (show V.s _ = V.s (txt (l.drop (i + 1))) by rw [txt_ext1 hnd, List.drop_drop])) (hd 74 rfl) ?_; refine jo_l (ly_as rfl) (hd 1 rfl) ?_; refine jo_nil ?_
            refine ⟨i + 1, ?_, ?_, rfl, cov_n 23 rfl rfl ?_⟩
            · exact ⟨by omega, hv_dropI (by assumption) hvi⟩
            · omega
            · exact (.cons rfl (.u (.u (.u (.u (.u (.u (.u (.u (.u (.u .nil)))))))))))
          · refine jc_exit ?_
            refine ⟨i, ?_, rfl, cov_n 20 rfl rfl ?_⟩
            · exact ⟨hi, hvi, by first | (left; omega) | (right; exact fun h => absurd (hzz.2 h) (by assumption))⟩
            · exact (.cons rfl (.u (.u (.u (.u (.u (.u (.u (.u (.u (.u .nil)))))))))))
        · refine jo_s 68 rfl rfl rfl (hd 69 rfl) ?_; refine jo_s 68 rfl rfl rfl (hd 70 rfl) ?_; refine jo_s 68 rfl rfl rfl (hd 71 rfl) ?_; refine jo_l (ly_pick_f rfl rfl) (hd 72 rfl) ?_; refine jo_nil ?_; refine jc_litf rfl ?_; refine jc_exit ?_
          refine ⟨i, ?_, rfl, cov_n 20 rfl rfl ?_⟩
          · exact ⟨hi, hvi, by first | (left; omega) | (right; exact fun h => absurd (hzz.2 h) (by assumption))⟩
          · exact (.cons rfl (.u (.u (.u (.u (.u (.u (.u (.u (.u (.u .nil)))))))))))
    · rintro i ⟨hi, hvi, hci⟩
      have hld : (l.drop i).length = l.length - i := List.length_drop ..
      have htd := txt_size (l.drop i)
      have hnd : l.drop i ≠ [] := fun h => by rw [h] at hld; simp at hld; omega
      have hcan : hdg 10 1 (hv 10 l).natAbs = l.drop i := by have h := canon (by decide) (rng_drop hr i) hnd hci; rw [hvi] at h; rw [← h]; congr 1; omega
      have hi0 := txt_is0 (rng_drop hr i)
      refine jc_seq ?_; refine jc_seq ?_; refine jc_region ?_; refine jo_l (ly_mv rfl) (hd 75 rfl) ?_; refine jo_l (ly_mv rfl) (hd 76 rfl) ?_; refine jo_s 76 rfl rfl rfl (hd 77 rfl) ?_; refine jo_s 76 rfl rfl rfl (hd 78 rfl) ?_; refine jo_l (ly_pick_f rfl rfl) (hd 79 rfl) ?_; refine jo_nil ?_; refine jc_litf rfl ?_; refine jc_skip ?_; refine jc_seq ?_; refine jc_region ?_; refine jo_l (ly_lda agg30 rfl rfl rfl rfl) (hd 82 rfl) ?_
      refine jo_call Try.f39 (hPw) rfl Try.func39 rfl rfl (ovL_cons rfl ovL_nil) (.cons (.a1 .b (.a1 .n .a0)) .nil) (hd 83 rfl) ?_ (fun ch hp => by simp at hp)
      rintro y hy; injection hy with hy; subst hy; refine jo_l (ly_mv rfl) (hd 84 rfl) ?_; refine jo_l (ly_tt (ly_eqS rfl rfl) (by first | exact wtxt_nn hv0 hcan | exact wtxt_m1 hv0 hcan (by assumption) | exact wtxt_m0 hv0 hcan hi0 (by assumption))) (hd 85 rfl) ?_; refine jo_l (ly_mv rfl) (hd 86 rfl) ?_
      refine jo_callg Try.f43 86 rfl rfl (awake_s) rfl Try.func43 rfl rfl ovL_nil .nil (hd 87 rfl) ?_ (fun ch hp => by simp at hp)
      rintro y hy; injection hy with hy; subst hy; refine jo_l (ly_pick_t rfl rfl) (hd 88 rfl) ?_; refine jo_l (ly_as rfl) (hd 4 rfl) ?_; refine jo_nil ?_; refine jc_ret ?_
      refine ⟨_, _, (.cons rfl .nil), .b, ?_⟩
      exact rfl
  · refine jc_skip ?_; refine jc_seq ?_; refine jc_region ?_; refine jo_l (ly_mv rfl) (hd 46 rfl) ?_
    refine jo_call Try.f38 (hS) rfl Try.func38 rfl rfl (ovL_cons rfl ovL_nil) (.cons .s .nil) (hd 47 rfl) ?_ (fun ch hp => by simp at hp)
    rintro y hy; injection hy with hy; subst hy; refine jo_l (ly_mv rfl) (hd 45 rfl) ?_; refine jo_l (ly_ext rfl rfl) (hd 48 rfl) ?_; refine jo_l (ly_ext rfl rfl) (hd 49 rfl) ?_; refine jo_h (hy_alloc (id := 2) zero30 (by decide) rfl (by decide) rfl) (hd 9 rfl) ?_; refine jo_st (sy_store rfl rfl rfl siz30 rfl rfl (Nat.le_of_ble_eq_true rfl)) ?_; refine jo_l (ly_as rfl) (hd 10 rfl) ?_; refine jo_nil ?_; refine jc_seq ?_; refine jc_seq ?_; refine jc_region ?_; refine jo_l (ly_mv rfl) (hd 50 rfl) ?_
    refine jo_call Try.f45 (num_s 0) rfl Try.func45 rfl rfl (ovL_cons rfl ovL_nil) (.cons .i .nil) (hd 51 rfl) ?_ (fun ch hp => by simp at hp)
    rintro y hy; injection hy with hy; subst hy; refine jo_l (ly_ff (ly_ne rfl rfl) (by decide)) (hd 52 rfl) ?_; refine jo_nil ?_; refine jc_litf rfl ?_; refine jc_skip ?_; refine jc_seq ?_; refine jc_region ?_; refine jo_l (ly_mv rfl) (hd 54 rfl) ?_; refine jo_l (ly_ixs (i := 0) und9 rfl rfl (by first | rfl | omega) (by omega)) (hd 55 rfl) ?_; refine jo_l (ly_ff (ly_eq rfl rfl) (by omega)) (hd 56 rfl) ?_; refine jo_l (ly_as rfl) (hd 11 rfl) ?_; refine jo_nil ?_; refine jc_seq ?_; refine jc_seq ?_; refine jc_region ?_; refine jo_l (ly_mv rfl) (hd 57 rfl) ?_; refine jo_l (ly_mv rfl) (hd 58 rfl) ?_; refine jo_g 58 rfl rfl (ly_mv rfl) (hd 59 rfl) ?_; refine jo_g 58 rfl rfl (ly_ixs (i := 0) und9 rfl rfl (by first | rfl | omega) (by omega)) (hd 60 rfl) ?_; refine jo_g 58 rfl rfl (ly_tt (ly_eq rfl rfl) (by omega)) (hd 61 rfl) ?_; refine jo_l (ly_pick_f rfl rfl) (hd 62 rfl) ?_; refine jo_nil ?_; refine jc_litt rfl ?_; refine jc_region ?_; refine jo_l (ly_mv rfl) (hd 63 rfl) ?_; refine jo_l (ly_is (ly_sls und9 rfl (bnd_some' (n := 1) rfl rfl) bnd_none (by omega) (by omega)) (show V.s _ = V.s (txt l) from congrArg V.s (ext1 43 (txt l)))) (hd 64 rfl) ?_; refine jo_l (ly_as rfl) (hd 1 rfl) ?_; refine jo_nil ?_
    refine jc_meetH (G := Nat) (fun i => i < l.length ∧ hv 10 (l.drop i) = hv 10 l ∧ ((l.drop i).length = 1 ∨ (l.drop i).getD 0 0 ≠ 0)) (fun i => [(1, .s (txt (l.drop i))), (65, .u), (66, .u), (67, .u), (68, .u), (69, .u), (70, .u), (71, .u), (72, .u), (73, .u), (74, .u)]) ?_ ?_
    · refine jc_block ?_
      refine jc_loopF (G := Nat) (fun i => i < l.length ∧ hv 10 (l.drop i) = hv 10 l) (fun i => [(1, .s (txt (l.drop i))), (65, .u), (66, .u), (67, .u), (68, .u), (69, .u), (70, .u), (71, .u), (72, .u), (73, .u), (74, .u)]) (fun _ => _) (fun i => l.length - i) 0 ?_ ?_ rfl ?_
      · exact ⟨hlp, rfl⟩
      · exact (.cons (by show some (V.s _) = some (V.s _); rfl) (.u (.u (.u (.u (.u (.u (.u (.u (.u (.u .nil)))))))))))
      · rintro i ⟨hi, hvi⟩
        have hld : (l.drop i).length = l.length - i := List.length_drop ..
        have htd := txt_size (l.drop i)
        have hnd : l.drop i ≠ [] := fun h => by rw [h] at hld; simp at hld; omega
        have hzz := txt_b0z (rng_drop hr i) hnd
        refine jc_seq ?_; refine jc_seq ?_; refine jc_region ?_; refine jo_l (ly_mv rfl) (hd 65 rfl) ?_; refine jo_l (ly_lens und9 rfl) (hd 66 rfl) ?_; refine jo_l (ly_gt rfl rfl) (hd 67 rfl) ?_; refine jo_l (ly_mv rfl) (hd 68 rfl) ?_
        refine jo_ifp 68 rfl (fun h11 => ?_) (fun h11 => ?_)
        · refine jo_g 68 rfl rfl (ly_mv rfl) (hd 69 rfl) ?_; refine jo_g 68 rfl rfl (ly_ixs (i := 0) und9 rfl rfl (by first | rfl | omega) (by omega)) (hd 70 rfl) ?_; refine jo_g 68 rfl rfl (ly_eq rfl rfl) (hd 71 rfl) ?_; refine jo_l (ly_pick_t rfl rfl) (hd 72 rfl) ?_; refine jo_nil ?_
          refine jc_if rfl (fun h12 => ?_) (fun h12 => ?_)
          · have hz0 := hzz.1 (by assumption)
            refine jc_skip ?_; refine jc_block ?_; refine jc_region ?_; refine jo_l (ly_mv rfl) (hd 73 rfl) ?_; refine jo_l (ly_is (ly_sls und9 rfl (bnd_some' (n := 1) rfl rfl) bnd_none (by omega) (by omega)) (show V.s _ = V.s (txt (l.drop (i + 1))) by rw [txt_ext1 hnd, List.drop_drop])) (hd 74 rfl) ?_; refine jo_l (ly_as rfl) (hd 1 rfl) ?_; refine jo_nil ?_
            refine ⟨i + 1, ?_, ?_, rfl, cov_n 23 rfl rfl ?_⟩
            · exact ⟨by omega, hv_dropI (by assumption) hvi⟩
            · omega
            · exact (.cons rfl (.u (.u (.u (.u (.u (.u (.u (.u (.u (.u .nil)))))))))))
          · refine jc_exit ?_
            refine ⟨i, ?_, rfl, cov_n 20 rfl rfl ?_⟩
            · exact ⟨hi, hvi, by first | (left; omega) | (right; exact fun h => absurd (hzz.2 h) (by assumption))⟩
            · exact (.cons rfl (.u (.u (.u (.u (.u (.u (.u (.u (.u (.u .nil)))))))))))
        · refine jo_s 68 rfl rfl rfl (hd 69 rfl) ?_; refine jo_s 68 rfl rfl rfl (hd 70 rfl) ?_; refine jo_s 68 rfl rfl rfl (hd 71 rfl) ?_; refine jo_l (ly_pick_f rfl rfl) (hd 72 rfl) ?_; refine jo_nil ?_; refine jc_litf rfl ?_; refine jc_exit ?_
          refine ⟨i, ?_, rfl, cov_n 20 rfl rfl ?_⟩
          · exact ⟨hi, hvi, by first | (left; omega) | (right; exact fun h => absurd (hzz.2 h) (by assumption))⟩
          · exact (.cons rfl (.u (.u (.u (.u (.u (.u (.u (.u (.u (.u .nil)))))))))))
    · rintro i ⟨hi, hvi, hci⟩
      have hld : (l.drop i).length = l.length - i := List.length_drop ..
      have htd := txt_size (l.drop i)
      have hnd : l.drop i ≠ [] := fun h => by rw [h] at hld; simp at hld; omega
      have hcan : hdg 10 1 (hv 10 l).natAbs = l.drop i := by have h := canon (by decide) (rng_drop hr i) hnd hci; rw [hvi] at h; rw [← h]; congr 1; omega
      have hi0 := txt_is0 (rng_drop hr i)
      refine jc_seq ?_; refine jc_seq ?_; refine jc_region ?_; refine jo_l (ly_mv rfl) (hd 75 rfl) ?_; refine jo_l (ly_mv rfl) (hd 76 rfl) ?_; refine jo_s 76 rfl rfl rfl (hd 77 rfl) ?_; refine jo_s 76 rfl rfl rfl (hd 78 rfl) ?_; refine jo_l (ly_pick_f rfl rfl) (hd 79 rfl) ?_; refine jo_nil ?_; refine jc_litf rfl ?_; refine jc_skip ?_; refine jc_seq ?_; refine jc_region ?_; refine jo_l (ly_lda agg30 rfl rfl rfl rfl) (hd 82 rfl) ?_
      refine jo_call Try.f39 (hPw) rfl Try.func39 rfl rfl (ovL_cons rfl ovL_nil) (.cons (.a1 .b (.a1 .n .a0)) .nil) (hd 83 rfl) ?_ (fun ch hp => by simp at hp)
      rintro y hy; injection hy with hy; subst hy; refine jo_l (ly_mv rfl) (hd 84 rfl) ?_; refine jo_l (ly_tt (ly_eqS rfl rfl) (by first | exact wtxt_nn hv0 hcan | exact wtxt_m1 hv0 hcan (by assumption) | exact wtxt_m0 hv0 hcan hi0 (by assumption))) (hd 85 rfl) ?_; refine jo_l (ly_mv rfl) (hd 86 rfl) ?_
      refine jo_callg Try.f43 86 rfl rfl (awake_s) rfl Try.func43 rfl rfl ovL_nil .nil (hd 87 rfl) ?_ (fun ch hp => by simp at hp)
      rintro y hy; injection hy with hy; subst hy; refine jo_l (ly_pick_t rfl rfl) (hd 88 rfl) ?_; refine jo_l (ly_as rfl) (hd 4 rfl) ?_; refine jo_nil ?_; refine jc_ret ?_
      refine ⟨_, _, (.cons rfl .nil), .b, ?_⟩
      exact rfl

set_option maxHeartbeats 4000000 in
theorem WholeBack_n (sa : Bool) (a : List Int) (l : List Int) (hr : rng 10 l) (h0 : l ≠ []) (hl : l.length ≤ 1048575) (ha : a.length ≤ 1048574) (ua : u64s a) : Spec Try.prog 11 [.a [.b sa, .n false .u64 a], .s (txt l)] (fun o => o = .ret (.b true)) := by
  refine spec_of' [(0, .a [.b sa, .n false .u64 a]), (1, .s (txt l))] rfl Try.func11 rfl (Nat.le_of_ble_eq_true rfl) fun Γ hN hds hL hR => ?_
  have hd : ∀ d, Nat.blt d 89 = true → d < Γ.N := fun d h => by rw [hN]; exact Nat.le_of_ble_eq_true h
  have hlv : lenV (sv sa a) ≤ 67108864 := by have := lenV_64 (s := sa) ua; omega
  have hlmv := lenV_lm hlv
  have hW := WParse_w (sv sa a) hlv
  have hSm : Spec Try.prog 47 [.a [.b sa, .n false .u64 a], .a [.b (decide ((sv sa a) < 0)), .n false .u64 (lm (sv sa a))]] (fun o => o = .ret (.b true)) := by have h := same_s sa (decide ((sv sa a) < 0)) a (lm (sv sa a)) (by omega) (by omega) ua (lm_u _); rwa [sv_lm, show decide (cmpI (sv sa a) (sv sa a) = 0) = true from decide_eq_true (cmpI_0.2 rfl)] at h
  have hv0 := hv_nonneg hr
  have hv9 : lenV (hv 10 l) ≤ 67108864 := Nat.le_trans (hv_fit (by decide) (by decide) hr (by omega)) (by decide)
  have hPd := Parse_d l hr h0 (by omega) hv9
  have hlp := List.length_pos_iff.2 h0
  have hts := txt_size l
  have hb0 := txt_b0 hr h0
  have hlw : (lm (hv 10 l)).length ≤ 1048576 := lenV_lm (by exact hv9)
  have hPw : Spec Try.prog 39 [.a [.b (decide ((hv 10 l) < 0)), .n false .u64 (lm (hv 10 l))]] (fun o => o = .ret (.s (wtxt (hv 10 l)))) := by have h := WPrint_s (decide ((hv 10 l) < 0)) (lm (hv 10 l)) hlw (lm_u _); rwa [sv_lm] at h
  have hS := WParse_nk (txt l) (by omega) (by omega) (by omega) (by omega) (hv 10 l) hv0 hv9 hPd
  refine jc_seq ?_; refine jc_region ?_; refine jo_h (hy_box (id := 0) (n := 2) rfl rfl rfl (by decide) rfl) (hd 2 rfl) ?_; refine jo_l (ly_as rfl) (hd 4 rfl) ?_; refine jo_nil ?_; refine jc_seq ?_; refine jc_region ?_; refine jo_l (ly_lda agg27 rfl rfl rfl rfl) (hd 12 rfl) ?_
  refine jo_call Try.f44 (in_s sa a) rfl Try.func44 rfl rfl (ovL_cons rfl ovL_nil) (.cons (.a1 .b (.a1 .n .a0)) .nil) (hd 13 rfl) ?_ (fun ch hp => by simp at hp)
  rintro y hy; injection hy with hy; subst hy; refine jo_h (hy_alloc (id := 1) zero30 (by decide) rfl (by decide) rfl) (hd 5 rfl) ?_; refine jo_st (sy_store rfl rfl rfl siz30 rfl rfl (Nat.le_of_ble_eq_true rfl)) ?_; refine jo_nil ?_; refine jc_seq ?_; refine jc_region ?_; refine jo_l (ly_lda agg30 rfl rfl rfl rfl) (hd 14 rfl) ?_
  refine jo_call Try.f39 (WPrint_s sa a (by omega) ua) rfl Try.func39 rfl rfl (ovL_cons rfl ovL_nil) (.cons (.a1 .b (.a1 .n .a0)) .nil) (hd 15 rfl) ?_ (fun ch hp => by simp at hp)
  rintro y hy; injection hy with hy; subst hy; refine jo_l (ly_as rfl) (hd 6 rfl) ?_; refine jo_nil ?_; refine jc_seq ?_; refine jc_seq ?_; refine jc_region ?_; refine jo_l (ly_mv rfl) (hd 16 rfl) ?_; refine jo_l (ly_lens und9 rfl) (hd 17 rfl) ?_; refine jo_l (ly_le rfl rfl) (hd 18 rfl) ?_; refine jo_nil ?_
  refine jc_if rfl (fun h1 => ?_) (fun h1 => ?_)
  · have hWq := hW (by omega)
    refine jc_seq ?_; refine jc_region ?_; refine jo_l (ly_mv rfl) (hd 20 rfl) ?_
    refine jo_call Try.f38 (hWq) rfl Try.func38 rfl rfl (ovL_cons rfl ovL_nil) (.cons .s .nil) (hd 21 rfl) ?_ (fun ch hp => by simp at hp)
    rintro y hy; injection hy with hy; subst hy; refine jo_l (ly_mv rfl) (hd 19 rfl) ?_; refine jo_l (ly_ext rfl rfl) (hd 22 rfl) ?_; refine jo_l (ly_ext rfl rfl) (hd 23 rfl) ?_; refine jo_h (hy_alloc (id := 2) zero30 (by decide) rfl (by decide) rfl) (hd 7 rfl) ?_; refine jo_st (sy_store rfl rfl rfl siz30 rfl rfl (Nat.le_of_ble_eq_true rfl)) ?_; refine jo_l (ly_as rfl) (hd 8 rfl) ?_; refine jo_nil ?_; refine jc_seq ?_; refine jc_region ?_; refine jo_l (ly_mv rfl) (hd 24 rfl) ?_
    refine jo_call Try.f45 (num_s 0) rfl Try.func45 rfl rfl (ovL_cons rfl ovL_nil) (.cons .i .nil) (hd 25 rfl) ?_ (fun ch hp => by simp at hp)
    rintro y hy; injection hy with hy; subst hy; refine jo_l (ly_ff (ly_ne rfl rfl) (by decide)) (hd 26 rfl) ?_; refine jo_l (ly_mv rfl) (hd 27 rfl) ?_; refine jo_s 27 rfl rfl rfl (hd 28 rfl) ?_; refine jo_s 27 rfl rfl rfl (hd 29 rfl) ?_; refine jo_s 27 rfl rfl rfl (hd 30 rfl) ?_; refine jo_s 27 rfl rfl rfl (hd 31 rfl) ?_; refine jo_s 27 rfl rfl rfl (hd 32 rfl) ?_; refine jo_l (ly_pick_f rfl rfl) (hd 33 rfl) ?_; refine jo_l (ly_mv rfl) (hd 34 rfl) ?_; refine jo_g 34 rfl rfl (ly_mv rfl) (hd 35 rfl) ?_
    refine jo_callg Try.f45 34 rfl rfl (num_s 0) rfl Try.func45 rfl rfl (ovL_cons rfl ovL_nil) (.cons .i .nil) (hd 36 rfl) ?_ (fun ch hp => by simp at hp)
    rintro y hy; injection hy with hy; subst hy; refine jo_g 34 rfl rfl (ly_tt (ly_eq rfl rfl) (by decide)) (hd 37 rfl) ?_; refine jo_g 34 rfl rfl (ly_mv rfl) (hd 38 rfl) ?_; refine jo_g 38 rfl rfl (ly_lda agg30 rfl rfl rfl rfl) (hd 39 rfl) ?_; refine jo_g 38 rfl rfl (ly_lda agg30 rfl rfl rfl rfl) (hd 40 rfl) ?_
    refine jo_callg Try.f47 38 rfl rfl (hSm) rfl Try.func47 rfl rfl (ovL_cons rfl (ovL_cons rfl ovL_nil)) (.cons (.a1 .b (.a1 .n .a0)) (.cons (.a1 .b (.a1 .n .a0)) .nil)) (hd 41 rfl) ?_ (fun ch hp => by simp at hp)
    rintro y hy; injection hy with hy; subst hy; refine jo_g 38 rfl rfl (ly_not rfl) (hd 42 rfl) ?_; refine jo_g 34 rfl rfl (ly_pick_t rfl rfl) (hd 43 rfl) ?_; refine jo_l (ly_pick_f rfl rfl) (hd 44 rfl) ?_; refine jo_nil ?_; refine jc_litf rfl ?_; refine jc_skip ?_; refine jc_seq ?_; refine jc_region ?_; refine jo_l (ly_mv rfl) (hd 46 rfl) ?_
    refine jo_call Try.f38 (hS) rfl Try.func38 rfl rfl (ovL_cons rfl ovL_nil) (.cons .s .nil) (hd 47 rfl) ?_ (fun ch hp => by simp at hp)
    rintro y hy; injection hy with hy; subst hy; refine jo_l (ly_mv rfl) (hd 45 rfl) ?_; refine jo_l (ly_ext rfl rfl) (hd 48 rfl) ?_; refine jo_l (ly_ext rfl rfl) (hd 49 rfl) ?_; refine jo_h (hy_alloc (id := 3) zero30 (by decide) rfl (by decide) rfl) (hd 9 rfl) ?_; refine jo_st (sy_store rfl rfl rfl siz30 rfl rfl (Nat.le_of_ble_eq_true rfl)) ?_; refine jo_l (ly_as rfl) (hd 10 rfl) ?_; refine jo_nil ?_; refine jc_seq ?_; refine jc_seq ?_; refine jc_region ?_; refine jo_l (ly_mv rfl) (hd 50 rfl) ?_
    refine jo_call Try.f45 (num_s 0) rfl Try.func45 rfl rfl (ovL_cons rfl ovL_nil) (.cons .i .nil) (hd 51 rfl) ?_ (fun ch hp => by simp at hp)
    rintro y hy; injection hy with hy; subst hy; refine jo_l (ly_ff (ly_ne rfl rfl) (by decide)) (hd 52 rfl) ?_; refine jo_nil ?_; refine jc_litf rfl ?_; refine jc_skip ?_; refine jc_seq ?_; refine jc_region ?_; refine jo_l (ly_mv rfl) (hd 54 rfl) ?_; refine jo_l (ly_ixs (i := 0) und9 rfl rfl (by first | rfl | omega) (by omega)) (hd 55 rfl) ?_; refine jo_l (ly_ff (ly_eq rfl rfl) (by omega)) (hd 56 rfl) ?_; refine jo_l (ly_as rfl) (hd 11 rfl) ?_; refine jo_nil ?_; refine jc_seq ?_; refine jc_seq ?_; refine jc_region ?_; refine jo_l (ly_mv rfl) (hd 57 rfl) ?_; refine jo_l (ly_mv rfl) (hd 58 rfl) ?_; refine jo_g 58 rfl rfl (ly_mv rfl) (hd 59 rfl) ?_; refine jo_g 58 rfl rfl (ly_ixs (i := 0) und9 rfl rfl (by first | rfl | omega) (by omega)) (hd 60 rfl) ?_; refine jo_g 58 rfl rfl (ly_ff (ly_eq rfl rfl) (by omega)) (hd 61 rfl) ?_; refine jo_l (ly_pick_f rfl rfl) (hd 62 rfl) ?_; refine jo_nil ?_; refine jc_litf rfl ?_; refine jc_skip ?_
    refine jc_meetH (G := Nat) (fun i => i < l.length ∧ hv 10 (l.drop i) = hv 10 l ∧ ((l.drop i).length = 1 ∨ (l.drop i).getD 0 0 ≠ 0)) (fun i => [(1, .s (txt (l.drop i))), (65, .u), (66, .u), (67, .u), (68, .u), (69, .u), (70, .u), (71, .u), (72, .u), (73, .u), (74, .u)]) ?_ ?_
    · refine jc_block ?_
      refine jc_loopF (G := Nat) (fun i => i < l.length ∧ hv 10 (l.drop i) = hv 10 l) (fun i => [(1, .s (txt (l.drop i))), (65, .u), (66, .u), (67, .u), (68, .u), (69, .u), (70, .u), (71, .u), (72, .u), (73, .u), (74, .u)]) (fun _ => _) (fun i => l.length - i) 0 ?_ ?_ rfl ?_
      · exact ⟨hlp, rfl⟩
      · exact (.cons (by show some (V.s _) = some (V.s _); rfl) (.u (.u (.u (.u (.u (.u (.u (.u (.u (.u .nil)))))))))))
      · rintro i ⟨hi, hvi⟩
        have hld : (l.drop i).length = l.length - i := List.length_drop ..
        have htd := txt_size (l.drop i)
        have hnd : l.drop i ≠ [] := fun h => by rw [h] at hld; simp at hld; omega
        have hzz := txt_b0z (rng_drop hr i) hnd
        refine jc_seq ?_; refine jc_seq ?_; refine jc_region ?_; refine jo_l (ly_mv rfl) (hd 65 rfl) ?_; refine jo_l (ly_lens und9 rfl) (hd 66 rfl) ?_; refine jo_l (ly_gt rfl rfl) (hd 67 rfl) ?_; refine jo_l (ly_mv rfl) (hd 68 rfl) ?_
        refine jo_ifp 68 rfl (fun h5 => ?_) (fun h5 => ?_)
        · refine jo_g 68 rfl rfl (ly_mv rfl) (hd 69 rfl) ?_; refine jo_g 68 rfl rfl (ly_ixs (i := 0) und9 rfl rfl (by first | rfl | omega) (by omega)) (hd 70 rfl) ?_; refine jo_g 68 rfl rfl (ly_eq rfl rfl) (hd 71 rfl) ?_; refine jo_l (ly_pick_t rfl rfl) (hd 72 rfl) ?_; refine jo_nil ?_
          refine jc_if rfl (fun h6 => ?_) (fun h6 => ?_)
          · have hz0 := hzz.1 (by assumption)
            refine jc_skip ?_; refine jc_block ?_; refine jc_region ?_; refine jo_l (ly_mv rfl) (hd 73 rfl) ?_; refine jo_l (ly_is (ly_sls und9 rfl (bnd_some' (n := 1) rfl rfl) bnd_none (by omega) (by omega)) (show V.s _ = V.s (txt (l.drop (i + 1))) by rw [txt_ext1 hnd, List.drop_drop])) (hd 74 rfl) ?_; refine jo_l (ly_as rfl) (hd 1 rfl) ?_; refine jo_nil ?_
            refine ⟨i + 1, ?_, ?_, rfl, cov_n 23 rfl rfl ?_⟩
            · exact ⟨by omega, hv_dropI (by assumption) hvi⟩
            · omega
            · exact (.cons rfl (.u (.u (.u (.u (.u (.u (.u (.u (.u (.u .nil)))))))))))
          · refine jc_exit ?_
            refine ⟨i, ?_, rfl, cov_n 20 rfl rfl ?_⟩
            · exact ⟨hi, hvi, by first | (left; omega) | (right; exact fun h => absurd (hzz.2 h) (by assumption))⟩
            · exact (.cons rfl (.u (.u (.u (.u (.u (.u (.u (.u (.u (.u .nil)))))))))))
        · refine jo_s 68 rfl rfl rfl (hd 69 rfl) ?_; refine jo_s 68 rfl rfl rfl (hd 70 rfl) ?_; refine jo_s 68 rfl rfl rfl (hd 71 rfl) ?_; refine jo_l (ly_pick_f rfl rfl) (hd 72 rfl) ?_; refine jo_nil ?_; refine jc_litf rfl ?_; refine jc_exit ?_
          refine ⟨i, ?_, rfl, cov_n 20 rfl rfl ?_⟩
          · exact ⟨hi, hvi, by first | (left; omega) | (right; exact fun h => absurd (hzz.2 h) (by assumption))⟩
          · exact (.cons rfl (.u (.u (.u (.u (.u (.u (.u (.u (.u (.u .nil)))))))))))
    · rintro i ⟨hi, hvi, hci⟩
      have hld : (l.drop i).length = l.length - i := List.length_drop ..
      have htd := txt_size (l.drop i)
      have hnd : l.drop i ≠ [] := fun h => by rw [h] at hld; simp at hld; omega
      have hcan : hdg 10 1 (hv 10 l).natAbs = l.drop i := by have h := canon (by decide) (rng_drop hr i) hnd hci; rw [hvi] at h; rw [← h]; congr 1; omega
      have hi0 := txt_is0 (rng_drop hr i)
      refine jc_seq ?_; refine jc_seq ?_; refine jc_region ?_; refine jo_l (ly_mv rfl) (hd 75 rfl) ?_; refine jo_l (ly_mv rfl) (hd 76 rfl) ?_; refine jo_s 76 rfl rfl rfl (hd 77 rfl) ?_; refine jo_s 76 rfl rfl rfl (hd 78 rfl) ?_; refine jo_l (ly_pick_f rfl rfl) (hd 79 rfl) ?_; refine jo_nil ?_; refine jc_litf rfl ?_; refine jc_skip ?_; refine jc_seq ?_; refine jc_region ?_; refine jo_l (ly_lda agg30 rfl rfl rfl rfl) (hd 82 rfl) ?_
      refine jo_call Try.f39 (hPw) rfl Try.func39 rfl rfl (ovL_cons rfl ovL_nil) (.cons (.a1 .b (.a1 .n .a0)) .nil) (hd 83 rfl) ?_ (fun ch hp => by simp at hp)
      rintro y hy; injection hy with hy; subst hy; refine jo_l (ly_mv rfl) (hd 84 rfl) ?_; refine jo_l (ly_tt (ly_eqS rfl rfl) (by first | exact wtxt_nn hv0 hcan | exact wtxt_m1 hv0 hcan (by assumption) | exact wtxt_m0 hv0 hcan hi0 (by assumption))) (hd 85 rfl) ?_; refine jo_l (ly_mv rfl) (hd 86 rfl) ?_
      refine jo_callg Try.f43 86 rfl rfl (awake_s) rfl Try.func43 rfl rfl ovL_nil .nil (hd 87 rfl) ?_ (fun ch hp => by simp at hp)
      rintro y hy; injection hy with hy; subst hy; refine jo_l (ly_pick_t rfl rfl) (hd 88 rfl) ?_; refine jo_l (ly_as rfl) (hd 4 rfl) ?_; refine jo_nil ?_; refine jc_ret ?_
      refine ⟨_, _, (.cons rfl .nil), .b, ?_⟩
      exact rfl
  · refine jc_skip ?_; refine jc_seq ?_; refine jc_region ?_; refine jo_l (ly_mv rfl) (hd 46 rfl) ?_
    refine jo_call Try.f38 (hS) rfl Try.func38 rfl rfl (ovL_cons rfl ovL_nil) (.cons .s .nil) (hd 47 rfl) ?_ (fun ch hp => by simp at hp)
    rintro y hy; injection hy with hy; subst hy; refine jo_l (ly_mv rfl) (hd 45 rfl) ?_; refine jo_l (ly_ext rfl rfl) (hd 48 rfl) ?_; refine jo_l (ly_ext rfl rfl) (hd 49 rfl) ?_; refine jo_h (hy_alloc (id := 2) zero30 (by decide) rfl (by decide) rfl) (hd 9 rfl) ?_; refine jo_st (sy_store rfl rfl rfl siz30 rfl rfl (Nat.le_of_ble_eq_true rfl)) ?_; refine jo_l (ly_as rfl) (hd 10 rfl) ?_; refine jo_nil ?_; refine jc_seq ?_; refine jc_seq ?_; refine jc_region ?_; refine jo_l (ly_mv rfl) (hd 50 rfl) ?_
    refine jo_call Try.f45 (num_s 0) rfl Try.func45 rfl rfl (ovL_cons rfl ovL_nil) (.cons .i .nil) (hd 51 rfl) ?_ (fun ch hp => by simp at hp)
    rintro y hy; injection hy with hy; subst hy; refine jo_l (ly_ff (ly_ne rfl rfl) (by decide)) (hd 52 rfl) ?_; refine jo_nil ?_; refine jc_litf rfl ?_; refine jc_skip ?_; refine jc_seq ?_; refine jc_region ?_; refine jo_l (ly_mv rfl) (hd 54 rfl) ?_; refine jo_l (ly_ixs (i := 0) und9 rfl rfl (by first | rfl | omega) (by omega)) (hd 55 rfl) ?_; refine jo_l (ly_ff (ly_eq rfl rfl) (by omega)) (hd 56 rfl) ?_; refine jo_l (ly_as rfl) (hd 11 rfl) ?_; refine jo_nil ?_; refine jc_seq ?_; refine jc_seq ?_; refine jc_region ?_; refine jo_l (ly_mv rfl) (hd 57 rfl) ?_; refine jo_l (ly_mv rfl) (hd 58 rfl) ?_; refine jo_g 58 rfl rfl (ly_mv rfl) (hd 59 rfl) ?_; refine jo_g 58 rfl rfl (ly_ixs (i := 0) und9 rfl rfl (by first | rfl | omega) (by omega)) (hd 60 rfl) ?_; refine jo_g 58 rfl rfl (ly_ff (ly_eq rfl rfl) (by omega)) (hd 61 rfl) ?_; refine jo_l (ly_pick_f rfl rfl) (hd 62 rfl) ?_; refine jo_nil ?_; refine jc_litf rfl ?_; refine jc_skip ?_
    refine jc_meetH (G := Nat) (fun i => i < l.length ∧ hv 10 (l.drop i) = hv 10 l ∧ ((l.drop i).length = 1 ∨ (l.drop i).getD 0 0 ≠ 0)) (fun i => [(1, .s (txt (l.drop i))), (65, .u), (66, .u), (67, .u), (68, .u), (69, .u), (70, .u), (71, .u), (72, .u), (73, .u), (74, .u)]) ?_ ?_
    · refine jc_block ?_
      refine jc_loopF (G := Nat) (fun i => i < l.length ∧ hv 10 (l.drop i) = hv 10 l) (fun i => [(1, .s (txt (l.drop i))), (65, .u), (66, .u), (67, .u), (68, .u), (69, .u), (70, .u), (71, .u), (72, .u), (73, .u), (74, .u)]) (fun _ => _) (fun i => l.length - i) 0 ?_ ?_ rfl ?_
      · exact ⟨hlp, rfl⟩
      · exact (.cons (by show some (V.s _) = some (V.s _); rfl) (.u (.u (.u (.u (.u (.u (.u (.u (.u (.u .nil)))))))))))
      · rintro i ⟨hi, hvi⟩
        have hld : (l.drop i).length = l.length - i := List.length_drop ..
        have htd := txt_size (l.drop i)
        have hnd : l.drop i ≠ [] := fun h => by rw [h] at hld; simp at hld; omega
        have hzz := txt_b0z (rng_drop hr i) hnd
        refine jc_seq ?_; refine jc_seq ?_; refine jc_region ?_; refine jo_l (ly_mv rfl) (hd 65 rfl) ?_; refine jo_l (ly_lens und9 rfl) (hd 66 rfl) ?_; refine jo_l (ly_gt rfl rfl) (hd 67 rfl) ?_; refine jo_l (ly_mv rfl) (hd 68 rfl) ?_
        refine jo_ifp 68 rfl (fun h11 => ?_) (fun h11 => ?_)
        · refine jo_g 68 rfl rfl (ly_mv rfl) (hd 69 rfl) ?_; refine jo_g 68 rfl rfl (ly_ixs (i := 0) und9 rfl rfl (by first | rfl | omega) (by omega)) (hd 70 rfl) ?_; refine jo_g 68 rfl rfl (ly_eq rfl rfl) (hd 71 rfl) ?_; refine jo_l (ly_pick_t rfl rfl) (hd 72 rfl) ?_; refine jo_nil ?_
          refine jc_if rfl (fun h12 => ?_) (fun h12 => ?_)
          · have hz0 := hzz.1 (by assumption)
            refine jc_skip ?_; refine jc_block ?_; refine jc_region ?_; refine jo_l (ly_mv rfl) (hd 73 rfl) ?_; refine jo_l (ly_is (ly_sls und9 rfl (bnd_some' (n := 1) rfl rfl) bnd_none (by omega) (by omega)) (show V.s _ = V.s (txt (l.drop (i + 1))) by rw [txt_ext1 hnd, List.drop_drop])) (hd 74 rfl) ?_; refine jo_l (ly_as rfl) (hd 1 rfl) ?_; refine jo_nil ?_
            refine ⟨i + 1, ?_, ?_, rfl, cov_n 23 rfl rfl ?_⟩
            · exact ⟨by omega, hv_dropI (by assumption) hvi⟩
            · omega
            · exact (.cons rfl (.u (.u (.u (.u (.u (.u (.u (.u (.u (.u .nil)))))))))))
          · refine jc_exit ?_
            refine ⟨i, ?_, rfl, cov_n 20 rfl rfl ?_⟩
            · exact ⟨hi, hvi, by first | (left; omega) | (right; exact fun h => absurd (hzz.2 h) (by assumption))⟩
            · exact (.cons rfl (.u (.u (.u (.u (.u (.u (.u (.u (.u (.u .nil)))))))))))
        · refine jo_s 68 rfl rfl rfl (hd 69 rfl) ?_; refine jo_s 68 rfl rfl rfl (hd 70 rfl) ?_; refine jo_s 68 rfl rfl rfl (hd 71 rfl) ?_; refine jo_l (ly_pick_f rfl rfl) (hd 72 rfl) ?_; refine jo_nil ?_; refine jc_litf rfl ?_; refine jc_exit ?_
          refine ⟨i, ?_, rfl, cov_n 20 rfl rfl ?_⟩
          · exact ⟨hi, hvi, by first | (left; omega) | (right; exact fun h => absurd (hzz.2 h) (by assumption))⟩
          · exact (.cons rfl (.u (.u (.u (.u (.u (.u (.u (.u (.u (.u .nil)))))))))))
    · rintro i ⟨hi, hvi, hci⟩
      have hld : (l.drop i).length = l.length - i := List.length_drop ..
      have htd := txt_size (l.drop i)
      have hnd : l.drop i ≠ [] := fun h => by rw [h] at hld; simp at hld; omega
      have hcan : hdg 10 1 (hv 10 l).natAbs = l.drop i := by have h := canon (by decide) (rng_drop hr i) hnd hci; rw [hvi] at h; rw [← h]; congr 1; omega
      have hi0 := txt_is0 (rng_drop hr i)
      refine jc_seq ?_; refine jc_seq ?_; refine jc_region ?_; refine jo_l (ly_mv rfl) (hd 75 rfl) ?_; refine jo_l (ly_mv rfl) (hd 76 rfl) ?_; refine jo_s 76 rfl rfl rfl (hd 77 rfl) ?_; refine jo_s 76 rfl rfl rfl (hd 78 rfl) ?_; refine jo_l (ly_pick_f rfl rfl) (hd 79 rfl) ?_; refine jo_nil ?_; refine jc_litf rfl ?_; refine jc_skip ?_; refine jc_seq ?_; refine jc_region ?_; refine jo_l (ly_lda agg30 rfl rfl rfl rfl) (hd 82 rfl) ?_
      refine jo_call Try.f39 (hPw) rfl Try.func39 rfl rfl (ovL_cons rfl ovL_nil) (.cons (.a1 .b (.a1 .n .a0)) .nil) (hd 83 rfl) ?_ (fun ch hp => by simp at hp)
      rintro y hy; injection hy with hy; subst hy; refine jo_l (ly_mv rfl) (hd 84 rfl) ?_; refine jo_l (ly_tt (ly_eqS rfl rfl) (by first | exact wtxt_nn hv0 hcan | exact wtxt_m1 hv0 hcan (by assumption) | exact wtxt_m0 hv0 hcan hi0 (by assumption))) (hd 85 rfl) ?_; refine jo_l (ly_mv rfl) (hd 86 rfl) ?_
      refine jo_callg Try.f43 86 rfl rfl (awake_s) rfl Try.func43 rfl rfl ovL_nil .nil (hd 87 rfl) ?_ (fun ch hp => by simp at hp)
      rintro y hy; injection hy with hy; subst hy; refine jo_l (ly_pick_t rfl rfl) (hd 88 rfl) ?_; refine jo_l (ly_as rfl) (hd 4 rfl) ?_; refine jo_nil ?_; refine jc_ret ?_
      refine ⟨_, _, (.cons rfl .nil), .b, ?_⟩
      exact rfl

theorem WholeBack_s (sa : Bool) (a : List Int) (s : ByteArray) (ha : a.length ≤ 1048574) (ua : u64s a) (hs : s.size ≤ 1048575) : Spec Try.prog 11 [.a [.b sa, .n false .u64 a], .s s] (fun o => o = .ret (.b true)) := by
  by_cases h0 : s.size = 0
  · have e : s = .empty := by
      obtain ⟨⟨l⟩⟩ := s
      have h1 : l.length = 0 := h0
      have h2 := List.eq_nil_of_length_eq_zero h1
      subst h2
      rfl
    subst e
    exact WholeBack_b sa a _ (WParse_eb (by decide) (Parse_empty 10 (by decide) (by decide))) ha ua
  by_cases hm : byteAt s 0 = 45
  · have e := first_is (c := 45) h0 hm
    generalize s.extract 1 s.size = t at e
    subst e
    have hone := one_size 45 t
    rcases Parse_or t (by omega) with ⟨l, rfl, hr, hn⟩ | hP
    · have hts := txt_size l
      exact WholeBack_m sa a l hr hn (by omega) ha ua
    · exact WholeBack_b sa a _ (WParse_mb t (by omega) hP) ha ua
  by_cases hp : byteAt s 0 = 43
  · have e := first_is (c := 43) h0 hp
    generalize s.extract 1 s.size = t at e
    subst e
    have hone := one_size 43 t
    rcases Parse_or t (by omega) with ⟨l, rfl, hr, hn⟩ | hP
    · have hts := txt_size l
      exact WholeBack_p sa a l hr hn (by omega) ha ua
    · exact WholeBack_b sa a _ (WParse_pb t (by omega) hP) ha ua
  rcases Parse_or s (by omega) with ⟨l, rfl, hr, hn⟩ | hP
  · have hts := txt_size l
    exact WholeBack_n sa a l hr hn (by omega) ha ua
  · exact WholeBack_b sa a _ (WParse_nb s h0 hm hp (by omega) hP) ha ua

theorem short2s {H : Type} {d0 : DataW H} {s : ByteArray} {r : List (DataW H)} {l0 : List Int} (hk : Rows.uptoSmall H (d0 :: .lit (.string s.data.toList) :: r) = true) (h0 : l0.length + 2 ≤ Rows.uptoBulk d0) : l0.length ≤ 1048574 ∧ s.size ≤ 1048575 := by
  have h : Rows.uptoBulkAll (d0 :: .lit (.string s.data.toList) :: r) ≤ 1048576 := of_decide_eq_true hk
  have h1 : s.data.toList.length = s.size := by rw [Array.length_toList]; rfl
  simp only [Rows.uptoBulkAll, Rows.uptoBulk] at h
  omega
end Go.Proofs.Ytcfdclehmpfkcaa.Vc

/- The law WholeBack of every input of bulk at most 1048576: it returns true, and the input reads as it did. -/
namespace Go.Proofs.Ytcfdclehmpfkcaa.wholeBack
open Go Go.ChangeShapes Go.WideShapes Go.ChangeAt Go.RowKit
open Go.ChangeMaps (open_string shut_string)

theorem own : ownKnob Try.prog.godebug = none := by kernel_rfl
theorem laidOut : laidOutB Try.prog = true := by kernel_rfl
set_option maxRecDepth 100000 in
theorem lifted (os : Os) (started : os.Started) (H : Type) (enc : TypeId × Value → H) (F : Stop.Interp) :
    ReturnsInHanded {} Try.checked os 11 .any ((Rows.OpenSpec.upto Rows.wholeBackSpec).pre6 enc Try.prog Try.f11 Rows.wholeBackUptoRow.domain false) (((Rows.OpenSpec.upto Rows.wholeBackSpec).at F).post enc Try.prog Try.f11 false true false false) := by
  refine returnsInHanded_of_cond (C := Try.checked) (s := Rows.OpenSpec.upto Rows.wholeBackSpec) (k := Rows.uptoSmall) rfl own started (by kernel_rfl) Try.func11
    (OpenSpec.witness (enc := enc) (C := Try.checked) (s := Rows.OpenSpec.upto Rows.wholeBackSpec) (k := Rows.uptoSmall) rfl false ⟨#[], #[.agg #[.bool false, .slice none 0 0], .string .empty], []⟩ 8 (by kernel_rfl) (by kernel_rfl) (by kernel_rfl)
      (x := ([.agg [.lit (.bool false), .nil], .lit (.string [])], [], [])) (by kernel_rfl) rfl (by kernel_rfl)) ?_
  intro W base args ds gs before hval0 hW _ hk _
  have hval : ∀ (j : Nat) t v, Try.f11.params[j]? = some t → args[j]? = some v → Value.okWide Try.prog W .any base t v := hval0
  have hW' := hW
  obtain ⟨p, q, hA0, hV, rfl, hfz, hnd⟩ := hW
  have hA : DataW.TrodAll enc Try.prog W 0 (fun _ => true) true Try.f11.params.toList args.toList ds p := hA0
  rw [Try.params11] at hA hval
  obtain ⟨v0, vs0, d0, ds0, p0, q0, hargs, rfl, rfl, h0, r0⟩ := trodAll_cons hA
  obtain ⟨v1, vs1, d1, ds1, p1, q1, rfl, rfl, rfl, h1, r1⟩ := trodAll_cons r0
  obtain ⟨rfl, rfl, rfl⟩ := trodAll_nil r1
  obtain rfl : args = #[v0, v1] := by cases args; simp_all
  obtain ⟨rfl, rfl⟩ := trodVars_none hV
  have hk0 := h0
  obtain ⟨s0, l0, rel0, hb0, ul0⟩ := Vc.openW (hval 0 64 v0 rfl rfl) h0
  obtain ⟨a1, rfl, rfl, rfl, m1⟩ := open_string Try.underlying9 (hval 1 9 v1 rfl rfl) h1
  clear hA0 hval0
  simp only [List.append_nil] at hW' hk
  refine (Vc.spec_calls (vals := [v0, .string a1]) (Vc.WholeBack_s s0 l0 a1 (Vc.short2s hk hb0).1 ul0 (Vc.short2s hk hb0).2) W (⟨_, _, rfl, rel0, ⟨_, _, rfl, rfl, rfl⟩⟩)).mono fun e W' ⟨he, hb⟩ => ?_; subst he
  have hlt : ∀ x ∈ p0, x.block < W.heap.size := fun x hx => by simpa using hW'.lt x (by simpa using hx)
  exact ⟨_, rfl, Vc.post_of_below (pa := (p0 ++ ([] ++ []))) (pv := []) hW' (fun _ _ _ => (trodAll_cons_mk (shut_bool Try.underlying4 _) trodAll_mk0)) (fun sp hsp => (trodAll_cons_mk (Go.WideElems.Trod_stays laidOut (by kernel_rfl) (of_decide_eq_true (by kernel_rfl)) hk0 (fun x hx => hb.same (hlt x (by simp [hx]))) (fun x hx => hsp x (by simp [hx]))) (trodAll_cons_mk (shut_string Try.underlying9 m1) trodAll_mk0))) (fun _ _ => rfl) (by simp) hb⟩

theorem proved : Rows.WholeBackUptoSaid :=
  OpenClaim.holds_of_cond 11 Try.f11 rfl rfl rfl rfl rfl rfl rfl ⟨rfl, rfl, rfl, rfl, rfl⟩ rfl rfl rfl rfl rfl (by kernel_rfl) Try.func11 (by kernel_rfl)
    (of_decide_eq_true (by kernel_rfl)) (by unfold Func.isWrapper; first | (rw [if_pos (by decide +kernel)]; kernel_rfl) | (rw [if_neg (by decide +kernel)]; exact ⟨rfl, rfl⟩))
    (fun os started H enc _ F => lifted os started H enc F)
end Go.Proofs.Ytcfdclehmpfkcaa.wholeBack
