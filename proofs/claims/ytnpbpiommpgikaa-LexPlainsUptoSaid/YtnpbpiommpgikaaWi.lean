/- The contracts of the document's Lex, of surdlaw14.LexNexts. -/
import Derived.Test.YtnpbpiommpgikaaWh
set_option linter.unusedVariables false
set_option linter.unusedSimpArgs false
namespace Go.Proofs.Ytnpbpiommpgikaa.Vc
open Go Go.RowKit
theorem Lex_ok {s : ByteArray} {l : List Tok} (hs : s.size < 4294967296) (h : lexGo s 0 = (l, none)) : Spec Try.prog 14 [.s s] (fun o => o = .ret (.t [rowsV l, .i .i64 0, .i .i64 0])) := by
  have h1 := Lex_s s hs
  unfold LexV at h1
  rw [h] at h1
  exact h1
theorem Lex_bad {s : ByteArray} {l : List Tok} {p : Nat} (hs : s.size < 4294967296) (h : lexGo s 0 = (l, some p)) : Spec Try.prog 14 [.s s] (fun o => o = .ret (.t [rowsV [], .i .i64 (p : Int), .i .i64 140])) := by
  have h1 := Lex_s s hs
  unfold LexV at h1
  rw [h] at h1
  exact h1
theorem Good_ok {s : ByteArray} {l : List Tok} (hs : s.size < 4294967296) (h : lexGo s 0 = (l, none)) : Spec Try.prog 22 [.s s] (fun o => o = .ret (.t [rowsV l, .i .i64 0, .i .i64 0])) := by
  have h1 := Good_s s hs
  unfold GoodV at h1
  rw [h] at h1
  exact h1
theorem Good_bad {s : ByteArray} {l : List Tok} {p : Nat} (hs : s.size < 4294967296) (h : lexGo s 0 = (l, some p)) : Spec Try.prog 22 [.s s] (fun o => o = .ret (.t [rowsV l, .i .i64 (p : Int), .i .i64 140])) := by
  have h1 := Good_s s hs
  unfold GoodV at h1
  rw [h] at h1
  exact h1

theorem rLex_ok {s : ByteArray} {l : List Tok} (hs : s.size < 4294967296) (h : lexGo s 0 = (l, none)) : Spec Try.prog 20 [.s s] (fun o => o = .ret (.t [rowsV l, .i .i64 0, .i .i64 0])) := by
  refine spec_of' [(0, .s s)] rfl Try.func20 rfl (Nat.le_of_ble_eq_true rfl) fun Γ hN hds hL hR => ?_
  have hd : ∀ d, Nat.blt d 19 = true → d < Γ.N := fun d h => by rw [hN]; exact Nat.le_of_ble_eq_true h
  refine jc_seq ?_
  refine jc_region ?_
  refine jo_l (ly_as rfl) (hd 2 rfl) ?_
  refine jo_l (ly_as rfl) (hd 3 rfl) ?_
  refine jo_l (ly_as rfl) (hd 4 rfl) ?_
  refine jo_nil ?_
  refine jc_seq ?_
  refine jc_region ?_
  refine jo_l (ly_mv rfl) (hd 9 rfl) ?_
  refine jo_call Try.f22 (Good_ok hs h) rfl Try.func22 rfl rfl (ovL_cons rfl ovL_nil) (.cons .s .nil) (hd 10 rfl) ?_ (fun ch hp => by simp at hp)
  rintro y hy; injection hy with hy; subst hy
  refine jo_l (ly_mv rfl) (hd 8 rfl) ?_
  refine jo_l (ly_ext rfl rfl) (hd 11 rfl) ?_
  refine jo_l (ly_ext rfl rfl) (hd 12 rfl) ?_
  refine jo_l (ly_ext rfl rfl) (hd 13 rfl) ?_
  refine jo_l (ly_as rfl) (hd 5 rfl) ?_
  refine jo_l (ly_as rfl) (hd 6 rfl) ?_
  refine jo_l (ly_as rfl) (hd 7 rfl) ?_
  refine jo_nil ?_
  refine jc_seq ?_
  refine jc_seq ?_
  refine jc_region ?_
  refine jo_l (ly_mv rfl) (hd 14 rfl) ?_
  refine jo_l (ly_ff (ly_ne rfl rfl) (by decide)) (hd 15 rfl) ?_
  refine jo_nil ?_
  refine jc_litf rfl ?_
  refine jc_skip ?_
  refine jc_seq ?_
  refine jc_region ?_
  refine jo_l (ly_mv rfl) (hd 18 rfl) ?_
  refine jo_l (ly_as rfl) (hd 2 rfl) ?_
  refine jo_l (ly_as rfl) (hd 3 rfl) ?_
  refine jo_l (ly_as rfl) (hd 4 rfl) ?_
  refine jo_nil ?_
  refine jc_ret ?_
  refine ⟨_, _, (.cons rfl (.cons rfl (.cons rfl .nil))), (.t1 .l (.t1 .i (.t1 .i .t0))), ?_⟩
  exact rfl

theorem rLex_bad {s : ByteArray} {l : List Tok} {p : Nat} (hs : s.size < 4294967296) (h : lexGo s 0 = (l, some p)) : Spec Try.prog 20 [.s s] (fun o => o = .ret (.t [rowsV [], .i .i64 (p : Int), .i .i64 140])) := by
  refine spec_of' [(0, .s s)] rfl Try.func20 rfl (Nat.le_of_ble_eq_true rfl) fun Γ hN hds hL hR => ?_
  have hd : ∀ d, Nat.blt d 19 = true → d < Γ.N := fun d h => by rw [hN]; exact Nat.le_of_ble_eq_true h
  refine jc_seq ?_
  refine jc_region ?_
  refine jo_l (ly_as rfl) (hd 2 rfl) ?_
  refine jo_l (ly_as rfl) (hd 3 rfl) ?_
  refine jo_l (ly_as rfl) (hd 4 rfl) ?_
  refine jo_nil ?_
  refine jc_seq ?_
  refine jc_region ?_
  refine jo_l (ly_mv rfl) (hd 9 rfl) ?_
  refine jo_call Try.f22 (Good_bad hs h) rfl Try.func22 rfl rfl (ovL_cons rfl ovL_nil) (.cons .s .nil) (hd 10 rfl) ?_ (fun ch hp => by simp at hp)
  rintro y hy; injection hy with hy; subst hy
  refine jo_l (ly_mv rfl) (hd 8 rfl) ?_
  refine jo_l (ly_ext rfl rfl) (hd 11 rfl) ?_
  refine jo_l (ly_ext rfl rfl) (hd 12 rfl) ?_
  refine jo_l (ly_ext rfl rfl) (hd 13 rfl) ?_
  refine jo_l (ly_as rfl) (hd 5 rfl) ?_
  refine jo_l (ly_as rfl) (hd 6 rfl) ?_
  refine jo_l (ly_as rfl) (hd 7 rfl) ?_
  refine jo_nil ?_
  refine jc_seq ?_
  refine jc_seq ?_
  refine jc_region ?_
  refine jo_l (ly_mv rfl) (hd 14 rfl) ?_
  refine jo_l (ly_tt (ly_ne rfl rfl) (by decide)) (hd 15 rfl) ?_
  refine jo_nil ?_
  refine jc_litt rfl ?_
  refine jc_seq ?_
  refine jc_region ?_
  refine jo_l (ly_mv rfl) (hd 16 rfl) ?_
  refine jo_l (ly_mv rfl) (hd 17 rfl) ?_
  refine jo_l (ly_as rfl) (hd 2 rfl) ?_
  refine jo_l (ly_as rfl) (hd 3 rfl) ?_
  refine jo_l (ly_as rfl) (hd 4 rfl) ?_
  refine jo_nil ?_
  refine jc_ret ?_
  refine ⟨_, _, (.cons rfl (.cons rfl (.cons rfl .nil))), (.t1 (.nill (fr := true) (sz := 3)) (.t1 .i (.t1 .i .t0))), ?_⟩
  exact rfl

theorem LexNexts_bad {s : ByteArray} {q : Int} (hs : s.size < 4294967296) (hq : q < 0 ∨ (s.size : Int) < q) : Spec Try.prog 6 [.s s, .i .i64 q] (fun o => o = .ret (.b true)) := by
  refine spec_of' [(0, .s s), (1, .i .i64 q)] rfl Try.func6 rfl (Nat.le_of_ble_eq_true rfl) fun Γ hN hds hL hR => ?_
  have hd : ∀ d, Nat.blt d 65 = true → d < Γ.N := fun d h => by rw [hN]; exact Nat.le_of_ble_eq_true h
  have r1 : Spec Try.prog 17 [.s s, .i .i64 q] (fun o => o = .ret (.t [tok0, .i .i64 0, .i .i64 1])) := by
    have h1 := Next_s s q hs
    rw [NextV_bad hq] at h1
    exact h1
  refine jc_seq ?_
  refine jc_region ?_
  refine jo_l (ly_as rfl) (hd 4 rfl) ?_
  refine jo_nil ?_
  refine jc_seq ?_
  refine jc_region ?_
  refine jo_l (ly_mv rfl) (hd 12 rfl) ?_
  refine jo_l (ly_mv rfl) (hd 13 rfl) ?_
  refine jo_call Try.f17 (r1) rfl Try.func17 rfl rfl (ovL_cons rfl (ovL_cons rfl ovL_nil)) (.cons .s (.cons .i .nil)) (hd 14 rfl) ?_ (fun ch hp => by simp at hp)
  rintro y hy; injection hy with hy; subst hy
  refine jo_l (ly_mv rfl) (hd 11 rfl) ?_
  refine jo_l (ly_ext rfl rfl) (hd 15 rfl) ?_
  refine jo_l (ly_ext rfl rfl) (hd 16 rfl) ?_
  refine jo_l (ly_ext rfl rfl) (hd 17 rfl) ?_
  refine jo_h (hy_alloc (id := 0) zero30 (by decide) rfl (by decide) rfl) (hd 5 rfl) ?_
  refine jo_st (sy_store rfl rfl rfl siz30 rfl rfl (Nat.le_of_ble_eq_true rfl)) ?_
  refine jo_l (ly_as rfl) (hd 6 rfl) ?_
  refine jo_l (ly_as rfl) (hd 7 rfl) ?_
  refine jo_nil ?_
  refine jc_seq ?_
  refine jc_seq ?_
  refine jc_region ?_
  refine jo_l (ly_mv rfl) (hd 18 rfl) ?_
  refine jo_l (ly_lt rfl rfl) (hd 19 rfl) ?_
  refine jo_l (ly_mv rfl) (hd 20 rfl) ?_
  refine jo_ifp 20 rfl (fun h1 => ?_) (fun h1 => ?_)
  · refine jo_s 20 rfl rfl rfl (hd 21 rfl) ?_
    refine jo_s 20 rfl rfl rfl (hd 22 rfl) ?_
    refine jo_s 20 rfl rfl rfl (hd 23 rfl) ?_
    refine jo_s 20 rfl rfl rfl (hd 24 rfl) ?_
    refine jo_l (ly_pick_t rfl rfl) (hd 25 rfl) ?_
    refine jo_nil ?_
    refine jc_litt rfl ?_
    refine jc_seq ?_
    refine jc_region ?_
    refine jo_l (ly_mv rfl) (hd 26 rfl) ?_
    refine jo_call Try.f12 (num_s 1) rfl Try.func12 rfl rfl (ovL_cons rfl ovL_nil) (.cons .i .nil) (hd 27 rfl) ?_ (fun ch hp => by simp at hp)
    rintro y hy; injection hy with hy; subst hy
    refine jo_l (ly_tt (ly_eq rfl rfl) rfl) (hd 28 rfl) ?_
    refine jo_l (ly_mv rfl) (hd 29 rfl) ?_
    refine jo_g 29 rfl rfl (ly_mv rfl) (hd 30 rfl) ?_
    refine jo_g 29 rfl rfl (ly_tt (ly_eq rfl rfl) rfl) (hd 31 rfl) ?_
    refine jo_l (ly_pick_t rfl rfl) (hd 32 rfl) ?_
    refine jo_l (ly_mv rfl) (hd 33 rfl) ?_
    refine jo_g 33 rfl rfl (ly_lda agg30 rfl rfl rfl rfl) (hd 34 rfl) ?_
    refine jo_g 33 rfl rfl (ly_build (is := []) (xs := []) (pls := []) zero40 pls40_ rfl ovL_nil rfl trivial (all_of rfl) rfl) (hd 35 rfl) ?_
    refine jo_callg Try.f18 33 rfl rfl (one_same 0 .empty 0) rfl Try.func18 rfl rfl (ovL_cons rfl (ovL_cons rfl ovL_nil)) (.cons (.a1 .i (.a1 .s (.a1 .i .a0))) (.cons (.a1 .i (.a1 .s (.a1 .i .a0))) .nil)) (hd 36 rfl) ?_ (fun ch hp => by simp at hp)
    rintro y hy; injection hy with hy; subst hy
    refine jo_l (ly_pick_t rfl rfl) (hd 37 rfl) ?_
    refine jo_l (ly_mv rfl) (hd 38 rfl) ?_
    refine jo_callg Try.f13 38 rfl rfl (awake_s) rfl Try.func13 rfl rfl ovL_nil .nil (hd 39 rfl) ?_ (fun ch hp => by simp at hp)
    rintro y hy; injection hy with hy; subst hy
    refine jo_l (ly_pick_t rfl rfl) (hd 40 rfl) ?_
    refine jo_l (ly_as rfl) (hd 4 rfl) ?_
    refine jo_nil ?_
    refine jc_ret ?_
    refine ⟨_, _, (.cons rfl .nil), .b, ?_⟩
    exact rfl
  · refine jo_g 20 rfl rfl (ly_mv rfl) (hd 21 rfl) ?_
    refine jo_g 20 rfl rfl (ly_mv rfl) (hd 22 rfl) ?_
    refine jo_g 20 rfl rfl (ly_lens und9 rfl) (hd 23 rfl) ?_
    refine jo_g 20 rfl rfl (ly_tt (ly_gt rfl rfl) (by omega)) (hd 24 rfl) ?_
    refine jo_l (ly_pick_f rfl rfl) (hd 25 rfl) ?_
    refine jo_nil ?_
    refine jc_litt rfl ?_
    refine jc_seq ?_
    refine jc_region ?_
    refine jo_l (ly_mv rfl) (hd 26 rfl) ?_
    refine jo_call Try.f12 (num_s 1) rfl Try.func12 rfl rfl (ovL_cons rfl ovL_nil) (.cons .i .nil) (hd 27 rfl) ?_ (fun ch hp => by simp at hp)
    rintro y hy; injection hy with hy; subst hy
    refine jo_l (ly_tt (ly_eq rfl rfl) rfl) (hd 28 rfl) ?_
    refine jo_l (ly_mv rfl) (hd 29 rfl) ?_
    refine jo_g 29 rfl rfl (ly_mv rfl) (hd 30 rfl) ?_
    refine jo_g 29 rfl rfl (ly_tt (ly_eq rfl rfl) rfl) (hd 31 rfl) ?_
    refine jo_l (ly_pick_t rfl rfl) (hd 32 rfl) ?_
    refine jo_l (ly_mv rfl) (hd 33 rfl) ?_
    refine jo_g 33 rfl rfl (ly_lda agg30 rfl rfl rfl rfl) (hd 34 rfl) ?_
    refine jo_g 33 rfl rfl (ly_build (is := []) (xs := []) (pls := []) zero40 pls40_ rfl ovL_nil rfl trivial (all_of rfl) rfl) (hd 35 rfl) ?_
    refine jo_callg Try.f18 33 rfl rfl (one_same 0 .empty 0) rfl Try.func18 rfl rfl (ovL_cons rfl (ovL_cons rfl ovL_nil)) (.cons (.a1 .i (.a1 .s (.a1 .i .a0))) (.cons (.a1 .i (.a1 .s (.a1 .i .a0))) .nil)) (hd 36 rfl) ?_ (fun ch hp => by simp at hp)
    rintro y hy; injection hy with hy; subst hy
    refine jo_l (ly_pick_t rfl rfl) (hd 37 rfl) ?_
    refine jo_l (ly_mv rfl) (hd 38 rfl) ?_
    refine jo_callg Try.f13 38 rfl rfl (awake_s) rfl Try.func13 rfl rfl ovL_nil .nil (hd 39 rfl) ?_ (fun ch hp => by simp at hp)
    rintro y hy; injection hy with hy; subst hy
    refine jo_l (ly_pick_t rfl rfl) (hd 40 rfl) ?_
    refine jo_l (ly_as rfl) (hd 4 rfl) ?_
    refine jo_nil ?_
    refine jc_ret ?_
    refine ⟨_, _, (.cons rfl .nil), .b, ?_⟩
    exact rfl

theorem LexNexts_ok {s : ByteArray} {p : Nat} {k : Int} {t : ByteArray} {pl e : Nat} (hs : s.size < 4294967296) (hp : p ≤ s.size) (h : nx s p = (k, t, pl, e, true)) : Spec Try.prog 6 [.s s, .i .i64 (p : Int)] (fun o => o = .ret (.b true)) := by
  refine spec_of' [(0, .s s), (1, .i .i64 (p : Int))] rfl Try.func6 rfl (Nat.le_of_ble_eq_true rfl) fun Γ hN hds hL hR => ?_
  have hd : ∀ d, Nat.blt d 65 = true → d < Γ.N := fun d h => by rw [hN]; exact Nat.le_of_ble_eq_true h
  have r1 : Spec Try.prog 17 [.s s, .i .i64 (p : Int)] (fun o => o = .ret (.t [.a [.i .i64 k, .s t, .i .i64 (pl : Int)], .i .i64 (e : Int), .i .i64 0])) := by
    have h1 := Next_s s p hs
    rw [NextV_ok hp h] at h1
    exact h1
  have r2 : Spec Try.prog 19 [.s s, .i .i64 (p : Int)] (fun o => o = .ret (.t [.a [.i .i64 k, .s t, .i .i64 (pl : Int)], .i .i64 (e : Int), .i .i64 0])) := by
    have h1 := refNext_s s p hp hs
    rw [h] at h1
    exact h1
  refine jc_seq ?_
  refine jc_region ?_
  refine jo_l (ly_as rfl) (hd 4 rfl) ?_
  refine jo_nil ?_
  refine jc_seq ?_
  refine jc_region ?_
  refine jo_l (ly_mv rfl) (hd 12 rfl) ?_
  refine jo_l (ly_mv rfl) (hd 13 rfl) ?_
  refine jo_call Try.f17 (r1) rfl Try.func17 rfl rfl (ovL_cons rfl (ovL_cons rfl ovL_nil)) (.cons .s (.cons .i .nil)) (hd 14 rfl) ?_ (fun ch hp => by simp at hp)
  rintro y hy; injection hy with hy; subst hy
  refine jo_l (ly_mv rfl) (hd 11 rfl) ?_
  refine jo_l (ly_ext rfl rfl) (hd 15 rfl) ?_
  refine jo_l (ly_ext rfl rfl) (hd 16 rfl) ?_
  refine jo_l (ly_ext rfl rfl) (hd 17 rfl) ?_
  refine jo_h (hy_alloc (id := 0) zero30 (by decide) rfl (by decide) rfl) (hd 5 rfl) ?_
  refine jo_st (sy_store rfl rfl rfl siz30 rfl rfl (Nat.le_of_ble_eq_true rfl)) ?_
  refine jo_l (ly_as rfl) (hd 6 rfl) ?_
  refine jo_l (ly_as rfl) (hd 7 rfl) ?_
  refine jo_nil ?_
  refine jc_seq ?_
  refine jc_seq ?_
  refine jc_region ?_
  refine jo_l (ly_mv rfl) (hd 18 rfl) ?_
  refine jo_l (ly_ff (ly_lt rfl rfl) (by omega)) (hd 19 rfl) ?_
  refine jo_l (ly_mv rfl) (hd 20 rfl) ?_
  refine jo_g 20 rfl rfl (ly_mv rfl) (hd 21 rfl) ?_
  refine jo_g 20 rfl rfl (ly_mv rfl) (hd 22 rfl) ?_
  refine jo_g 20 rfl rfl (ly_lens und9 rfl) (hd 23 rfl) ?_
  refine jo_g 20 rfl rfl (ly_ff (ly_gt rfl rfl) (by omega)) (hd 24 rfl) ?_
  refine jo_l (ly_pick_f rfl rfl) (hd 25 rfl) ?_
  refine jo_nil ?_
  refine jc_litf rfl ?_
  refine jc_skip ?_
  refine jc_seq ?_
  refine jc_region ?_
  refine jo_l (ly_mv rfl) (hd 42 rfl) ?_
  refine jo_l (ly_mv rfl) (hd 43 rfl) ?_
  refine jo_call Try.f19 (r2) rfl Try.func19 rfl rfl (ovL_cons rfl (ovL_cons rfl ovL_nil)) (.cons .s (.cons .i .nil)) (hd 44 rfl) ?_ (fun ch hp => by simp at hp)
  rintro y hy; injection hy with hy; subst hy
  refine jo_l (ly_mv rfl) (hd 41 rfl) ?_
  refine jo_l (ly_ext rfl rfl) (hd 45 rfl) ?_
  refine jo_l (ly_ext rfl rfl) (hd 46 rfl) ?_
  refine jo_l (ly_ext rfl rfl) (hd 47 rfl) ?_
  refine jo_h (hy_alloc (id := 1) zero40 (by decide) rfl (by decide) rfl) (hd 8 rfl) ?_
  refine jo_st (sy_store rfl rfl rfl siz40 rfl rfl (Nat.le_of_ble_eq_true rfl)) ?_
  refine jo_l (ly_as rfl) (hd 9 rfl) ?_
  refine jo_l (ly_as rfl) (hd 10 rfl) ?_
  refine jo_nil ?_
  refine jc_seq ?_
  refine jc_region ?_
  refine jo_l (ly_lda agg30 rfl rfl rfl rfl) (hd 48 rfl) ?_
  refine jo_l (ly_lda agg40 rfl rfl rfl rfl) (hd 49 rfl) ?_
  refine jo_call Try.f18 (one_same k t (pl : Int)) rfl Try.func18 rfl rfl (ovL_cons rfl (ovL_cons rfl ovL_nil)) (.cons (.a1 .i (.a1 .s (.a1 .i .a0))) (.cons (.a1 .i (.a1 .s (.a1 .i .a0))) .nil)) (hd 50 rfl) ?_ (fun ch hp => by simp at hp)
  rintro y hy; injection hy with hy; subst hy
  refine jo_l (ly_mv rfl) (hd 51 rfl) ?_
  refine jo_g 51 rfl rfl (ly_mv rfl) (hd 52 rfl) ?_
  refine jo_g 51 rfl rfl (ly_mv rfl) (hd 53 rfl) ?_
  refine jo_g 51 rfl rfl (ly_tt (ly_eq rfl rfl) rfl) (hd 54 rfl) ?_
  refine jo_l (ly_pick_t rfl rfl) (hd 55 rfl) ?_
  refine jo_l (ly_mv rfl) (hd 56 rfl) ?_
  refine jo_g 56 rfl rfl (ly_mv rfl) (hd 57 rfl) ?_
  refine jo_callg Try.f12 56 rfl rfl (num_s _) rfl Try.func12 rfl rfl (ovL_cons rfl ovL_nil) (.cons .i .nil) (hd 58 rfl) ?_ (fun ch hp => by simp at hp)
  rintro y hy; injection hy with hy; subst hy
  refine jo_g 56 rfl rfl (ly_mv rfl) (hd 59 rfl) ?_
  refine jo_g 56 rfl rfl (ly_tt (ly_eq rfl rfl) rfl) (hd 60 rfl) ?_
  refine jo_l (ly_pick_t rfl rfl) (hd 61 rfl) ?_
  refine jo_l (ly_mv rfl) (hd 62 rfl) ?_
  refine jo_callg Try.f13 62 rfl rfl (awake_s) rfl Try.func13 rfl rfl ovL_nil .nil (hd 63 rfl) ?_ (fun ch hp => by simp at hp)
  rintro y hy; injection hy with hy; subst hy
  refine jo_l (ly_pick_t rfl rfl) (hd 64 rfl) ?_
  refine jo_l (ly_as rfl) (hd 4 rfl) ?_
  refine jo_nil ?_
  refine jc_ret ?_
  refine ⟨_, _, (.cons rfl .nil), .b, ?_⟩
  exact rfl

theorem LexNexts_no {s : ByteArray} {p : Nat} {e : Nat} (hs : s.size < 4294967296) (hp : p ≤ s.size) (h : nx s p = (0, .empty, 0, e, false)) : Spec Try.prog 6 [.s s, .i .i64 (p : Int)] (fun o => o = .ret (.b true)) := by
  refine spec_of' [(0, .s s), (1, .i .i64 (p : Int))] rfl Try.func6 rfl (Nat.le_of_ble_eq_true rfl) fun Γ hN hds hL hR => ?_
  have hd : ∀ d, Nat.blt d 65 = true → d < Γ.N := fun d h => by rw [hN]; exact Nat.le_of_ble_eq_true h
  have r1 : Spec Try.prog 17 [.s s, .i .i64 (p : Int)] (fun o => o = .ret (.t [tok0, .i .i64 (e : Int), .i .i64 140])) := by
    have h1 := Next_s s p hs
    rw [NextV_no hp h] at h1
    exact h1
  have r2 : Spec Try.prog 19 [.s s, .i .i64 (p : Int)] (fun o => o = .ret (.t [.a [.i .i64 0, .s .empty, .i .i64 0], .i .i64 (e : Int), .i .i64 140])) := by
    have h1 := refNext_s s p hp hs
    rw [h] at h1
    exact h1
  refine jc_seq ?_
  refine jc_region ?_
  refine jo_l (ly_as rfl) (hd 4 rfl) ?_
  refine jo_nil ?_
  refine jc_seq ?_
  refine jc_region ?_
  refine jo_l (ly_mv rfl) (hd 12 rfl) ?_
  refine jo_l (ly_mv rfl) (hd 13 rfl) ?_
  refine jo_call Try.f17 (r1) rfl Try.func17 rfl rfl (ovL_cons rfl (ovL_cons rfl ovL_nil)) (.cons .s (.cons .i .nil)) (hd 14 rfl) ?_ (fun ch hp => by simp at hp)
  rintro y hy; injection hy with hy; subst hy
  refine jo_l (ly_mv rfl) (hd 11 rfl) ?_
  refine jo_l (ly_ext rfl rfl) (hd 15 rfl) ?_
  refine jo_l (ly_ext rfl rfl) (hd 16 rfl) ?_
  refine jo_l (ly_ext rfl rfl) (hd 17 rfl) ?_
  refine jo_h (hy_alloc (id := 0) zero30 (by decide) rfl (by decide) rfl) (hd 5 rfl) ?_
  refine jo_st (sy_store rfl rfl rfl siz30 rfl rfl (Nat.le_of_ble_eq_true rfl)) ?_
  refine jo_l (ly_as rfl) (hd 6 rfl) ?_
  refine jo_l (ly_as rfl) (hd 7 rfl) ?_
  refine jo_nil ?_
  refine jc_seq ?_
  refine jc_seq ?_
  refine jc_region ?_
  refine jo_l (ly_mv rfl) (hd 18 rfl) ?_
  refine jo_l (ly_ff (ly_lt rfl rfl) (by omega)) (hd 19 rfl) ?_
  refine jo_l (ly_mv rfl) (hd 20 rfl) ?_
  refine jo_g 20 rfl rfl (ly_mv rfl) (hd 21 rfl) ?_
  refine jo_g 20 rfl rfl (ly_mv rfl) (hd 22 rfl) ?_
  refine jo_g 20 rfl rfl (ly_lens und9 rfl) (hd 23 rfl) ?_
  refine jo_g 20 rfl rfl (ly_ff (ly_gt rfl rfl) (by omega)) (hd 24 rfl) ?_
  refine jo_l (ly_pick_f rfl rfl) (hd 25 rfl) ?_
  refine jo_nil ?_
  refine jc_litf rfl ?_
  refine jc_skip ?_
  refine jc_seq ?_
  refine jc_region ?_
  refine jo_l (ly_mv rfl) (hd 42 rfl) ?_
  refine jo_l (ly_mv rfl) (hd 43 rfl) ?_
  refine jo_call Try.f19 (r2) rfl Try.func19 rfl rfl (ovL_cons rfl (ovL_cons rfl ovL_nil)) (.cons .s (.cons .i .nil)) (hd 44 rfl) ?_ (fun ch hp => by simp at hp)
  rintro y hy; injection hy with hy; subst hy
  refine jo_l (ly_mv rfl) (hd 41 rfl) ?_
  refine jo_l (ly_ext rfl rfl) (hd 45 rfl) ?_
  refine jo_l (ly_ext rfl rfl) (hd 46 rfl) ?_
  refine jo_l (ly_ext rfl rfl) (hd 47 rfl) ?_
  refine jo_h (hy_alloc (id := 1) zero40 (by decide) rfl (by decide) rfl) (hd 8 rfl) ?_
  refine jo_st (sy_store rfl rfl rfl siz40 rfl rfl (Nat.le_of_ble_eq_true rfl)) ?_
  refine jo_l (ly_as rfl) (hd 9 rfl) ?_
  refine jo_l (ly_as rfl) (hd 10 rfl) ?_
  refine jo_nil ?_
  refine jc_seq ?_
  refine jc_region ?_
  refine jo_l (ly_lda agg30 rfl rfl rfl rfl) (hd 48 rfl) ?_
  refine jo_l (ly_lda agg40 rfl rfl rfl rfl) (hd 49 rfl) ?_
  refine jo_call Try.f18 (one_same 0 .empty 0) rfl Try.func18 rfl rfl (ovL_cons rfl (ovL_cons rfl ovL_nil)) (.cons (.a1 .i (.a1 .s (.a1 .i .a0))) (.cons (.a1 .i (.a1 .s (.a1 .i .a0))) .nil)) (hd 50 rfl) ?_ (fun ch hp => by simp at hp)
  rintro y hy; injection hy with hy; subst hy
  refine jo_l (ly_mv rfl) (hd 51 rfl) ?_
  refine jo_g 51 rfl rfl (ly_mv rfl) (hd 52 rfl) ?_
  refine jo_g 51 rfl rfl (ly_mv rfl) (hd 53 rfl) ?_
  refine jo_g 51 rfl rfl (ly_tt (ly_eq rfl rfl) rfl) (hd 54 rfl) ?_
  refine jo_l (ly_pick_t rfl rfl) (hd 55 rfl) ?_
  refine jo_l (ly_mv rfl) (hd 56 rfl) ?_
  refine jo_g 56 rfl rfl (ly_mv rfl) (hd 57 rfl) ?_
  refine jo_callg Try.f12 56 rfl rfl (num_s _) rfl Try.func12 rfl rfl (ovL_cons rfl ovL_nil) (.cons .i .nil) (hd 58 rfl) ?_ (fun ch hp => by simp at hp)
  rintro y hy; injection hy with hy; subst hy
  refine jo_g 56 rfl rfl (ly_mv rfl) (hd 59 rfl) ?_
  refine jo_g 56 rfl rfl (ly_tt (ly_eq rfl rfl) rfl) (hd 60 rfl) ?_
  refine jo_l (ly_pick_t rfl rfl) (hd 61 rfl) ?_
  refine jo_l (ly_mv rfl) (hd 62 rfl) ?_
  refine jo_callg Try.f13 62 rfl rfl (awake_s) rfl Try.func13 rfl rfl ovL_nil .nil (hd 63 rfl) ?_ (fun ch hp => by simp at hp)
  rintro y hy; injection hy with hy; subst hy
  refine jo_l (ly_pick_t rfl rfl) (hd 64 rfl) ?_
  refine jo_l (ly_as rfl) (hd 4 rfl) ?_
  refine jo_nil ?_
  refine jc_ret ?_
  refine ⟨_, _, (.cons rfl .nil), .b, ?_⟩
  exact rfl

theorem LexNexts_s (s : ByteArray) (q : Int) (hs : s.size < 4294967296) : Spec Try.prog 6 [.s s, .i .i64 q] (fun o => o = .ret (.b true)) := by
  by_cases hq : q < 0 ∨ (s.size : Int) < q
  · exact LexNexts_bad hs hq
  · obtain ⟨p, rfl⟩ : ∃ p : Nat, q = (p : Int) := ⟨q.toNat, by omega⟩
    have hp : p ≤ s.size := by omega
    cases hok : (nx s p).2.2.2.2
    · exact LexNexts_no hs hp (nx_not hok)
    · exact LexNexts_ok (k := (nx s p).1) (t := (nx s p).2.1) (pl := (nx s p).2.2.1) (e := (nx s p).2.2.2.1) hs hp (by rw [← hok])
end Go.Proofs.Ytnpbpiommpgikaa.Vc
