/- The contracts of lex.Plain and surdlaw14.LexPlain. -/
import Derived.Test.YtnpbpiommpgikaaXd
import Derived.Test.YtnpbpiommpgikaaMd
import Derived.Test.YtnpbpiommpgikaaWi
import Derived.Test.YtnpbpiommpgikaaWl
set_option linter.unusedVariables false
set_option linter.unusedSimpArgs false
namespace Go.Proofs.Ytnpbpiommpgikaa.Vc
open Go Go.RowKit
theorem Plain_ok {s : ByteArray} {l : List Tok} (hs : s.size < 4294967296) (h : lexGo s 0 = (l, none)) (hj : (jnT l).size ≤ 140737488355328) : Spec Try.prog 26 [.s s] (fun o => o = .ret (.t [.s (jnT l), .i .i64 0, .i .i64 0])) := by
  refine spec_of' [(0, .s s)] rfl Try.func26 rfl (Nat.le_of_ble_eq_true rfl) fun Γ hN hds hL hR => ?_
  have hd : ∀ d, Nat.blt d 20 = true → d < Γ.N := fun d h => by rw [hN]; exact Nat.le_of_ble_eq_true h
  refine jc_seq ?_
  refine jc_region ?_
  refine jo_l (ly_as rfl) (hd 2 rfl) ?_
  refine jo_l (ly_as rfl) (hd 3 rfl) ?_
  refine jo_l (ly_as rfl) (hd 4 rfl) ?_
  refine jo_nil ?_
  refine jc_seq ?_
  refine jc_region ?_
  refine jo_l (ly_mv rfl) (hd 9 rfl) ?_
  refine jo_call Try.f14 (Lex_ok hs h) rfl Try.func14 rfl rfl (ovL_cons rfl ovL_nil) (.cons .s .nil) (hd 10 rfl) ?_ (fun ch hp => by simp at hp)
  rintro y hy; injection hy with hy; subst hy
  refine jo_l (ly_mv rfl) (hd 8 rfl) ?_
  refine jo_l (ly_ext rfl rfl) (hd 11 rfl) ?_
  refine jo_l (ly_ext rfl rfl) (hd 12 rfl) ?_
  refine jo_l (ly_ext rfl rfl) (hd 13 rfl) ?_
  refine jo_l (ly_as rfl) (hd 5 rfl) ?_
  refine jo_l (ly_as rfl) (hd 6 rfl) ?_
  refine jo_l (ly_as rfl) (hd 7 rfl) ?_
  refine jo_nil ?_
  refine jc_seq ?_
  refine jc_seq ?_
  refine jc_region ?_
  refine jo_l (ly_mv rfl) (hd 14 rfl) ?_
  refine jo_l (ly_ff (ly_ne rfl rfl) (by decide)) (hd 15 rfl) ?_
  refine jo_nil ?_
  refine jc_litf rfl ?_
  refine jc_skip ?_
  refine jc_seq ?_
  refine jc_region ?_
  refine jo_l (ly_mv rfl) (hd 18 rfl) ?_
  refine jo_call Try.f24 (Join_t false l (by have := lexGo_len l 0 none (Nat.zero_le _) h; omega) hj) rfl Try.func24 rfl rfl (ovL_cons rfl ovL_nil) (.cons .l .nil) (hd 19 rfl) ?_ (fun ch hp => by simp at hp)
  rintro y hy; injection hy with hy; subst hy
  refine jo_l (ly_as rfl) (hd 2 rfl) ?_
  refine jo_l (ly_as rfl) (hd 3 rfl) ?_
  refine jo_l (ly_as rfl) (hd 4 rfl) ?_
  refine jo_nil ?_
  refine jc_ret ?_
  refine ⟨_, _, (.cons rfl (.cons rfl (.cons rfl .nil))), (.t1 .s (.t1 .i (.t1 .i .t0))), ?_⟩
  exact rfl

theorem Plain_bad {s : ByteArray} {l : List Tok} {p : Nat} (hs : s.size < 4294967296) (h : lexGo s 0 = (l, some p)) : Spec Try.prog 26 [.s s] (fun o => o = .ret (.t [.s .empty, .i .i64 (p : Int), .i .i64 140])) := by
  refine spec_of' [(0, .s s)] rfl Try.func26 rfl (Nat.le_of_ble_eq_true rfl) fun Γ hN hds hL hR => ?_
  have hd : ∀ d, Nat.blt d 20 = true → d < Γ.N := fun d h => by rw [hN]; exact Nat.le_of_ble_eq_true h
  refine jc_seq ?_
  refine jc_region ?_
  refine jo_l (ly_as rfl) (hd 2 rfl) ?_
  refine jo_l (ly_as rfl) (hd 3 rfl) ?_
  refine jo_l (ly_as rfl) (hd 4 rfl) ?_
  refine jo_nil ?_
  refine jc_seq ?_
  refine jc_region ?_
  refine jo_l (ly_mv rfl) (hd 9 rfl) ?_
  refine jo_call Try.f14 (Lex_bad hs h) rfl Try.func14 rfl rfl (ovL_cons rfl ovL_nil) (.cons .s .nil) (hd 10 rfl) ?_ (fun ch hp => by simp at hp)
  rintro y hy; injection hy with hy; subst hy
  refine jo_l (ly_mv rfl) (hd 8 rfl) ?_
  refine jo_l (ly_ext rfl rfl) (hd 11 rfl) ?_
  refine jo_l (ly_ext rfl rfl) (hd 12 rfl) ?_
  refine jo_l (ly_ext rfl rfl) (hd 13 rfl) ?_
  refine jo_l (ly_as rfl) (hd 5 rfl) ?_
  refine jo_l (ly_as rfl) (hd 6 rfl) ?_
  refine jo_l (ly_as rfl) (hd 7 rfl) ?_
  refine jo_nil ?_
  refine jc_seq ?_
  refine jc_seq ?_
  refine jc_region ?_
  refine jo_l (ly_mv rfl) (hd 14 rfl) ?_
  refine jo_l (ly_tt (ly_ne rfl rfl) (by decide)) (hd 15 rfl) ?_
  refine jo_nil ?_
  refine jc_litt rfl ?_
  refine jc_seq ?_
  refine jc_region ?_
  refine jo_l (ly_mv rfl) (hd 16 rfl) ?_
  refine jo_l (ly_mv rfl) (hd 17 rfl) ?_
  refine jo_l (ly_as rfl) (hd 2 rfl) ?_
  refine jo_l (ly_as rfl) (hd 3 rfl) ?_
  refine jo_l (ly_as rfl) (hd 4 rfl) ?_
  refine jo_nil ?_
  refine jc_ret ?_
  refine ⟨_, _, (.cons rfl (.cons rfl (.cons rfl .nil))), (.t1 .s (.t1 .i (.t1 .i .t0))), ?_⟩
  exact rfl

theorem LexPlain_ok {s : ByteArray} {l : List Tok} (hs : s.size ≤ 1048576) (h : lexGo s 0 = (l, none)) : Spec Try.prog 10 [.s s] (fun o => o = .ret (.b true)) := by
  refine spec_of' [(0, .s s)] rfl Try.func10 rfl (Nat.le_of_ble_eq_true rfl) fun Γ hN hds hL hR => ?_
  have hd : ∀ d, Nat.blt d 82 = true → d < Γ.N := fun d h => by rw [hN]; exact Nat.le_of_ble_eq_true h
  obtain ⟨m, hm, he, hjm, hz, hll⟩ := jnT_lex h
  refine jc_seq ?_
  refine jc_region ?_
  refine jo_l (ly_as rfl) (hd 2 rfl) ?_
  refine jo_nil ?_
  refine jc_seq ?_
  refine jc_region ?_
  refine jo_l (ly_mv rfl) (hd 16 rfl) ?_
  refine jo_call Try.f14 (Lex_ok (by omega) h) rfl Try.func14 rfl rfl (ovL_cons rfl ovL_nil) (.cons .s .nil) (hd 17 rfl) ?_ (fun ch hp => by simp at hp)
  rintro y hy; injection hy with hy; subst hy
  refine jo_l (ly_mv rfl) (hd 15 rfl) ?_
  refine jo_l (ly_ext rfl rfl) (hd 18 rfl) ?_
  refine jo_l (ly_ext rfl rfl) (hd 19 rfl) ?_
  refine jo_l (ly_ext rfl rfl) (hd 20 rfl) ?_
  refine jo_l (ly_as rfl) (hd 3 rfl) ?_
  refine jo_l (ly_as rfl) (hd 4 rfl) ?_
  refine jo_l (ly_as rfl) (hd 5 rfl) ?_
  refine jo_nil ?_
  refine jc_seq ?_
  refine jc_region ?_
  refine jo_l (ly_mv rfl) (hd 22 rfl) ?_
  refine jo_call Try.f26 (Plain_ok (by omega) h (by omega)) rfl Try.func26 rfl rfl (ovL_cons rfl ovL_nil) (.cons .s .nil) (hd 23 rfl) ?_ (fun ch hp => by simp at hp)
  rintro y hy; injection hy with hy; subst hy
  refine jo_l (ly_mv rfl) (hd 21 rfl) ?_
  refine jo_l (ly_ext rfl rfl) (hd 24 rfl) ?_
  refine jo_l (ly_ext rfl rfl) (hd 25 rfl) ?_
  refine jo_l (ly_ext rfl rfl) (hd 26 rfl) ?_
  refine jo_l (ly_as rfl) (hd 6 rfl) ?_
  refine jo_l (ly_as rfl) (hd 7 rfl) ?_
  refine jo_l (ly_as rfl) (hd 8 rfl) ?_
  refine jo_nil ?_
  refine jc_seq ?_
  refine jc_seq ?_
  refine jc_region ?_
  refine jo_l (ly_mv rfl) (hd 27 rfl) ?_
  refine jo_call Try.f12 (num_s _) rfl Try.func12 rfl rfl (ovL_cons rfl ovL_nil) (.cons .i .nil) (hd 28 rfl) ?_ (fun ch hp => by simp at hp)
  rintro y hy; injection hy with hy; subst hy
  refine jo_l (ly_ff (ly_ne rfl rfl) (by decide)) (hd 29 rfl) ?_
  refine jo_nil ?_
  refine jc_litf rfl ?_
  refine jc_skip ?_
  refine jc_seq ?_
  refine jc_region ?_
  refine jo_l (ly_mv rfl) (hd 39 rfl) ?_
  refine jo_call Try.f14 (Lex_ok (by omega) hm) rfl Try.func14 rfl rfl (ovL_cons rfl ovL_nil) (.cons .s .nil) (hd 40 rfl) ?_ (fun ch hp => by simp at hp)
  rintro y hy; injection hy with hy; subst hy
  refine jo_l (ly_mv rfl) (hd 38 rfl) ?_
  refine jo_l (ly_ext rfl rfl) (hd 41 rfl) ?_
  refine jo_l (ly_ext rfl rfl) (hd 42 rfl) ?_
  refine jo_l (ly_ext rfl rfl) (hd 43 rfl) ?_
  refine jo_l (ly_as rfl) (hd 9 rfl) ?_
  refine jo_l (ly_as rfl) (hd 10 rfl) ?_
  refine jo_l (ly_as rfl) (hd 11 rfl) ?_
  refine jo_nil ?_
  refine jc_seq ?_
  refine jc_region ?_
  refine jo_l (ly_mv rfl) (hd 45 rfl) ?_
  refine jo_call Try.f26 (Plain_ok (by omega) hm (by rw [hjm]; omega)) rfl Try.func26 rfl rfl (ovL_cons rfl ovL_nil) (.cons .s .nil) (hd 46 rfl) ?_ (fun ch hp => by simp at hp)
  rintro y hy; injection hy with hy; subst hy
  refine jo_l (ly_mv rfl) (hd 44 rfl) ?_
  refine jo_l (ly_ext rfl rfl) (hd 47 rfl) ?_
  refine jo_l (ly_ext rfl rfl) (hd 48 rfl) ?_
  refine jo_l (ly_ext rfl rfl) (hd 49 rfl) ?_
  refine jo_l (ly_as rfl) (hd 12 rfl) ?_
  refine jo_l (ly_as rfl) (hd 13 rfl) ?_
  refine jo_l (ly_as rfl) (hd 14 rfl) ?_
  refine jo_nil ?_
  refine jc_seq ?_
  refine jc_region ?_
  refine jo_l (ly_mv rfl) (hd 50 rfl) ?_
  refine jo_call Try.f12 (num_s _) rfl Try.func12 rfl rfl (ovL_cons rfl ovL_nil) (.cons .i .nil) (hd 51 rfl) ?_ (fun ch hp => by simp at hp)
  rintro y hy; injection hy with hy; subst hy
  refine jo_l (ly_tt (ly_eq rfl rfl) rfl) (hd 52 rfl) ?_
  refine jo_l (ly_mv rfl) (hd 53 rfl) ?_
  refine jo_g 53 rfl rfl (ly_mv rfl) (hd 54 rfl) ?_
  refine jo_callg Try.f12 53 rfl rfl (num_s _) rfl Try.func12 rfl rfl (ovL_cons rfl ovL_nil) (.cons .i .nil) (hd 55 rfl) ?_ (fun ch hp => by simp at hp)
  rintro y hy; injection hy with hy; subst hy
  refine jo_g 53 rfl rfl (ly_tt (ly_eq rfl rfl) rfl) (hd 56 rfl) ?_
  refine jo_l (ly_pick_t rfl rfl) (hd 57 rfl) ?_
  refine jo_l (ly_mv rfl) (hd 58 rfl) ?_
  refine jo_g 58 rfl rfl (ly_mv rfl) (hd 59 rfl) ?_
  refine jo_callg Try.f12 58 rfl rfl (num_s _) rfl Try.func12 rfl rfl (ovL_cons rfl ovL_nil) (.cons .i .nil) (hd 60 rfl) ?_ (fun ch hp => by simp at hp)
  rintro y hy; injection hy with hy; subst hy
  refine jo_g 58 rfl rfl (ly_tt (ly_eq rfl rfl) rfl) (hd 61 rfl) ?_
  refine jo_l (ly_pick_t rfl rfl) (hd 62 rfl) ?_
  refine jo_l (ly_mv rfl) (hd 63 rfl) ?_
  refine jo_g 63 rfl rfl (ly_mv rfl) (hd 64 rfl) ?_
  refine jo_g 63 rfl rfl (ly_mv rfl) (hd 65 rfl) ?_
  refine jo_callg Try.f16 63 rfl rfl (same_er l m false false (by omega) he) rfl Try.func16 rfl rfl (ovL_cons rfl (ovL_cons rfl ovL_nil)) (.cons .l (.cons .l .nil)) (hd 66 rfl) ?_ (fun ch hp => by simp at hp)
  rintro y hy; injection hy with hy; subst hy
  refine jo_l (ly_pick_t rfl rfl) (hd 67 rfl) ?_
  refine jo_l (ly_mv rfl) (hd 68 rfl) ?_
  refine jo_g 68 rfl rfl (ly_mv rfl) (hd 69 rfl) ?_
  refine jo_g 68 rfl rfl (ly_mv rfl) (hd 70 rfl) ?_
  refine jo_g 68 rfl rfl (ly_tt (ly_eqS rfl rfl) hjm) (hd 71 rfl) ?_
  refine jo_l (ly_pick_t rfl rfl) (hd 72 rfl) ?_
  refine jo_l (ly_mv rfl) (hd 73 rfl) ?_
  refine jo_g 73 rfl rfl (ly_mv rfl) (hd 74 rfl) ?_
  refine jo_callg Try.f24 73 rfl rfl (Join_t false l (by omega) (by omega)) rfl Try.func24 rfl rfl (ovL_cons rfl ovL_nil) (.cons .l .nil) (hd 75 rfl) ?_ (fun ch hp => by simp at hp)
  rintro y hy; injection hy with hy; subst hy
  refine jo_g 73 rfl rfl (ly_mv rfl) (hd 76 rfl) ?_
  refine jo_g 73 rfl rfl (ly_tt (ly_eqS rfl rfl) rfl) (hd 77 rfl) ?_
  refine jo_l (ly_pick_t rfl rfl) (hd 78 rfl) ?_
  refine jo_l (ly_mv rfl) (hd 79 rfl) ?_
  refine jo_callg Try.f13 79 rfl rfl (awake_s) rfl Try.func13 rfl rfl ovL_nil .nil (hd 80 rfl) ?_ (fun ch hp => by simp at hp)
  rintro y hy; injection hy with hy; subst hy
  refine jo_l (ly_pick_t rfl rfl) (hd 81 rfl) ?_
  refine jo_l (ly_as rfl) (hd 2 rfl) ?_
  refine jo_nil ?_
  refine jc_ret ?_
  refine ⟨_, _, (.cons rfl .nil), .b, ?_⟩
  exact rfl

theorem LexPlain_bad {s : ByteArray} {l : List Tok} {p : Nat} (hs : s.size ≤ 1048576) (h : lexGo s 0 = (l, some p)) : Spec Try.prog 10 [.s s] (fun o => o = .ret (.b true)) := by
  refine spec_of' [(0, .s s)] rfl Try.func10 rfl (Nat.le_of_ble_eq_true rfl) fun Γ hN hds hL hR => ?_
  have hd : ∀ d, Nat.blt d 82 = true → d < Γ.N := fun d h => by rw [hN]; exact Nat.le_of_ble_eq_true h
  refine jc_seq ?_
  refine jc_region ?_
  refine jo_l (ly_as rfl) (hd 2 rfl) ?_
  refine jo_nil ?_
  refine jc_seq ?_
  refine jc_region ?_
  refine jo_l (ly_mv rfl) (hd 16 rfl) ?_
  refine jo_call Try.f14 (Lex_bad (by omega) h) rfl Try.func14 rfl rfl (ovL_cons rfl ovL_nil) (.cons .s .nil) (hd 17 rfl) ?_ (fun ch hp => by simp at hp)
  rintro y hy; injection hy with hy; subst hy
  refine jo_l (ly_mv rfl) (hd 15 rfl) ?_
  refine jo_l (ly_ext rfl rfl) (hd 18 rfl) ?_
  refine jo_l (ly_ext rfl rfl) (hd 19 rfl) ?_
  refine jo_l (ly_ext rfl rfl) (hd 20 rfl) ?_
  refine jo_l (ly_as rfl) (hd 3 rfl) ?_
  refine jo_l (ly_as rfl) (hd 4 rfl) ?_
  refine jo_l (ly_as rfl) (hd 5 rfl) ?_
  refine jo_nil ?_
  refine jc_seq ?_
  refine jc_region ?_
  refine jo_l (ly_mv rfl) (hd 22 rfl) ?_
  refine jo_call Try.f26 (Plain_bad (by omega) h) rfl Try.func26 rfl rfl (ovL_cons rfl ovL_nil) (.cons .s .nil) (hd 23 rfl) ?_ (fun ch hp => by simp at hp)
  rintro y hy; injection hy with hy; subst hy
  refine jo_l (ly_mv rfl) (hd 21 rfl) ?_
  refine jo_l (ly_ext rfl rfl) (hd 24 rfl) ?_
  refine jo_l (ly_ext rfl rfl) (hd 25 rfl) ?_
  refine jo_l (ly_ext rfl rfl) (hd 26 rfl) ?_
  refine jo_l (ly_as rfl) (hd 6 rfl) ?_
  refine jo_l (ly_as rfl) (hd 7 rfl) ?_
  refine jo_l (ly_as rfl) (hd 8 rfl) ?_
  refine jo_nil ?_
  refine jc_seq ?_
  refine jc_seq ?_
  refine jc_region ?_
  refine jo_l (ly_mv rfl) (hd 27 rfl) ?_
  refine jo_call Try.f12 (num_s _) rfl Try.func12 rfl rfl (ovL_cons rfl ovL_nil) (.cons .i .nil) (hd 28 rfl) ?_ (fun ch hp => by simp at hp)
  rintro y hy; injection hy with hy; subst hy
  refine jo_l (ly_tt (ly_ne rfl rfl) (by decide)) (hd 29 rfl) ?_
  refine jo_nil ?_
  refine jc_litt rfl ?_
  refine jc_seq ?_
  refine jc_region ?_
  refine jo_l (ly_mv rfl) (hd 30 rfl) ?_
  refine jo_call Try.f12 (num_s _) rfl Try.func12 rfl rfl (ovL_cons rfl ovL_nil) (.cons .i .nil) (hd 31 rfl) ?_ (fun ch hp => by simp at hp)
  rintro y hy; injection hy with hy; subst hy
  refine jo_l (ly_mv rfl) (hd 32 rfl) ?_
  refine jo_call Try.f12 (num_s _) rfl Try.func12 rfl rfl (ovL_cons rfl ovL_nil) (.cons .i .nil) (hd 33 rfl) ?_ (fun ch hp => by simp at hp)
  rintro y hy; injection hy with hy; subst hy
  refine jo_l (ly_tt (ly_eq rfl rfl) rfl) (hd 34 rfl) ?_
  refine jo_l (ly_mv rfl) (hd 35 rfl) ?_
  refine jo_callg Try.f13 35 rfl rfl (awake_s) rfl Try.func13 rfl rfl ovL_nil .nil (hd 36 rfl) ?_ (fun ch hp => by simp at hp)
  rintro y hy; injection hy with hy; subst hy
  refine jo_l (ly_pick_t rfl rfl) (hd 37 rfl) ?_
  refine jo_l (ly_as rfl) (hd 2 rfl) ?_
  refine jo_nil ?_
  refine jc_ret ?_
  refine ⟨_, _, (.cons rfl .nil), .b, ?_⟩
  exact rfl

theorem LexPlain_s (s : ByteArray) (hs : s.size ≤ 1048576) : Spec Try.prog 10 [.s s] (fun o => o = .ret (.b true)) := by
  rcases h : lexGo s 0 with ⟨l, r⟩
  cases r with
  | none => exact LexPlain_ok hs h
  | some p => exact LexPlain_bad hs h
end Go.Proofs.Ytnpbpiommpgikaa.Vc
