/- The law WholeRoots of surdtop returns true for every natural and every index of bulk at most 1048576 Texts joined: Sv, Ua, RRoots. -/
import Derived.Test.YtaogaegchagbfaaK6
import Derived.Test.YtaogaegchagbfaaRows
import Derived.WalkKit
import Derived.ProofKit
import Derived.OpenShut
import Derived.Carry
import Derived.JoinedCond
set_option linter.unusedVariables false
set_option linter.unusedSimpArgs false
/- Contracts of roots.Root of any index, Sqrt. -/
namespace Go.Proofs.Ytaogaegchagbfaa.Vc
open Go Go.RowKit
set_option maxHeartbeats 4000000 in
theorem Pow_z (v n : Nat) (hv : v ≤ 1) (hn : 1 ≤ n) (hn9 : n ≤ 67108864) : Spec Try.prog 10 [.n false .u64 (lm (v : Int)), .i .i64 (n : Int)] (fun o => o = .ret (.t [.n false .u64 (lm (v : Int)), .i .i64 0])) := by
  refine spec_of' [(0, .n false .u64 (lm (v : Int))), (1, .i .i64 (n : Int))] rfl Try.func10 rfl (Nat.le_of_ble_eq_true rfl) fun Γ hN hds hL hR => ?_
  have hd : ∀ d, Nat.blt d 63 = true → d < Γ.N := fun d h => by rw [hN]; exact Nat.le_of_ble_eq_true h
  have hv1 : lenV (v : Int) ≤ 1 := nbits_le.2 (by rw [Int.natAbs_natCast]; omega)
  have hlmv := lenV_lm (v := (v : Int)) (by omega)
  refine jc_seq ?_; refine jc_region ?_; refine jo_l (ly_as rfl) (hd 4 rfl) ?_; refine jo_l (ly_as rfl) (hd 5 rfl) ?_; refine jo_nil ?_; refine jc_seq ?_; refine jc_seq ?_; refine jc_region ?_; refine jo_l (ly_mv rfl) (hd 10 rfl) ?_; refine jo_l (ly_ff (ly_lt rfl rfl) (by omega)) (hd 11 rfl) ?_; refine jo_nil ?_; refine jc_litf rfl ?_; refine jc_skip ?_; refine jc_seq ?_; refine jc_region ?_; refine jo_l (ly_mv rfl) (hd 12 rfl) ?_
  refine jo_call Try.f42 (Norm_v (v : Int) (by omega)) rfl Try.func42 rfl rfl (ovL_cons rfl ovL_nil) (.cons .n .nil) (hd 13 rfl) ?_ (fun ch hp => by simp at hp)
  rintro y hy; injection hy with hy; subst hy; refine jo_l (ly_as rfl) (hd 0 rfl) ?_; refine jo_nil ?_; refine jc_seq ?_; refine jc_seq ?_; refine jc_region ?_; refine jo_l (ly_mv rfl) (hd 14 rfl) ?_; refine jo_l (ly_ff (ly_eq rfl rfl) (by omega)) (hd 15 rfl) ?_; refine jo_nil ?_; refine jc_litf rfl ?_; refine jc_skip ?_; refine jc_seq ?_; refine jc_region ?_; refine jo_l (ly_mv rfl) (hd 17 rfl) ?_
  refine jo_call Try.f15 (Length_v (v : Int) (by omega)) rfl Try.func15 rfl rfl (ovL_cons rfl ovL_nil) (.cons .n .nil) (hd 18 rfl) ?_ (fun ch hp => by simp at hp)
  rintro y hy; injection hy with hy; subst hy; refine jo_l (ly_as rfl) (hd 6 rfl) ?_; refine jo_nil ?_; refine jc_seq ?_; refine jc_seq ?_; refine jc_region ?_; refine jo_l (ly_mv rfl) (hd 19 rfl) ?_; refine jo_l (ly_tt (ly_le rfl rfl) (by omega)) (hd 20 rfl) ?_; refine jo_nil ?_; refine jc_litt rfl ?_; refine jc_seq ?_; refine jc_region ?_; refine jo_l (ly_mv rfl) (hd 21 rfl) ?_; refine jo_l (ly_as rfl) (hd 4 rfl) ?_; refine jo_l (ly_as rfl) (hd 5 rfl) ?_; refine jo_nil ?_; refine jc_ret ?_
  refine ⟨_, _, (.cons rfl (.cons rfl .nil)), (.t1 .nn (.t1 .i .t0)), ?_⟩
  exact rfl

set_option maxHeartbeats 4000000 in
theorem newton_1 (a n : Nat) (hk : lenV (a : Int) ≤ n) (hf : lenV (a : Int) ≤ 67108864) : Spec Try.prog 40 [.n false .u64 (lm (a : Int)), .i .i64 (n : Int)] (fun o => o = .ret (.n false .u64 (lm ((1 : Nat) : Int)))) := by
  refine spec_of' [(0, .n false .u64 (lm (a : Int))), (1, .i .i64 (n : Int))] rfl Try.func40 rfl (Nat.le_of_ble_eq_true rfl) fun Γ hN hds hL hR => ?_
  have hd : ∀ d, Nat.blt d 72 = true → d < Γ.N := fun d h => by rw [hN]; exact Nat.le_of_ble_eq_true h
  have hF1 : Spec Try.prog 43 [.i .u64 1] (fun o => o = .ret (.n false .u64 (lm ((1 : Nat) : Int)))) := by have h := From_s 1; rw [fl_lm (by decide) (by decide)] at h; exact h.nn
  have hla := lenV_lm (v := (a : Int)) (by omega)
  refine jc_seq ?_; refine jc_region ?_; refine jo_l (ly_as rfl) (hd 4 rfl) ?_; refine jo_nil ?_; refine jc_seq ?_; refine jc_region ?_; refine jo_l (ly_mv rfl) (hd 18 rfl) ?_
  refine jo_call Try.f15 (Length_v (a : Int) (by omega)) rfl Try.func15 rfl rfl (ovL_cons rfl ovL_nil) (.cons .n .nil) (hd 19 rfl) ?_ (fun ch hp => by simp at hp)
  rintro y hy; injection hy with hy; subst hy; refine jo_l (ly_as rfl) (hd 5 rfl) ?_; refine jo_nil ?_; refine jc_seq ?_; refine jc_seq ?_; refine jc_region ?_; refine jo_l (ly_mv rfl) (hd 20 rfl) ?_; refine jo_l (ly_mv rfl) (hd 21 rfl) ?_; refine jo_l (ly_tt (ly_ge rfl rfl) (by omega)) (hd 22 rfl) ?_; refine jo_nil ?_; refine jc_litt rfl ?_; refine jc_seq ?_; refine jc_region ?_
  refine jo_call Try.f43 (hF1) rfl Try.func43 rfl rfl (ovL_cons rfl ovL_nil) (.cons .i .nil) (hd 23 rfl) ?_ (fun ch hp => by simp at hp)
  rintro y hy; injection hy with hy; subst hy; refine jo_l (ly_as rfl) (hd 4 rfl) ?_; refine jo_nil ?_; refine jc_ret ?_
  refine ⟨_, _, (.cons rfl .nil), .n, ?_⟩
  exact rfl

set_option maxHeartbeats 4000000 in
theorem Root_k1 (l : List Int) (a : Nat) (hl : l.length ≤ 1048576) (hu : u64s l) (hv : vl l = (a : Int)) (hf : lenV (a : Int) ≤ 67108864) : Spec Try.prog 9 [.n false .u64 l, .i .i64 1] (fun o => o = .ret (.t [.n false .u64 (lm (a : Int)), .n false .u64 [], .i .i64 0])) := by
  refine spec_of' [(0, .n false .u64 l), (1, .i .i64 1)] rfl Try.func9 rfl (Nat.le_of_ble_eq_true rfl) fun Γ hN hds hL hR => ?_
  have hd : ∀ d, Nat.blt d 42 = true → d < Γ.N := fun d h => by rw [hN]; exact Nat.le_of_ble_eq_true h
  have hfi := rfits_s l hl hu (by rw [lenN_lenV hu hv]; omega)
  rw [trm_lm hu hv] at hfi
  refine jc_seq ?_; refine jc_region ?_; refine jo_l (ly_as rfl) (hd 4 rfl) ?_; refine jo_l (ly_as rfl) (hd 5 rfl) ?_; refine jo_l (ly_as rfl) (hd 6 rfl) ?_; refine jo_nil ?_; refine jc_seq ?_; refine jc_seq ?_; refine jc_region ?_; refine jo_l (ly_mv rfl) (hd 11 rfl) ?_; refine jo_l (ly_ff (ly_lt rfl rfl) (by omega)) (hd 12 rfl) ?_; refine jo_nil ?_; refine jc_litf rfl ?_; refine jc_skip ?_; refine jc_seq ?_; refine jc_region ?_; refine jo_l (ly_mv rfl) (hd 14 rfl) ?_
  refine jo_call Try.f39 (hfi) rfl Try.func39 rfl rfl (ovL_cons rfl ovL_nil) (.cons .n .nil) (hd 15 rfl) ?_ (fun ch hp => by simp at hp)
  rintro y hy; injection hy with hy; subst hy; refine jo_l (ly_mv rfl) (hd 13 rfl) ?_; refine jo_l (ly_ext rfl rfl) (hd 16 rfl) ?_; refine jo_l (ly_ext rfl rfl) (hd 17 rfl) ?_; refine jo_l (ly_as rfl) (hd 0 rfl) ?_; refine jo_l (ly_as rfl) (hd 7 rfl) ?_; refine jo_nil ?_; refine jc_seq ?_; refine jc_seq ?_; refine jc_region ?_; refine jo_l (ly_mv rfl) (hd 18 rfl) ?_; refine jo_l (ly_ff (ly_ne rfl rfl) (by decide)) (hd 19 rfl) ?_; refine jo_nil ?_; refine jc_litf rfl ?_; refine jc_skip ?_; refine jc_seq ?_; refine jc_seq ?_; refine jc_region ?_; refine jo_l (ly_mv rfl) (hd 21 rfl) ?_; refine jo_l (ly_tt (ly_eq rfl rfl) rfl) (hd 22 rfl) ?_; refine jo_l (ly_mv rfl) (hd 23 rfl) ?_; refine jo_s 23 rfl rfl rfl (hd 24 rfl) ?_; refine jo_s 23 rfl rfl rfl (hd 25 rfl) ?_; refine jo_s 23 rfl rfl rfl (hd 26 rfl) ?_; refine jo_l (ly_pick_t rfl rfl) (hd 27 rfl) ?_; refine jo_nil ?_; refine jc_litt rfl ?_; refine jc_seq ?_; refine jc_region ?_; refine jo_l (ly_mv rfl) (hd 28 rfl) ?_; refine jo_l (ly_as rfl) (hd 4 rfl) ?_; refine jo_l (ly_as rfl) (hd 5 rfl) ?_; refine jo_l (ly_as rfl) (hd 6 rfl) ?_; refine jo_nil ?_; refine jc_ret ?_
  refine ⟨_, _, (.cons rfl (.cons rfl (.cons rfl .nil))), (.t1 .nn (.t1 (.nil (fr := false) (k := .u64)) (.t1 .i .t0))), ?_⟩
  exact rfl

set_option maxHeartbeats 4000000 in
theorem Root_00 (l : List Int) (n : Nat) (hl : l.length ≤ 1048576) (hu : u64s l) (hv : vl l = 0) (hn : 2 ≤ n) : Spec Try.prog 9 [.n false .u64 l, .i .i64 (n : Int)] (fun o => o = .ret (.t [.n false .u64 [], .n false .u64 [], .i .i64 0])) := by
  refine spec_of' [(0, .n false .u64 l), (1, .i .i64 (n : Int))] rfl Try.func9 rfl (Nat.le_of_ble_eq_true rfl) fun Γ hN hds hL hR => ?_
  have hd : ∀ d, Nat.blt d 42 = true → d < Γ.N := fun d h => by rw [hN]; exact Nat.le_of_ble_eq_true h
  have hfi := rfits_s l hl hu (by rw [lenN_lenV hu hv]; decide +kernel)
  rw [trm_lm hu hv, lm_0] at hfi
  have hLz : Spec Try.prog 15 [.n false .u64 []] (fun o => o = .ret (.i .i64 0)) := by have h := Length_s [] (by decide) (fun x hx => by cases hx); rwa [show ((lenN [] : Nat) : Int) = 0 by decide +kernel] at h
  refine jc_seq ?_; refine jc_region ?_; refine jo_l (ly_as rfl) (hd 4 rfl) ?_; refine jo_l (ly_as rfl) (hd 5 rfl) ?_; refine jo_l (ly_as rfl) (hd 6 rfl) ?_; refine jo_nil ?_; refine jc_seq ?_; refine jc_seq ?_; refine jc_region ?_; refine jo_l (ly_mv rfl) (hd 11 rfl) ?_; refine jo_l (ly_ff (ly_lt rfl rfl) (by omega)) (hd 12 rfl) ?_; refine jo_nil ?_; refine jc_litf rfl ?_; refine jc_skip ?_; refine jc_seq ?_; refine jc_region ?_; refine jo_l (ly_mv rfl) (hd 14 rfl) ?_
  refine jo_call Try.f39 (hfi) rfl Try.func39 rfl rfl (ovL_cons rfl ovL_nil) (.cons .n .nil) (hd 15 rfl) ?_ (fun ch hp => by simp at hp)
  rintro y hy; injection hy with hy; subst hy; refine jo_l (ly_mv rfl) (hd 13 rfl) ?_; refine jo_l (ly_ext rfl rfl) (hd 16 rfl) ?_; refine jo_l (ly_ext rfl rfl) (hd 17 rfl) ?_; refine jo_l (ly_as rfl) (hd 0 rfl) ?_; refine jo_l (ly_as rfl) (hd 7 rfl) ?_; refine jo_nil ?_; refine jc_seq ?_; refine jc_seq ?_; refine jc_region ?_; refine jo_l (ly_mv rfl) (hd 18 rfl) ?_; refine jo_l (ly_ff (ly_ne rfl rfl) (by decide)) (hd 19 rfl) ?_; refine jo_nil ?_; refine jc_litf rfl ?_; refine jc_skip ?_; refine jc_seq ?_; refine jc_seq ?_; refine jc_region ?_; refine jo_l (ly_mv rfl) (hd 21 rfl) ?_; refine jo_l (ly_ff (ly_eq rfl rfl) (by omega)) (hd 22 rfl) ?_; refine jo_l (ly_mv rfl) (hd 23 rfl) ?_; refine jo_g 23 rfl rfl (ly_mv rfl) (hd 24 rfl) ?_
  refine jo_callg Try.f15 23 rfl rfl (hLz) rfl Try.func15 rfl rfl (ovL_cons rfl ovL_nil) (.cons .n .nil) (hd 25 rfl) ?_ (fun ch hp => by simp at hp)
  rintro y hy; injection hy with hy; subst hy; refine jo_g 23 rfl rfl (ly_tt (ly_eq rfl rfl) rfl) (hd 26 rfl) ?_; refine jo_l (ly_pick_f rfl rfl) (hd 27 rfl) ?_; refine jo_nil ?_; refine jc_litt rfl ?_; refine jc_seq ?_; refine jc_region ?_; refine jo_l (ly_mv rfl) (hd 28 rfl) ?_; refine jo_l (ly_as rfl) (hd 4 rfl) ?_; refine jo_l (ly_as rfl) (hd 5 rfl) ?_; refine jo_l (ly_as rfl) (hd 6 rfl) ?_; refine jo_nil ?_; refine jc_ret ?_
  refine ⟨_, _, (.cons rfl (.cons rfl (.cons rfl .nil))), (.t1 .nn (.t1 (.nil (fr := false) (k := .u64)) (.t1 .i .t0))), ?_⟩
  exact rfl

theorem Pow_all (v n : Nat) (hn : 1 ≤ n) (hn9 : n ≤ 67108864) (hf : lenV (PW v n) ≤ 67108864) : Spec Try.prog 10 [.n false .u64 (lm (v : Int)), .i .i64 (n : Int)] (fun o => o = .ret (.t [.n false .u64 (lm (PW v n)), .i .i64 0])) := by
  rcases Nat.lt_or_ge v 2 with h | h
  · have h1 := Pow_z v n (by omega) hn hn9
    have e : PW v n = (v : Int) := by
      unfold PW
      rcases Nat.eq_zero_or_pos v with h0 | h0
      · subst h0; rw [Nat.zero_pow (by omega)]
      · rw [show v = 1 by omega, Nat.one_pow]
    rwa [e]
  · refine Pow_v v n h ?_ hf
    have h1 := PW_mono (v := v) (m := 1) (n := n) h hn
    rw [PW_1] at h1
    omega
theorem Root_all (l : List Int) (a n r : Nat) (hl : l.length ≤ 1048576) (hu : u64s l) (hv : vl l = (a : Int)) (hn : 1 ≤ n) (hn9 : n ≤ 67108864) (hRt : RootIs a n r) (hf : 2 * lenV (a : Int) + 200 ≤ 67108864) : Spec Try.prog 9 [.n false .u64 l, .i .i64 (n : Int)] (fun o => o = .ret (.t [.n false .u64 (lm (r : Int)), .n false .u64 (lm ((a : Int) - PW r n)), .i .i64 0])) := by
  rcases Nat.eq_zero_or_pos a with h0 | h0
  · subst h0
    have hr : r = 0 := (root_small hRt hn) |> fun h => by omega
    subst hr
    have e : PW 0 n = 0 := by unfold PW; rw [Nat.zero_pow (by omega)]; rfl
    rw [e, show ((0 : Nat) : Int) - 0 = 0 from rfl, show ((0 : Nat) : Int) = 0 from rfl, lm_0]
    rcases Nat.lt_or_ge n 2 with h1 | h1
    · obtain rfl : n = 1 := by omega
      have h := Root_k1 l 0 hl hu hv (by omega)
      rwa [show ((0 : Nat) : Int) = 0 from rfl, lm_0] at h
    · exact Root_00 l n hl hu hv h1
  · rcases Nat.lt_or_ge n 2 with h1 | h1
    · obtain rfl : n = 1 := by omega
      have hr : a = r := hRt.uniq ⟨by rw [Nat.pow_one]; exact Nat.le_refl _, by rw [Nat.pow_one]; omega⟩
      subst hr
      have h := Root_k1 l a hl hu hv (by omega)
      rwa [PW_1, Int.sub_self, lm_0]
    · have hp : lenV (PW r n) ≤ 67108864 := Nat.le_trans (lenV_mono (w := (a : Int)) (by unfold PW; rw [Int.natAbs_natCast, Int.natAbs_natCast]; exact hRt.le)) (by omega)
      rcases Nat.lt_or_ge n (lenV (a : Int)) with h2 | h2
      · obtain ⟨m, rfl⟩ : ∃ m, n = m + 1 := ⟨n - 1, by omega⟩
        exact Root_s l a (m + 1) r hl hu hv h0 h1 hRt (by omega) (newton_v a m r _ h2 hRt rfl hf) (Pow_all r (m + 1) hn hn9 hp)
      · have hr := root_1 hRt h0 h2 hn
        subst hr
        exact Root_s l a n 1 hl hu hv h0 h1 hRt (by omega) (newton_1 a n h2 (by omega)) (Pow_all 1 n hn hn9 hp)

set_option maxHeartbeats 4000000 in
theorem Sqrt_all (l : List Int) (a r : Nat) (hl : l.length ≤ 1048576) (hu : u64s l) (hv : vl l = (a : Int)) (hRt : RootIs a 2 r) (hf : 2 * lenV (a : Int) + 200 ≤ 67108864) : Spec Try.prog 14 [.n false .u64 l] (fun o => o = .ret (.t [.n false .u64 (lm (r : Int)), .n false .u64 (lm ((a : Int) - PW r 2)), .i .i64 0])) := by
  refine spec_of' [(0, .n false .u64 l)] rfl Try.func14 rfl (Nat.le_of_ble_eq_true rfl) fun Γ hN hds hL hR => ?_
  have hd : ∀ d, Nat.blt d 10 = true → d < Γ.N := fun d h => by rw [hN]; exact Nat.le_of_ble_eq_true h
  refine jc_seq ?_; refine jc_region ?_; refine jo_l (ly_as rfl) (hd 2 rfl) ?_; refine jo_l (ly_as rfl) (hd 3 rfl) ?_; refine jo_l (ly_as rfl) (hd 4 rfl) ?_; refine jo_nil ?_; refine jc_seq ?_; refine jc_region ?_; refine jo_l (ly_mv rfl) (hd 5 rfl) ?_
  refine jo_call Try.f9 (Root_all l a 2 r hl hu hv (by decide) (by decide) hRt hf) rfl Try.func9 rfl rfl (ovL_cons rfl (ovL_cons rfl ovL_nil)) (.cons .n (.cons .i .nil)) (hd 6 rfl) ?_ (fun ch hp => by simp at hp)
  rintro y hy; injection hy with hy; subst hy; refine jo_l (ly_ext rfl rfl) (hd 7 rfl) ?_; refine jo_l (ly_ext rfl rfl) (hd 8 rfl) ?_; refine jo_l (ly_ext rfl rfl) (hd 9 rfl) ?_; refine jo_l (ly_as rfl) (hd 2 rfl) ?_; refine jo_l (ly_as rfl) (hd 3 rfl) ?_; refine jo_l (ly_as rfl) (hd 4 rfl) ?_; refine jo_nil ?_; refine jc_ret ?_
  refine ⟨_, _, (.cons rfl (.cons rfl (.cons rfl .nil))), (.t1 .n (.t1 .n (.t1 .i .t0))), ?_⟩
  exact rfl
end Go.Proofs.Ytaogaegchagbfaa.Vc

/- The contract of surdtop.WholeRoots. -/
namespace Go.Proofs.Ytaogaegchagbfaa.Vc
open Go Go.RowKit
set_option maxHeartbeats 4000000 in
theorem put_40 (v : Int) (h0 : -9223372036854775808 ≤ v) (h9 : v < 9223372036854775808) : Spec Try.prog 8 [.i .i64 v, .i .i64 1, .i .i64 40] (fun o => ∃ b : Nat, 1 ≤ b ∧ b ≤ 40 ∧ o = .ret (.i .i64 (b : Int))) := by
  refine spec_of' [(0, .i .i64 v), (1, .i .i64 1), (2, .i .i64 40)] rfl Try.func8 rfl (Nat.le_of_ble_eq_true rfl) fun Γ hN hds hL hR => ?_
  have hd : ∀ d, Nat.blt d 24 = true → d < Γ.N := fun d h => by rw [hN]; exact Nat.le_of_ble_eq_true h
  have h1 := Int.tmod_lt_of_pos v (show (0 : Int) < 40 by decide)
  have h2 : -40 < v.tmod 40 := by have := Int.lt_tmod_of_pos v (show (0 : Int) < 40 by decide); omega
  refine jc_seq ?_; refine jc_region ?_; refine jo_l (ly_as rfl) (hd 6 rfl) ?_; refine jo_nil ?_; refine jc_seq ?_; refine jc_region ?_; refine jo_l (ly_mv rfl) (hd 7 rfl) ?_; refine jo_l (ly_mv rfl) (hd 8 rfl) ?_; refine jo_l (ly_mv rfl) (hd 9 rfl) ?_; refine jo_l (ly_sub rfl rfl (r := 39) rfl) (hd 10 rfl) ?_; refine jo_l (ly_add rfl rfl (r := 40) rfl) (hd 11 rfl) ?_; refine jo_l (ly_rem rfl rfl (by decide) rfl) (hd 12 rfl) ?_; refine jo_l (ly_as rfl) (hd 0 rfl) ?_; refine jo_nil ?_; refine jc_seq ?_; refine jc_seq ?_; refine jc_region ?_; refine jo_l (ly_mv rfl) (hd 13 rfl) ?_; refine jo_l (ly_lt rfl rfl) (hd 14 rfl) ?_; refine jo_nil ?_
  refine jc_if rfl (fun h1 => ?_) (fun h1 => ?_)
  · refine jc_region ?_; refine jo_l (ly_mv rfl) (hd 15 rfl) ?_; refine jo_l (ly_mv rfl) (hd 16 rfl) ?_; refine jo_l (ly_mv rfl) (hd 17 rfl) ?_; refine jo_l (ly_sub rfl rfl (r := 39) rfl) (hd 18 rfl) ?_; refine jo_l (ly_add rfl rfl (r := 40) rfl) (hd 19 rfl) ?_; refine jo_l (ly_add rfl rfl (r := v.tmod 40 + 40) (wrap_i64 (by omega) (by omega))) (hd 20 rfl) ?_; refine jo_l (ly_as rfl) (hd 0 rfl) ?_; refine jo_nil ?_; refine jc_seq ?_; refine jc_region ?_; refine jo_l (ly_mv rfl) (hd 21 rfl) ?_; refine jo_l (ly_mv rfl) (hd 22 rfl) ?_; refine jo_l (ly_add rfl rfl (wrap_i64 (by omega) (by omega))) (hd 23 rfl) ?_; refine jo_l (ly_as rfl) (hd 6 rfl) ?_; refine jo_nil ?_; refine jc_ret ?_
    refine ⟨_, _, (.cons rfl .nil), .i, ?_⟩
    refine ⟨(_ : Int).toNat, ?_, ?_, congrArg (fun z => Out.ret (V.i .i64 z)) (Int.toNat_of_nonneg ?_).symm⟩ <;> omega
  · refine jc_skip ?_; refine jc_seq ?_; refine jc_region ?_; refine jo_l (ly_mv rfl) (hd 21 rfl) ?_; refine jo_l (ly_mv rfl) (hd 22 rfl) ?_; refine jo_l (ly_add rfl rfl (wrap_i64 (by omega) (by omega))) (hd 23 rfl) ?_; refine jo_l (ly_as rfl) (hd 6 rfl) ?_; refine jo_nil ?_; refine jc_ret ?_
    refine ⟨_, _, (.cons rfl .nil), .i, ?_⟩
    refine ⟨(_ : Int).toNat, ?_, ?_, congrArg (fun z => Out.ret (V.i .i64 z)) (Int.toNat_of_nonneg ?_).symm⟩ <;> omega

set_option maxHeartbeats 20000000 in
set_option maxRecDepth 100000 in
theorem WholeRoots_b (a : List Int) (c : Int) (hab : a.length ≤ 1048575) (ua : u64s a) (hc0 : -9223372036854775808 ≤ c) (hc9 : c < 9223372036854775808) (hbs : smallB 65536 [a] = false) : Spec Try.prog 3 [.n false .u64 a, .i .i64 c] (fun o => o = .ret (.b true)) := by
  refine spec_of' [(0, .n false .u64 a), (1, .i .i64 c)] rfl Try.func3 rfl (Nat.le_of_ble_eq_true rfl) fun Γ hN hds hL hR => ?_
  have hd : ∀ d, Nat.blt d 116 = true → d < Γ.N := fun d h => by rw [hN]; exact Nat.le_of_ble_eq_true h
  have hSm : Spec Try.prog 6 [.i .i64 65536, .l false 1 (rowsV [a])] (fun o => o = .ret (.b false)) := by have h := small_s 65536 [a] (fun l hl => by simp only [List.mem_cons, List.mem_nil_iff, or_false] at hl; subst hl; exact ⟨by omega, by assumption⟩) (by simp); rwa [hbs] at h
  refine jc_seq ?_; refine jc_region ?_; refine jo_l (ly_as rfl) (hd 4 rfl) ?_; refine jo_nil ?_; refine jc_seq ?_; refine jc_seq ?_; refine jc_region ?_; refine jo_l (ly_mv rfl) (hd 17 rfl) ?_; refine jo_h (hy_lit (id := 0) (xs := [.tmp 17]) el81 rfl (ovL_cons rfl ovL_nil) rfl (all2_of rfl) (by decide) rfl) (hd 18 rfl) ?_; refine jo_frzr 18 (sz := 1) (rowsV [a]) rfl rfl rfl rfl (by simp [rowsV]) (by simp [rowsV, pureV]) (by decide) hL ?_
  refine jo_call Try.f6 (hSm) rfl Try.func6 rfl rfl (ovL_cons rfl (ovL_cons rfl ovL_nil)) (.cons .i (.cons .l .nil)) (hd 19 rfl) ?_ (fun ch hp => by simp at hp)
  rintro y hy; injection hy with hy; subst hy; refine jo_l (ly_not rfl) (hd 20 rfl) ?_; refine jo_nil ?_; refine jc_litt rfl ?_; refine jc_seq ?_; refine jc_region ?_
  refine jo_call Try.f7 (works_s) rfl Try.func7 rfl rfl ovL_nil .nil (hd 21 rfl) ?_ (fun ch hp => by simp at hp)
  rintro y hy; injection hy with hy; subst hy; refine jo_l (ly_as rfl) (hd 4 rfl) ?_; refine jo_nil ?_; refine jc_ret ?_
  refine ⟨_, _, (.cons rfl .nil), .b, ?_⟩
  exact rfl

set_option maxHeartbeats 20000000 in
set_option maxRecDepth 100000 in
theorem WholeRoots_y (a : List Int) (c : Int) (hab : a.length ≤ 1048575) (ua : u64s a) (hc0 : -9223372036854775808 ≤ c) (hc9 : c < 9223372036854775808) (hbs : smallB 65536 [a] = true) : Spec Try.prog 3 [.n false .u64 a, .i .i64 c] (fun o => o = .ret (.b true)) := by
  refine spec_of' [(0, .n false .u64 a), (1, .i .i64 c)] rfl Try.func3 rfl (Nat.le_of_ble_eq_true rfl) fun Γ hN hds hL hR => ?_
  have hd : ∀ d, Nat.blt d 116 = true → d < Γ.N := fun d h => by rw [hN]; exact Nat.le_of_ble_eq_true h
  have hSm : Spec Try.prog 6 [.i .i64 65536, .l false 1 (rowsV [a])] (fun o => o = .ret (.b true)) := by have h := small_s 65536 [a] (fun l hl => by simp only [List.mem_cons, List.mem_nil_iff, or_false] at hl; subst hl; exact ⟨by omega, by assumption⟩) (by simp); rwa [hbs] at h
  have hs2 : lenV (vl a) ≤ 65536 := by unfold smallB at hbs; simpa using hbs
  have hvn := vl_nonneg ua
  have hva : (vl a) = (((vl a).toNat : Nat) : Int) := by omega
  have hlmA := lenV_lm (v := (vl a)) (by omega)
  have hmm := lenV_mul (vl a) (vl a)
  have hSq : Spec Try.prog 13 [.n false .u64 a] (fun o => o = .ret (.t [.n true .u64 (lm ((vl a) * (vl a))), .i .i64 0])) := (Square_l a (by omega) ua).mono fun o ⟨r, e, ho, h⟩ => by obtain ⟨rfl, rfl⟩ := errL_fit h (by omega); exact ho
  have hsqe : (vl a) * (vl a) = (((vl a).toNat * (vl a).toNat : Nat) : Int) := by rw [Int.natCast_mul, ← hva]
  have hlsq := lenV_lm (v := (vl a) * (vl a)) (by omega)
  have hSr : Spec Try.prog 14 [.n false .u64 (lm ((vl a) * (vl a)))] (fun o => o = .ret (.t [.n false .u64 (lm (vl a)), .n false .u64 [], .i .i64 0])) := by have h := Sqrt_all (lm ((vl a) * (vl a))) ((vl a).toNat * (vl a).toNat) (vl a).toNat (by omega) (lm_u _) (by rw [hsqe]; exact vl_lm (Int.natCast_nonneg _)) (root_sq _) (by rw [← hsqe]; omega); rwa [show (((vl a).toNat * (vl a).toNat : Nat) : Int) - PW (vl a).toNat 2 = 0 by unfold PW; rw [Nat.pow_two]; exact Int.sub_self _, lm_0, ← hva] at h
  have hCa : Spec Try.prog 12 [.n false .u64 (lm (vl a)), .n false .u64 a] (fun o => o = .ret (.i .i64 0)) := by have h := Compare_s (lm (vl a)) a (by omega) (by omega); rwa [cmpL_same ua] at h
  have hLz : Spec Try.prog 15 [.n false .u64 []] (fun o => o = .ret (.i .i64 0)) := by have h := Length_s [] (by decide) (fun x hx => by cases hx); rwa [show ((lenN [] : Nat) : Int) = 0 by decide +kernel] at h
  refine jc_seq ?_; refine jc_region ?_; refine jo_l (ly_as rfl) (hd 4 rfl) ?_; refine jo_nil ?_; refine jc_seq ?_; refine jc_seq ?_; refine jc_region ?_; refine jo_l (ly_mv rfl) (hd 17 rfl) ?_; refine jo_h (hy_lit (id := 0) (xs := [.tmp 17]) el81 rfl (ovL_cons rfl ovL_nil) rfl (all2_of rfl) (by decide) rfl) (hd 18 rfl) ?_; refine jo_frzr 18 (sz := 1) (rowsV [a]) rfl rfl rfl rfl (by simp [rowsV]) (by simp [rowsV, pureV]) (by decide) hL ?_
  refine jo_call Try.f6 (hSm) rfl Try.func6 rfl rfl (ovL_cons rfl (ovL_cons rfl ovL_nil)) (.cons .i (.cons .l .nil)) (hd 19 rfl) ?_ (fun ch hp => by simp at hp)
  rintro y hy; injection hy with hy; subst hy; refine jo_l (ly_not rfl) (hd 20 rfl) ?_; refine jo_nil ?_; refine jc_litf rfl ?_; refine jc_skip ?_; refine jc_seq ?_; refine jc_region ?_; refine jo_l (ly_mv rfl) (hd 22 rfl) ?_
  refine jo_call Try.f8 (put_40 c hc0 hc9) rfl Try.func8 rfl rfl (ovL_cons rfl (ovL_cons rfl (ovL_cons rfl ovL_nil))) (.cons .i (.cons .i (.cons .i .nil))) (hd 23 rfl) ?_ (fun ch hp => by simp at hp)
  rintro y ⟨kk, hk1, hk4, hy⟩; injection hy with hy; subst hy
  obtain ⟨r, hRt⟩ := root_ex (k := kk) (by omega) (vl a).toNat
  have hle := hRt.le
  have hlt := hRt.lt
  have hPl : PW r kk ≤ (vl a) := by rw [hva]; unfold PW; omega
  have hPn : 0 ≤ PW r kk := PW_nn
  have hlp : lenV (PW r kk) ≤ lenV (vl a) := lenV_mono (by omega)
  have hld : lenV ((vl a) - PW r kk) ≤ lenV (vl a) := lenV_mono (by omega)
  have hnx := root_next hRt
  rw [← hva] at hnx
  have hr9 : lenV (r : Int) ≤ lenV (vl a) := lenV_mono (by have := root_small hRt (by omega); omega)
  have hRo := Root_all a (vl a).toNat kk r (by omega) ua hva (by omega) (by omega) hRt (by rw [← hva]; omega)
  rw [← hva] at hRo
  have hPo := Pow_all r kk (by omega) (by omega) (by omega)
  have hPx := Pow_all (r + 1) kk (by omega) (by omega) (by omega)
  have hAd : Spec Try.prog 11 [.n false .u64 (lm (PW r kk)), .n false .u64 (lm ((vl a) - PW r kk))] (fun o => o = .ret (.t [.n false .u64 (lm (vl a)), .i .i64 0])) := by have h := Add_f (PW r kk) ((vl a) - PW r kk) hPn (by omega) (by omega) (by omega) (by rw [show PW r kk + ((vl a) - PW r kk) = (vl a) by omega]; omega); rwa [show PW r kk + ((vl a) - PW r kk) = (vl a) by omega] at h
  have hl1 : lenV 1 = 1 := by decide +kernel
  have hs1 := lenV_add (r : Int) 1
  have hA1 : Spec Try.prog 11 [.n false .u64 (lm (r : Int)), .n false .u64 [1]] (fun o => o = .ret (.t [.n false .u64 (lm ((r + 1 : Nat) : Int)), .i .i64 0])) := by have h := Add_f (r : Int) 1 (by omega) (by decide) (by omega) (by omega) (by omega); rwa [show lm 1 = [1] by rw [← fl_lm (by decide) (by decide)]; rfl] at h
  have hlQ := lenV_lm (v := PW (r + 1) kk) (by omega)
  have hCq : Spec Try.prog 12 [.n false .u64 (lm (PW (r + 1) kk)), .n false .u64 a] (fun o => o = .ret (.i .i64 1)) := by
    have h := Compare_s (lm (PW (r + 1) kk)) a (by omega) (by omega)
    have h1 := cmpL_val (lm_u (PW (r + 1) kk)) ua
    rw [vl_lm PW_nn] at h1
    have h2 : (vl a) < PW (r + 1) kk := by rw [hva]; unfold PW; omega
    rcases h1 with ⟨h3, h4⟩ | ⟨h3, h4⟩ | ⟨h3, h4⟩
    · omega
    · omega
    · rwa [h3] at h
  refine jo_l (ly_as rfl) (hd 1 rfl) ?_; refine jo_nil ?_; refine jc_seq ?_; refine jc_region ?_; refine jo_l (ly_mv rfl) (hd 25 rfl) ?_; refine jo_l (ly_mv rfl) (hd 26 rfl) ?_
  refine jo_call Try.f9 (hRo) rfl Try.func9 rfl rfl (ovL_cons rfl (ovL_cons rfl ovL_nil)) (.cons .n (.cons .i .nil)) (hd 27 rfl) ?_ (fun ch hp => by simp at hp)
  rintro y hy; injection hy with hy; subst hy; refine jo_l (ly_mv rfl) (hd 24 rfl) ?_; refine jo_l (ly_ext rfl rfl) (hd 28 rfl) ?_; refine jo_l (ly_ext rfl rfl) (hd 29 rfl) ?_; refine jo_l (ly_ext rfl rfl) (hd 30 rfl) ?_; refine jo_l (ly_as rfl) (hd 5 rfl) ?_; refine jo_l (ly_as rfl) (hd 6 rfl) ?_; refine jo_l (ly_as rfl) (hd 7 rfl) ?_; refine jo_nil ?_; refine jc_seq ?_; refine jc_region ?_; refine jo_l (ly_mv rfl) (hd 32 rfl) ?_; refine jo_l (ly_mv rfl) (hd 33 rfl) ?_
  refine jo_call Try.f10 (hPo) rfl Try.func10 rfl rfl (ovL_cons rfl (ovL_cons rfl ovL_nil)) (.cons .n (.cons .i .nil)) (hd 34 rfl) ?_ (fun ch hp => by simp at hp)
  rintro y hy; injection hy with hy; subst hy; refine jo_l (ly_mv rfl) (hd 31 rfl) ?_; refine jo_l (ly_ext rfl rfl) (hd 35 rfl) ?_; refine jo_l (ly_ext rfl rfl) (hd 36 rfl) ?_; refine jo_l (ly_as rfl) (hd 8 rfl) ?_; refine jo_l (ly_as rfl) (hd 9 rfl) ?_; refine jo_nil ?_; refine jc_seq ?_; refine jc_region ?_; refine jo_l (ly_mv rfl) (hd 38 rfl) ?_; refine jo_l (ly_mv rfl) (hd 39 rfl) ?_
  refine jo_call Try.f11 (hAd) rfl Try.func11 rfl rfl (ovL_cons rfl (ovL_cons rfl ovL_nil)) (.cons .n (.cons .n .nil)) (hd 40 rfl) ?_ (fun ch hp => by simp at hp)
  rintro y hy; injection hy with hy; subst hy; refine jo_l (ly_mv rfl) (hd 37 rfl) ?_; refine jo_l (ly_ext rfl rfl) (hd 41 rfl) ?_; refine jo_l (ly_ext rfl rfl) (hd 42 rfl) ?_; refine jo_l (ly_as rfl) (hd 10 rfl) ?_; refine jo_l (ly_as rfl) (hd 11 rfl) ?_; refine jo_nil ?_; refine jc_seq ?_; refine jc_region ?_; refine jo_l (ly_mv rfl) (hd 44 rfl) ?_; refine jo_h (hy_lit (id := 1) (xs := [.const (.int .u64 1)]) el28 rfl (ovL_cons rfl ovL_nil) rfl (all2_of rfl) (by decide) rfl) (hd 45 rfl) ?_; refine jo_frz (k := .u64) (l := [1]) (l' := [1]) 45 rfl rfl (by decide) rfl hL ?_
  refine jo_call Try.f11 (hA1) rfl Try.func11 rfl rfl (ovL_cons rfl (ovL_cons rfl ovL_nil)) (.cons .n (.cons .n .nil)) (hd 46 rfl) ?_ (fun ch hp => by simp at hp)
  rintro y hy; injection hy with hy; subst hy; refine jo_l (ly_mv rfl) (hd 43 rfl) ?_; refine jo_l (ly_ext rfl rfl) (hd 47 rfl) ?_; refine jo_l (ly_ext rfl rfl) (hd 48 rfl) ?_; refine jo_l (ly_as rfl) (hd 12 rfl) ?_; refine jo_l (ly_as rfl) (hd 13 rfl) ?_; refine jo_nil ?_; refine jc_seq ?_; refine jc_region ?_; refine jo_l (ly_mv rfl) (hd 50 rfl) ?_; refine jo_l (ly_mv rfl) (hd 51 rfl) ?_
  refine jo_call Try.f10 (hPx) rfl Try.func10 rfl rfl (ovL_cons rfl (ovL_cons rfl ovL_nil)) (.cons .n (.cons .i .nil)) (hd 52 rfl) ?_ (fun ch hp => by simp at hp)
  rintro y hy; injection hy with hy; subst hy; refine jo_l (ly_mv rfl) (hd 49 rfl) ?_; refine jo_l (ly_ext rfl rfl) (hd 53 rfl) ?_; refine jo_l (ly_ext rfl rfl) (hd 54 rfl) ?_; refine jo_l (ly_as rfl) (hd 14 rfl) ?_; refine jo_l (ly_as rfl) (hd 15 rfl) ?_; refine jo_nil ?_; refine jc_seq ?_; refine jc_seq ?_; refine jc_region ?_; refine jo_l (ly_mv rfl) (hd 55 rfl) ?_; refine jo_l (ly_ff (ly_ne rfl rfl) (by decide)) (hd 56 rfl) ?_; refine jo_l (ly_mv rfl) (hd 57 rfl) ?_; refine jo_g 57 rfl rfl (ly_mv rfl) (hd 58 rfl) ?_; refine jo_g 57 rfl rfl (ly_ff (ly_ne rfl rfl) (by decide)) (hd 59 rfl) ?_; refine jo_l (ly_pick_f rfl rfl) (hd 60 rfl) ?_; refine jo_l (ly_mv rfl) (hd 61 rfl) ?_; refine jo_g 61 rfl rfl (ly_mv rfl) (hd 62 rfl) ?_; refine jo_g 61 rfl rfl (ly_ff (ly_ne rfl rfl) (by decide)) (hd 63 rfl) ?_; refine jo_l (ly_pick_f rfl rfl) (hd 64 rfl) ?_; refine jo_l (ly_mv rfl) (hd 65 rfl) ?_; refine jo_g 65 rfl rfl (ly_mv rfl) (hd 66 rfl) ?_; refine jo_g 65 rfl rfl (ly_ff (ly_ne rfl rfl) (by decide)) (hd 67 rfl) ?_; refine jo_l (ly_pick_f rfl rfl) (hd 68 rfl) ?_; refine jo_l (ly_mv rfl) (hd 69 rfl) ?_; refine jo_g 69 rfl rfl (ly_mv rfl) (hd 70 rfl) ?_; refine jo_g 69 rfl rfl (ly_ff (ly_ne rfl rfl) (by decide)) (hd 71 rfl) ?_; refine jo_l (ly_pick_f rfl rfl) (hd 72 rfl) ?_; refine jo_l (ly_mv rfl) (hd 73 rfl) ?_; refine jo_g 73 rfl rfl (ly_mv rfl) (hd 74 rfl) ?_; refine jo_g 73 rfl rfl (ly_mv rfl) (hd 75 rfl) ?_
  refine jo_callg Try.f12 73 rfl rfl (hCa) rfl Try.func12 rfl rfl (ovL_cons rfl (ovL_cons rfl ovL_nil)) (.cons .n (.cons .n .nil)) (hd 76 rfl) ?_ (fun ch hp => by simp at hp)
  rintro y hy; injection hy with hy; subst hy; refine jo_g 73 rfl rfl (ly_ff (ly_ne rfl rfl) (by decide)) (hd 77 rfl) ?_; refine jo_l (ly_pick_f rfl rfl) (hd 78 rfl) ?_; refine jo_l (ly_mv rfl) (hd 79 rfl) ?_; refine jo_g 79 rfl rfl (ly_mv rfl) (hd 80 rfl) ?_; refine jo_g 79 rfl rfl (ly_mv rfl) (hd 81 rfl) ?_
  refine jo_callg Try.f12 79 rfl rfl (hCq) rfl Try.func12 rfl rfl (ovL_cons rfl (ovL_cons rfl ovL_nil)) (.cons .n (.cons .n .nil)) (hd 82 rfl) ?_ (fun ch hp => by simp at hp)
  rintro y hy; injection hy with hy; subst hy; refine jo_g 79 rfl rfl (ly_ff (ly_le rfl rfl) (by decide)) (hd 83 rfl) ?_; refine jo_l (ly_pick_f rfl rfl) (hd 84 rfl) ?_; refine jo_nil ?_; refine jc_litf rfl ?_; refine jc_skip ?_; refine jc_seq ?_; refine jc_region ?_; refine jo_l (ly_mv rfl) (hd 86 rfl) ?_
  refine jo_call Try.f13 (hSq) rfl Try.func13 rfl rfl (ovL_cons rfl ovL_nil) (.cons .n .nil) (hd 87 rfl) ?_ (fun ch hp => by simp at hp)
  rintro y hy; injection hy with hy; subst hy; refine jo_l (ly_mv rfl) (hd 85 rfl) ?_; refine jo_l (ly_ext rfl rfl) (hd 88 rfl) ?_; refine jo_l (ly_ext rfl rfl) (hd 89 rfl) ?_; refine jo_l (ly_as rfl) (hd 16 rfl) ?_; refine jo_l (ly_as rfl) (hd 7 rfl) ?_; refine jo_nil ?_; refine jc_seq ?_; refine jc_region ?_; refine jo_l (ly_mv rfl) (hd 91 rfl) ?_
  refine jo_call Try.f14 (hSr) rfl Try.func14 rfl rfl (ovL_cons rfl ovL_nil) (.cons .n .nil) (hd 92 rfl) ?_ (fun ch hp => by simp at hp)
  rintro y hy; injection hy with hy; subst hy; refine jo_l (ly_mv rfl) (hd 90 rfl) ?_; refine jo_l (ly_ext rfl rfl) (hd 93 rfl) ?_; refine jo_l (ly_ext rfl rfl) (hd 94 rfl) ?_; refine jo_l (ly_ext rfl rfl) (hd 95 rfl) ?_; refine jo_l (ly_as rfl) (hd 5 rfl) ?_; refine jo_l (ly_as rfl) (hd 6 rfl) ?_; refine jo_l (ly_as rfl) (hd 9 rfl) ?_; refine jo_nil ?_; refine jc_seq ?_; refine jc_region ?_; refine jo_l (ly_mv rfl) (hd 96 rfl) ?_; refine jo_l (ly_tt (ly_eq rfl rfl) rfl) (hd 97 rfl) ?_; refine jo_l (ly_mv rfl) (hd 98 rfl) ?_; refine jo_g 98 rfl rfl (ly_mv rfl) (hd 99 rfl) ?_; refine jo_g 98 rfl rfl (ly_tt (ly_eq rfl rfl) rfl) (hd 100 rfl) ?_; refine jo_l (ly_pick_t rfl rfl) (hd 101 rfl) ?_; refine jo_l (ly_mv rfl) (hd 102 rfl) ?_; refine jo_g 102 rfl rfl (ly_mv rfl) (hd 103 rfl) ?_; refine jo_g 102 rfl rfl (ly_mv rfl) (hd 104 rfl) ?_
  refine jo_callg Try.f12 102 rfl rfl (hCa) rfl Try.func12 rfl rfl (ovL_cons rfl (ovL_cons rfl ovL_nil)) (.cons .n (.cons .n .nil)) (hd 105 rfl) ?_ (fun ch hp => by simp at hp)
  rintro y hy; injection hy with hy; subst hy; refine jo_g 102 rfl rfl (ly_tt (ly_eq rfl rfl) rfl) (hd 106 rfl) ?_; refine jo_l (ly_pick_t rfl rfl) (hd 107 rfl) ?_; refine jo_l (ly_mv rfl) (hd 108 rfl) ?_; refine jo_g 108 rfl rfl (ly_mv rfl) (hd 109 rfl) ?_
  refine jo_callg Try.f15 108 rfl rfl (hLz) rfl Try.func15 rfl rfl (ovL_cons rfl ovL_nil) (.cons .n .nil) (hd 110 rfl) ?_ (fun ch hp => by simp at hp)
  rintro y hy; injection hy with hy; subst hy; refine jo_g 108 rfl rfl (ly_tt (ly_eq rfl rfl) rfl) (hd 111 rfl) ?_; refine jo_l (ly_pick_t rfl rfl) (hd 112 rfl) ?_; refine jo_l (ly_mv rfl) (hd 113 rfl) ?_
  refine jo_callg Try.f7 113 rfl rfl (works_s) rfl Try.func7 rfl rfl ovL_nil .nil (hd 114 rfl) ?_ (fun ch hp => by simp at hp)
  rintro y hy; injection hy with hy; subst hy; refine jo_l (ly_pick_t rfl rfl) (hd 115 rfl) ?_; refine jo_l (ly_as rfl) (hd 4 rfl) ?_; refine jo_nil ?_; refine jc_ret ?_
  refine ⟨_, _, (.cons rfl .nil), .b, ?_⟩
  exact rfl

theorem WholeRoots_s (a : List Int) (c : Int) (hab : a.length ≤ 1048575) (ua : u64s a) (hc0 : -9223372036854775808 ≤ c) (hc9 : c < 9223372036854775808) : Spec Try.prog 3 [.n false .u64 a, .i .i64 c] (fun o => o = .ret (.b true)) := by
  cases hbs : smallB 65536 [a] with
  | false => exact WholeRoots_b a c hab ua hc0 hc9 hbs
  | true => exact WholeRoots_y a c hab ua hc0 hc9 hbs
end Go.Proofs.Ytaogaegchagbfaa.Vc

/- The law WholeRoots of every input of bulk at most 1048576: it returns true, and the input reads as it did. -/
namespace Go.Proofs.Ytaogaegchagbfaa.wholeRoots
open Go Go.ChangeShapes Go.WideShapes Go.ChangeAt Go.RowKit
open Go.ChangeMaps (open_string shut_string)

theorem own : ownKnob Try.prog.godebug = none := by kernel_rfl
theorem laidOut : laidOutB Try.prog = true := by kernel_rfl
set_option maxRecDepth 100000 in
theorem lifted (os : Os) (started : os.Started) (H : Type) (enc : TypeId × Value → H) (F : Stop.Interp) :
    ReturnsInHanded {} Try.checked os 3 .any ((Rows.OpenSpec.upto Rows.wholeRootsSpec).pre6 enc Try.prog Try.f3 Rows.wholeRootsUptoRow.domain false) (((Rows.OpenSpec.upto Rows.wholeRootsSpec).at F).post enc Try.prog Try.f3 false true false false) := by
  refine returnsInHanded_of_cond (C := Try.checked) (s := Rows.OpenSpec.upto Rows.wholeRootsSpec) (k := Rows.uptoSmall) rfl own started (by kernel_rfl) Try.func3
    (OpenSpec.witness (enc := enc) (C := Try.checked) (s := Rows.OpenSpec.upto Rows.wholeRootsSpec) (k := Rows.uptoSmall) rfl false ⟨#[], #[.slice none 0 0, .int .i64 0], []⟩ 8 (by kernel_rfl) (by kernel_rfl) (by kernel_rfl)
      (x := ([.nil, .lit (.int .i64 0)], [], [])) (by kernel_rfl) rfl (by kernel_rfl)) ?_
  intro W base args ds gs before hval0 hW _ hk _
  have hval : ∀ (j : Nat) t v, Try.f3.params[j]? = some t → args[j]? = some v → Value.okWide Try.prog W .any base t v := hval0
  have hW' := hW
  obtain ⟨p, q, hA0, hV, rfl, hfz, hnd⟩ := hW
  have hA : DataW.TrodAll enc Try.prog W 0 (fun _ => true) true Try.f3.params.toList args.toList ds p := hA0
  rw [Try.params3] at hA hval
  obtain ⟨v0, vs0, d0, ds0, p0, q0, hargs, rfl, rfl, h0, r0⟩ := trodAll_cons hA
  obtain ⟨v1, vs1, d1, ds1, p1, q1, rfl, rfl, rfl, h1, r1⟩ := trodAll_cons r0
  obtain ⟨rfl, rfl, rfl⟩ := trodAll_nil r1
  obtain rfl : args = #[v0, v1] := by cases args; simp_all
  obtain ⟨rfl, rfl⟩ := trodVars_none hV
  have hk0 := h0
  obtain ⟨l0, rel0, hb0, ul0⟩ := Vc.openN28 (hval 0 23 v0 rfl rfl) h0
  obtain ⟨a1, rfl, rfl, rfl, w1⟩ := open_int Try.underlying3 (hval 1 3 v1 rfl rfl) h1
  clear hA0 hval0
  simp only [List.append_nil] at hW' hk
  refine (Vc.spec_calls (vals := [v0, .int .i64 a1]) (Vc.WholeRoots_s l0 a1 (Vc.short1n hk hb0) ul0 (by have := w1; simp [Lit.wf, IntKind.min, IntKind.max, IntKind.signed, IntKind.bits] at this; omega) (by have := w1; simp [Lit.wf, IntKind.min, IntKind.max, IntKind.signed, IntKind.bits] at this; omega)) W (⟨_, _, rfl, rel0, ⟨_, _, rfl, rfl, rfl⟩⟩)).mono fun e W' ⟨he, hb⟩ => ?_; subst he
  have hlt : ∀ x ∈ p0, x.block < W.heap.size := fun x hx => by simpa using hW'.lt x (by simpa using hx)
  exact ⟨_, rfl, Vc.post_of_below (pa := (p0 ++ ([] ++ []))) (pv := []) hW' (fun _ _ _ => (trodAll_cons_mk (shut_bool Try.underlying4 _) trodAll_mk0)) (fun sp hsp => (trodAll_cons_mk (Go.WideElems.Trod_stays laidOut (by kernel_rfl) (of_decide_eq_true (by kernel_rfl)) hk0 (fun x hx => hb.same (hlt x (by simp [hx]))) (fun x hx => hsp x (by simp [hx]))) (trodAll_cons_mk (shut_int Try.underlying3 w1) trodAll_mk0))) (fun _ _ => rfl) (by simp) hb⟩

theorem proved : Rows.WholeRootsUptoSaid :=
  OpenClaim.holds_of_cond 3 Try.f3 rfl rfl rfl rfl rfl rfl rfl ⟨rfl, rfl, rfl, rfl, rfl⟩ rfl rfl rfl rfl rfl (by kernel_rfl) Try.func3 (by kernel_rfl)
    (of_decide_eq_true (by kernel_rfl)) (by unfold Func.isWrapper; first | (rw [if_pos (by decide +kernel)]; kernel_rfl) | (rw [if_neg (by decide +kernel)]; exact ⟨rfl, rfl⟩))
    (fun os started H enc _ F => lifted os started H enc F)
end Go.Proofs.Ytaogaegchagbfaa.wholeRoots
