/- Parts of the proof that whole.Add, Sub and Mul answer as the document says. Texts joined: Yc, Yd, RSums. -/
import Derived.Test.YtcdipmjgpimmdaaK6
import Derived.Test.YtcdipmjgpimmdaaRows
import Derived.WalkKit
import Derived.ProofKit
import Derived.OpenShut
import Derived.Carry
import Derived.JoinedCond
/- The contract of surdlaw06.WholeSums. -/
set_option linter.unusedVariables false
set_option linter.unusedSimpArgs false
namespace Go.Proofs.Ytcdipmjgpimmdaa.Vc
open Go Go.RowKit
set_option maxHeartbeats 20000000 in
set_option maxRecDepth 100000 in
theorem WholeSums_s (sa sb : Bool) (a b : List Int) (ha : a.length < 4294967296) (hb : b.length < 4294967296) (ua : u64s a) (ub : u64s b) : Spec Try.prog 7 [.a [.b sa, .n false .u64 a], .a [.b sb, .n false .u64 b]] (fun o => o = .ret (.b true)) := by
  refine spec_of' [(0, .a [.b sa, .n false .u64 a]), (1, .a [.b sb, .n false .u64 b])] rfl Try.func7 rfl (Nat.le_of_ble_eq_true rfl) fun Γ hN hds hL hR => ?_
  have hd : ∀ d, Nat.blt d 96 = true → d < Γ.N := fun d h => by rw [hN]; exact Nat.le_of_ble_eq_true h
  have da := dg_lenN (s := sa) ua rfl
  have db := dg_lenN (s := sb) ub rfl
  have dp := dg_add_len (sv sa a) (sv sb b)
  have dq := dg_sub_len (sv sa a) (sv sb b)
  have dr := dg_mul_len (sv sa a) (sv sb b)
  refine jc_seq ?_
  refine jc_region ?_
  refine jo_h (hy_box (id := 0) (n := 2) rfl rfl rfl (by decide) rfl) (hd 2 rfl) ?_
  refine jo_h (hy_box (id := 1) (n := 2) rfl rfl rfl (by decide) rfl) (hd 3 rfl) ?_
  refine jo_l (ly_as rfl) (hd 4 rfl) ?_
  refine jo_nil ?_
  refine jc_seq ?_
  refine jc_region ?_
  refine jo_l (ly_lda agg27 rfl rfl rfl rfl) (hd 18 rfl) ?_
  refine jo_call Try.f11 (lent_s sa a (by omega)) rfl Try.func11 rfl rfl (ovL_cons rfl ovL_nil) (.cons (.a1 .b (.a1 .n .a0)) .nil) (hd 19 rfl) ?_ (fun ch hp => by simp at hp)
  rintro y hy; injection hy with hy; subst hy
  refine jo_l (ly_mv rfl) (hd 17 rfl) ?_
  refine jo_l (ly_ext rfl rfl) (hd 20 rfl) ?_
  refine jo_l (ly_ext rfl rfl) (hd 21 rfl) ?_
  refine jo_h (hy_alloc (id := 2) zero30 (by decide) rfl (by decide) rfl) (hd 6 rfl) ?_
  refine jo_l (ly_as rfl) (hd 5 rfl) ?_
  refine jo_st (sy_store rfl rfl rfl siz30 rfl rfl (Nat.le_of_ble_eq_true rfl)) ?_
  refine jo_nil ?_
  refine jc_seq ?_
  refine jc_region ?_
  refine jo_l (ly_lda agg27 rfl rfl rfl rfl) (hd 23 rfl) ?_
  refine jo_call Try.f11 (lent_s sb b (by omega)) rfl Try.func11 rfl rfl (ovL_cons rfl ovL_nil) (.cons (.a1 .b (.a1 .n .a0)) .nil) (hd 24 rfl) ?_ (fun ch hp => by simp at hp)
  rintro y hy; injection hy with hy; subst hy
  refine jo_l (ly_mv rfl) (hd 22 rfl) ?_
  refine jo_l (ly_ext rfl rfl) (hd 25 rfl) ?_
  refine jo_l (ly_ext rfl rfl) (hd 26 rfl) ?_
  refine jo_h (hy_alloc (id := 3) zero30 (by decide) rfl (by decide) rfl) (hd 8 rfl) ?_
  refine jo_l (ly_as rfl) (hd 7 rfl) ?_
  refine jo_st (sy_store rfl rfl rfl siz30 rfl rfl (Nat.le_of_ble_eq_true rfl)) ?_
  refine jo_nil ?_
  refine jc_seq ?_
  refine jc_H (H' := [⟨27, 2, 0, true, [.b sa, .n false .u64 a]⟩, ⟨27, 2, 0, true, [.b sb, .n false .u64 b]⟩, ⟨30, 2, 0, true, [.b sa, .n true .u64 a]⟩, ⟨30, 2, 0, true, [.b sb, .n true .u64 b]⟩]) rfl ?_
  refine jc_region ?_
  refine jo_l (ly_lda agg30 rfl rfl rfl rfl) (hd 28 rfl) ?_
  refine jo_l (ly_lda agg30 rfl rfl rfl rfl) (hd 29 rfl) ?_
  refine jo_callN Try.f50 (WAdd_n sa sb a b ha hb ua ub) (fun o G ⟨_, _, _, _, h, _⟩ => h ▸ idless_cons ints_id idless_nil) rfl Try.func50 rfl rfl (ovL_cons rfl (ovL_cons rfl ovL_nil)) (.cons (.a1 .b (.a1 .n .a0)) (.cons (.a1 .b (.a1 .n .a0)) .nil)) (hd 30 rfl) ?_ (fun ch G hp => by simp at hp)
  rintro y G ⟨sp, rp, ep, hy, rfl, hp⟩
  injection hy with hy
  subst hy
  show JO _ _ _ _ ((30, .t [.a [.b sp, .o 4 0 0 rp.length], .i .i64 ep]) :: _) _ _
  refine jo_l (ly_mv rfl) (hd 27 rfl) ?_
  refine jo_l (ly_ext rfl rfl) (hd 31 rfl) ?_
  refine jo_l (ly_ext rfl rfl) (hd 32 rfl) ?_
  refine jo_h (hy_alloc (id := 5) zero30 (by decide) rfl (by decide) rfl) (hd 9 rfl) ?_
  refine jo_st (sy_store rfl rfl rfl siz30 rfl rfl (Nat.le_of_ble_eq_true rfl)) ?_
  refine jo_l (ly_as rfl) (hd 10 rfl) ?_
  refine jo_nil ?_
  refine jc_seq ?_
  have lp := hp.len
  refine jc_H (H' := [⟨27, 2, 0, true, [.b sa, .n false .u64 a]⟩, ⟨27, 2, 0, true, [.b sb, .n false .u64 b]⟩, ⟨30, 2, 0, true, [.b sa, .n true .u64 a]⟩, ⟨30, 2, 0, true, [.b sb, .n true .u64 b]⟩, ⟨82, 1, 0, true, ints .u64 rp⟩, ⟨30, 2, 0, true, [.b sp, .o 4 0 0 rp.length]⟩]) rfl ?_
  refine jc_region ?_
  refine jo_l (ly_lda agg30 rfl rfl rfl rfl) (hd 34 rfl) ?_
  refine jo_l (ly_lda agg30 rfl rfl rfl rfl) (hd 35 rfl) ?_
  refine jo_callN Try.f51 (WSub_n sa sb a b ha hb ua ub) (fun o G ⟨_, _, _, _, h, _⟩ => h ▸ idless_cons ints_id idless_nil) rfl Try.func51 rfl rfl (ovL_cons rfl (ovL_cons rfl ovL_nil)) (.cons (.a1 .b (.a1 .n .a0)) (.cons (.a1 .b (.a1 .n .a0)) .nil)) (hd 36 rfl) ?_ (fun ch G hp => by simp at hp)
  rintro y G ⟨sq, rq, eq, hy, rfl, hq⟩
  injection hy with hy
  subst hy
  show JO _ _ _ _ ((36, .t [.a [.b sq, .o 6 0 0 rq.length], .i .i64 eq]) :: _) _ _
  refine jo_l (ly_mv rfl) (hd 33 rfl) ?_
  refine jo_l (ly_ext rfl rfl) (hd 37 rfl) ?_
  refine jo_l (ly_ext rfl rfl) (hd 38 rfl) ?_
  refine jo_h (hy_alloc (id := 7) zero30 (by decide) rfl (by decide) rfl) (hd 11 rfl) ?_
  refine jo_st (sy_store rfl rfl rfl siz30 rfl rfl (Nat.le_of_ble_eq_true rfl)) ?_
  refine jo_l (ly_as rfl) (hd 12 rfl) ?_
  refine jo_nil ?_
  refine jc_seq ?_
  have lq := hq.len
  refine jc_H (H' := [⟨27, 2, 0, true, [.b sa, .n false .u64 a]⟩, ⟨27, 2, 0, true, [.b sb, .n false .u64 b]⟩, ⟨30, 2, 0, true, [.b sa, .n true .u64 a]⟩, ⟨30, 2, 0, true, [.b sb, .n true .u64 b]⟩, ⟨82, 1, 0, true, ints .u64 rp⟩, ⟨30, 2, 0, true, [.b sp, .o 4 0 0 rp.length]⟩, ⟨82, 1, 0, true, ints .u64 rq⟩, ⟨30, 2, 0, true, [.b sq, .o 6 0 0 rq.length]⟩]) rfl ?_
  refine jc_region ?_
  refine jo_l (ly_lda agg30 rfl rfl rfl rfl) (hd 40 rfl) ?_
  refine jo_l (ly_lda agg30 rfl rfl rfl rfl) (hd 41 rfl) ?_
  refine jo_callN Try.f52 (WMul_n sa sb a b ha hb ua ub) (fun o G ⟨_, _, _, _, h, _⟩ => h ▸ idless_cons ints_id idless_nil) rfl Try.func52 rfl rfl (ovL_cons rfl (ovL_cons rfl ovL_nil)) (.cons (.a1 .b (.a1 .n .a0)) (.cons (.a1 .b (.a1 .n .a0)) .nil)) (hd 42 rfl) ?_ (fun ch G hp => by simp at hp)
  rintro y G ⟨sr, rr, er, hy, rfl, hr⟩
  injection hy with hy
  subst hy
  show JO _ _ _ _ ((42, .t [.a [.b sr, .o 8 0 0 rr.length], .i .i64 er]) :: _) _ _
  refine jo_l (ly_mv rfl) (hd 39 rfl) ?_
  refine jo_l (ly_ext rfl rfl) (hd 43 rfl) ?_
  refine jo_l (ly_ext rfl rfl) (hd 44 rfl) ?_
  refine jo_h (hy_alloc (id := 9) zero30 (by decide) rfl (by decide) rfl) (hd 13 rfl) ?_
  refine jo_st (sy_store rfl rfl rfl siz30 rfl rfl (Nat.le_of_ble_eq_true rfl)) ?_
  refine jo_l (ly_as rfl) (hd 14 rfl) ?_
  refine jo_nil ?_
  refine jc_seq ?_
  have lr := hr.len
  refine jc_H (H' := [⟨27, 2, 0, true, [.b sa, .n false .u64 a]⟩, ⟨27, 2, 0, true, [.b sb, .n false .u64 b]⟩, ⟨30, 2, 0, true, [.b sa, .n true .u64 a]⟩, ⟨30, 2, 0, true, [.b sb, .n true .u64 b]⟩, ⟨82, 1, 0, true, ints .u64 rp⟩, ⟨30, 2, 0, true, [.b sp, .o 4 0 0 rp.length]⟩, ⟨82, 1, 0, true, ints .u64 rq⟩, ⟨30, 2, 0, true, [.b sq, .o 6 0 0 rq.length]⟩, ⟨82, 1, 0, true, ints .u64 rr⟩, ⟨30, 2, 0, true, [.b sr, .o 8 0 0 rr.length]⟩]) rfl ?_
  refine jc_hold 2 _ ?_
  refine jc_draw (n := 8) _ rfl mixed ?_
  refine ja_gen (fun _ _ _ _ h => h) fun ops1 Q1 F0 hpan ho hq hF => ?_
  have S6_11111111 : JA Try.prog ops1 0 #[true, true, true, true, true, true, true, true] Γ ([(15, .p 10 1 0), (16, .p 11 1 0), (45, .a [.b sa, .n false .u64 a]), (46, .a [.b (decide ((sv sa a) < 0)), .n false .u64 (dg (sv sa a))]), (47, .a [.b sb, .n false .u64 b]), (48, .a [.b (decide ((sv sb b) < 0)), .n false .u64 (dg (sv sb b))])] ++ F0) [⟨27, 2, 0, true, [.b sa, .n false .u64 a]⟩, ⟨27, 2, 0, true, [.b sb, .n false .u64 b]⟩, ⟨30, 2, 0, true, [.b sa, .n true .u64 a]⟩, ⟨30, 2, 0, true, [.b sb, .n true .u64 b]⟩, ⟨82, 1, 0, true, ints .u64 rp⟩, ⟨30, 2, 0, true, [.b sp, .o 4 0 0 rp.length]⟩, ⟨82, 1, 0, true, ints .u64 rq⟩, ⟨30, 2, 0, true, [.b sq, .o 6 0 0 rq.length]⟩, ⟨82, 1, 0, true, ints .u64 rr⟩, ⟨30, 2, 0, true, [.b sr, .o 8 0 0 rr.length]⟩, ⟨35, 2, 1, true, [.b (decide ((sv sa a) < 0)), .n false .u64 (dg (sv sa a))]⟩, ⟨35, 2, 1, true, [.b (decide ((sv sb b) < 0)), .n false .u64 (dg (sv sb b))]⟩] Q1 := by
    subst ho; subst hq; subst hF
    refine ja_nil (by kernel_rfl) ?_
    refine jc_seq ?_
    refine jc_draw (n := 48) _ rfl mixed ?_
    refine ja_l2 0 [5, 6, 7, 8, 9, 10, 11, 12, 13, 14, 15, 16, 17, 18, 19, 20, 21, 22, 23, 24, 25, 26, 27, 28, 29, 30, 31, 32, 33, 34, 35, 36, 37, 38, 39, 40, 41, 42, 43, 44, 45, 46, 47] (lo_l (ly_lda agg30 rfl rfl rfl rfl) (hd 49 rfl)) rfl (by kernel_rfl) (by kernel_rfl) (by kernel_rfl) (by kernel_rfl) (fun _ _ _ _ h => h) ?_
    refine ja_l2 1 [5, 6, 7, 8, 9, 10, 11, 12, 13, 14, 15, 16, 17, 18, 19, 20, 21, 22, 23, 24, 25, 26, 27, 28, 29, 30, 31, 32, 33, 34, 35, 36, 37, 38, 39, 40, 41, 42, 43, 44, 45, 46, 47] (lo_l (ly_mv rfl) (hd 50 rfl)) rfl (by kernel_rfl) (by kernel_rfl) (by kernel_rfl) (by kernel_rfl) (fun _ _ _ _ h => h) ?_
    refine ja_l2 2 [4, 5, 6, 7, 8, 9, 10, 11, 12, 13, 14, 15, 16, 17, 18, 19, 20, 21, 22, 23, 24, 25, 26, 27, 28, 29, 30, 31, 32, 33, 34, 35, 36, 37, 38, 39, 40, 41, 42, 43, 44, 45, 46, 47] (lo_l (ly_lda agg35 rfl rfl rfl rfl) (hd 51 rfl)) rfl (by kernel_rfl) (by kernel_rfl) (by kernel_rfl) (by kernel_rfl) (fun _ _ _ _ h => h) ?_
    refine ja_l2 3 [4, 5, 6, 7, 8, 9, 10, 11, 12, 13, 14, 15, 16, 17, 18, 19, 20, 21, 22, 23, 24, 25, 26, 27, 28, 29, 30, 31, 32, 33, 34, 35, 36, 37, 38, 39, 40, 41, 42, 43, 44, 45, 46, 47] (lo_l (ly_lda agg35 rfl rfl rfl rfl) (hd 52 rfl)) rfl (by kernel_rfl) (by kernel_rfl) (by kernel_rfl) (by kernel_rfl) (fun _ _ _ _ h => h) ?_
    refine ja_1 4 ?_ rfl (by kernel_rfl)
    refine js_call Try.f35 (ZAdd_s (sv sa a) (sv sb b) (by omega) (by omega)) rfl Try.func35 rfl rfl (ovL_cons rfl (ovL_cons rfl ovL_nil)) (.cons (.a1 .b (.a1 .n .a0)) (.cons (.a1 .b (.a1 .n .a0)) .nil)) (hd 53 rfl) ?_ (fun ch hp => by simp at hp)
    rintro y hy; injection hy with hy; subst hy
    refine ja_1 5 ?_ rfl (by kernel_rfl)
    refine js_callL Try.f47 (alike_s (sv sa a + sv sb b) sp rp ep hp (by omega)) rfl Try.func47 rfl rfl (ovL_cons rfl (ovL_cons rfl (ovL_cons rfl (ovL_cons rfl ovL_nil)))) (.a1 (.a1 .b (.a1 (.o rfl (by simp) (by rw [List.drop_zero, List.take_length])) .a0)) (.a1 .i (.a1 (.a1 .b (.a1 .n .a0)) (.a1 .i .a0)))) (.cons (.a1 .b (.a1 .n .a0)) (.cons .i (.cons (.a1 .b (.a1 .n .a0)) (.cons .i .nil)))) hL (fun y hy => by injection hy with hy; subst hy; rfl) (hd 54 rfl) ?_ (fun ch hp => by simp at hp)
    rintro y hy; injection hy with hy; subst hy
    refine ja_l2 6 [7, 8, 9, 10, 11, 12, 13, 14, 15, 16, 17, 18, 19, 20, 21, 22, 23, 24, 25, 26, 27, 28, 29, 30, 31, 32, 33, 34, 35, 36, 37, 38, 39, 40, 41, 42, 43, 44, 45, 46, 47] (lo_l (ly_mv rfl) (hd 55 rfl)) rfl (by kernel_rfl) (by kernel_rfl) (by kernel_rfl) (by kernel_rfl) (fun _ _ _ _ h => h) ?_
    refine ja_l2 7 [12, 13, 14, 15, 16, 17, 18, 19, 20, 21, 22, 23, 24, 25, 26, 27, 28, 29, 30, 31, 32, 33, 34, 35, 36, 37, 38, 39, 40, 41, 42, 43, 44, 45, 46, 47] (lo_g 55 rfl rfl (ly_lda agg30 rfl rfl rfl rfl) (hd 56 rfl)) rfl (by kernel_rfl) (by kernel_rfl) (by kernel_rfl) (by kernel_rfl) (fun _ _ _ _ h => h) ?_
    refine ja_l2 8 [12, 13, 14, 15, 16, 17, 18, 19, 20, 21, 22, 23, 24, 25, 26, 27, 28, 29, 30, 31, 32, 33, 34, 35, 36, 37, 38, 39, 40, 41, 42, 43, 44, 45, 46, 47] (lo_g 55 rfl rfl (ly_mv rfl) (hd 57 rfl)) rfl (by kernel_rfl) (by kernel_rfl) (by kernel_rfl) (by kernel_rfl) (fun _ _ _ _ h => h) ?_
    refine ja_l2 9 [11, 12, 13, 14, 15, 16, 17, 18, 19, 20, 21, 22, 23, 24, 25, 26, 27, 28, 29, 30, 31, 32, 33, 34, 35, 36, 37, 38, 39, 40, 41, 42, 43, 44, 45, 46, 47] (lo_g 55 rfl rfl (ly_lda agg35 rfl rfl rfl rfl) (hd 58 rfl)) rfl (by kernel_rfl) (by kernel_rfl) (by kernel_rfl) (by kernel_rfl) (fun _ _ _ _ h => h) ?_
    refine ja_l2 10 [11, 12, 13, 14, 15, 16, 17, 18, 19, 20, 21, 22, 23, 24, 25, 26, 27, 28, 29, 30, 31, 32, 33, 34, 35, 36, 37, 38, 39, 40, 41, 42, 43, 44, 45, 46, 47] (lo_g 55 rfl rfl (ly_lda agg35 rfl rfl rfl rfl) (hd 59 rfl)) rfl (by kernel_rfl) (by kernel_rfl) (by kernel_rfl) (by kernel_rfl) (fun _ _ _ _ h => h) ?_
    refine ja_1 11 ?_ rfl (by kernel_rfl)
    refine js_callg Try.f37 55 rfl rfl (ZSub_s (sv sa a) (sv sb b) (by omega) (by omega)) rfl Try.func37 rfl rfl (ovL_cons rfl (ovL_cons rfl ovL_nil)) (.cons (.a1 .b (.a1 .n .a0)) (.cons (.a1 .b (.a1 .n .a0)) .nil)) (hd 60 rfl) ?_ (fun ch hp => by simp at hp)
    rintro y hy; injection hy with hy; subst hy
    refine ja_1 12 ?_ rfl (by kernel_rfl)
    refine js_callLg Try.f47 55 rfl rfl (alike_s (sv sa a - sv sb b) sq rq eq hq (by omega)) rfl Try.func47 rfl rfl (ovL_cons rfl (ovL_cons rfl (ovL_cons rfl (ovL_cons rfl ovL_nil)))) (.a1 (.a1 .b (.a1 (.o rfl (by simp) (by rw [List.drop_zero, List.take_length])) .a0)) (.a1 .i (.a1 (.a1 .b (.a1 .n .a0)) (.a1 .i .a0)))) (.cons (.a1 .b (.a1 .n .a0)) (.cons .i (.cons (.a1 .b (.a1 .n .a0)) (.cons .i .nil)))) hL (fun y hy => by injection hy with hy; subst hy; rfl) (hd 61 rfl) ?_ (fun ch hp => by simp at hp)
    rintro y hy; injection hy with hy; subst hy
    refine ja_l2 13 [14, 15, 16, 17, 18, 19, 20, 21, 22, 23, 24, 25, 26, 27, 28, 29, 30, 31, 32, 33, 34, 35, 36, 37, 38, 39, 40, 41, 42, 43, 44, 45, 46, 47] (lo_l (ly_pick_t rfl rfl) (hd 62 rfl)) rfl (by kernel_rfl) (by kernel_rfl) (by kernel_rfl) (by kernel_rfl) (fun _ _ _ _ h => h) ?_
    refine ja_l2 14 [15, 16, 17, 18, 19, 20, 21, 22, 23, 24, 25, 26, 27, 28, 29, 30, 31, 32, 33, 34, 35, 36, 37, 38, 39, 40, 41, 42, 43, 44, 45, 46, 47] (lo_l (ly_mv rfl) (hd 63 rfl)) rfl (by kernel_rfl) (by kernel_rfl) (by kernel_rfl) (by kernel_rfl) (fun _ _ _ _ h => h) ?_
    refine ja_l2 15 [20, 21, 22, 23, 24, 25, 26, 27, 28, 29, 30, 31, 32, 33, 34, 35, 36, 37, 38, 39, 40, 41, 42, 43, 44, 45, 46, 47] (lo_g 63 rfl rfl (ly_lda agg30 rfl rfl rfl rfl) (hd 64 rfl)) rfl (by kernel_rfl) (by kernel_rfl) (by kernel_rfl) (by kernel_rfl) (fun _ _ _ _ h => h) ?_
    refine ja_l2 16 [20, 21, 22, 23, 24, 25, 26, 27, 28, 29, 30, 31, 32, 33, 34, 35, 36, 37, 38, 39, 40, 41, 42, 43, 44, 45, 46, 47] (lo_g 63 rfl rfl (ly_mv rfl) (hd 65 rfl)) rfl (by kernel_rfl) (by kernel_rfl) (by kernel_rfl) (by kernel_rfl) (fun _ _ _ _ h => h) ?_
    refine ja_l2 17 [19, 20, 21, 22, 23, 24, 25, 26, 27, 28, 29, 30, 31, 32, 33, 34, 35, 36, 37, 38, 39, 40, 41, 42, 43, 44, 45, 46, 47] (lo_g 63 rfl rfl (ly_lda agg35 rfl rfl rfl rfl) (hd 66 rfl)) rfl (by kernel_rfl) (by kernel_rfl) (by kernel_rfl) (by kernel_rfl) (fun _ _ _ _ h => h) ?_
    refine ja_l2 18 [19, 20, 21, 22, 23, 24, 25, 26, 27, 28, 29, 30, 31, 32, 33, 34, 35, 36, 37, 38, 39, 40, 41, 42, 43, 44, 45, 46, 47] (lo_g 63 rfl rfl (ly_lda agg35 rfl rfl rfl rfl) (hd 67 rfl)) rfl (by kernel_rfl) (by kernel_rfl) (by kernel_rfl) (by kernel_rfl) (fun _ _ _ _ h => h) ?_
    refine ja_1 19 ?_ rfl (by kernel_rfl)
    refine js_callg Try.f53 63 rfl rfl (ZMul_s (sv sa a) (sv sb b) (by omega) (by omega)) rfl Try.func53 rfl rfl (ovL_cons rfl (ovL_cons rfl ovL_nil)) (.cons (.a1 .b (.a1 .n .a0)) (.cons (.a1 .b (.a1 .n .a0)) .nil)) (hd 68 rfl) ?_ (fun ch hp => by simp at hp)
    rintro y hy; injection hy with hy; subst hy
    refine ja_1 20 ?_ rfl (by kernel_rfl)
    refine js_callLg Try.f47 63 rfl rfl (alike_s (sv sa a * sv sb b) sr rr er hr (by omega)) rfl Try.func47 rfl rfl (ovL_cons rfl (ovL_cons rfl (ovL_cons rfl (ovL_cons rfl ovL_nil)))) (.a1 (.a1 .b (.a1 (.o rfl (by simp) (by rw [List.drop_zero, List.take_length])) .a0)) (.a1 .i (.a1 (.a1 .b (.a1 .n .a0)) (.a1 .i .a0)))) (.cons (.a1 .b (.a1 .n .a0)) (.cons .i (.cons (.a1 .b (.a1 .n .a0)) (.cons .i .nil)))) hL (fun y hy => by injection hy with hy; subst hy; rfl) (hd 69 rfl) ?_ (fun ch hp => by simp at hp)
    rintro y hy; injection hy with hy; subst hy
    refine ja_l2 21 [22, 23, 24, 25, 26, 27, 28, 29, 30, 31, 32, 33, 34, 35, 36, 37, 38, 39, 40, 41, 42, 43, 44, 45, 46, 47] (lo_l (ly_pick_t rfl rfl) (hd 70 rfl)) rfl (by kernel_rfl) (by kernel_rfl) (by kernel_rfl) (by kernel_rfl) (fun _ _ _ _ h => h) ?_
    refine ja_l2 22 [23, 24, 25, 26, 27, 28, 29, 30, 31, 32, 33, 34, 35, 36, 37, 38, 39, 40, 41, 42, 43, 44, 45, 46, 47] (lo_l (ly_mv rfl) (hd 71 rfl)) rfl (by kernel_rfl) (by kernel_rfl) (by kernel_rfl) (by kernel_rfl) (fun _ _ _ _ h => h) ?_
    refine ja_l2 23 [24, 29, 30, 31, 32, 33, 34, 35, 36, 37, 38, 39, 40, 41, 42, 43, 44, 45, 46, 47] (lo_g 71 rfl rfl (ly_fa fld30_1 rfl rfl rfl) (hd 72 rfl)) rfl (by kernel_rfl) (by kernel_rfl) (by kernel_rfl) (by kernel_rfl) (fun _ _ _ _ h => h) ?_
    refine ja_l2 24 [29, 30, 31, 32, 33, 34, 35, 36, 37, 38, 39, 40, 41, 42, 43, 44, 45, 46, 47] (lo_g 71 rfl rfl (ly_ld one28 rfl rfl rfl) (hd 73 rfl)) rfl (by kernel_rfl) (by kernel_rfl) (by kernel_rfl) (by kernel_rfl) (fun _ _ _ _ h => h) ?_
    refine ja_l2 25 [26, 29, 30, 31, 32, 33, 34, 35, 36, 37, 38, 39, 40, 41, 42, 43, 44, 45, 46, 47] (lo_g 71 rfl rfl (ly_fa fld30_1 rfl rfl rfl) (hd 74 rfl)) rfl (by kernel_rfl) (by kernel_rfl) (by kernel_rfl) (by kernel_rfl) (fun _ _ _ _ h => h) ?_
    refine ja_l2 26 [29, 30, 31, 32, 33, 34, 35, 36, 37, 38, 39, 40, 41, 42, 43, 44, 45, 46, 47] (lo_g 71 rfl rfl (ly_ld one28 rfl rfl rfl) (hd 75 rfl)) rfl (by kernel_rfl) (by kernel_rfl) (by kernel_rfl) (by kernel_rfl) (fun _ _ _ _ h => h) ?_
    refine ja_l2 27 [28, 29, 30, 31, 32, 33, 34, 35, 36, 37, 38, 39, 40, 41, 42, 43, 44, 45, 46, 47] (lo_g 71 rfl rfl (ly_fa fld30_1 rfl rfl rfl) (hd 76 rfl)) rfl (by kernel_rfl) (by kernel_rfl) (by kernel_rfl) (by kernel_rfl) (fun _ _ _ _ h => h) ?_
    refine ja_l2 28 [29, 30, 31, 32, 33, 34, 35, 36, 37, 38, 39, 40, 41, 42, 43, 44, 45, 46, 47] (lo_g 71 rfl rfl (ly_ld one28 rfl rfl rfl) (hd 77 rfl)) rfl (by kernel_rfl) (by kernel_rfl) (by kernel_rfl) (by kernel_rfl) (fun _ _ _ _ h => h) ?_
    refine ja_1 29 ?_ rfl (by kernel_rfl)
    refine js_hg 71 rfl rfl (hy_lit (id := 12) (xs := [.tmp 73, .tmp 75, .tmp 77]) el81 rfl (ovL_cons rfl (ovL_cons rfl (ovL_cons rfl ovL_nil))) rfl (all2_of rfl) (by decide) rfl) (hd 78 rfl) ?_
    refine ja_1 30 ?_ rfl (by kernel_rfl)
    refine js_callGg Try.f25 71 rfl rfl (sel := [12, 4, 6, 8]) (Own_s 3 (by decide) (rsOf [rp, rq, rr]) (fun j _ => rsOf_len (by simp; omega) (by decide) j)) rfl Try.func25 rfl rfl (ovL_cons rfl ovL_nil) rfl rfl (.cons rfl rfl (.cons rfl (renL_ints _ _ _) (.cons rfl (renL_ints _ _ _) (.cons rfl (renL_ints _ _ _) .nil)))) (by decide) ow_ids ow_fresh (fun y G h => by cases h; rfl) (hd 79 rfl) ?_ (fun ch G hp => by cases hp) rfl
    rintro y G hy; injection hy with hy; subst hy
    refine ja_l2 31 [32, 33, 34, 35, 36, 37, 38, 39, 40, 41, 42, 43, 44, 45, 46, 47] (lo_l (ly_pick_t rfl rfl) (hd 80 rfl)) rfl (by kernel_rfl) (by kernel_rfl) (by kernel_rfl) (by kernel_rfl) (fun _ _ _ _ h => h) ?_
    refine ja_l2 32 [33, 34, 35, 36, 37, 38, 39, 40, 41, 42, 43, 44, 45, 46, 47] (lo_l (ly_mv rfl) (hd 81 rfl)) rfl (by kernel_rfl) (by kernel_rfl) (by kernel_rfl) (by kernel_rfl) (fun _ _ _ _ h => h) ?_
    refine ja_l2 33 [36, 37, 38, 39, 40, 41, 42, 43, 44, 45, 46, 47] (lo_g 81 rfl rfl (ly_mv rfl) (hd 82 rfl)) rfl (by kernel_rfl) (by kernel_rfl) (by kernel_rfl) (by kernel_rfl) (fun _ _ _ _ h => h) ?_
    refine ja_l2 34 [35, 36, 37, 38, 39, 40, 41, 42, 43, 44, 45, 46, 47] (lo_g 81 rfl rfl (ly_fa fld27_1 rfl rfl rfl) (hd 83 rfl)) rfl (by kernel_rfl) (by kernel_rfl) (by kernel_rfl) (by kernel_rfl) (fun _ _ _ _ h => h) ?_
    refine ja_l2 35 [36, 37, 38, 39, 40, 41, 42, 43, 44, 45, 46, 47] (lo_g 81 rfl rfl (ly_ld one25 rfl rfl rfl) (hd 84 rfl)) rfl (by kernel_rfl) (by kernel_rfl) (by kernel_rfl) (by kernel_rfl) (fun _ _ _ _ h => h) ?_
    refine ja_1 36 ?_ rfl (by kernel_rfl)
    refine js_callg Try.f26 81 rfl rfl (Kept_s a (by omega)) rfl Try.func26 rfl rfl (ovL_cons rfl (ovL_cons rfl ovL_nil)) (.cons .n (.cons .n .nil)) (hd 85 rfl) ?_ (fun ch hp => by simp at hp)
    rintro y hy; injection hy with hy; subst hy
    refine ja_l2 37 [38, 39, 40, 41, 42, 43, 44, 45, 46, 47] (lo_l (ly_pick_t rfl rfl) (hd 86 rfl)) rfl (by kernel_rfl) (by kernel_rfl) (by kernel_rfl) (by kernel_rfl) (fun _ _ _ _ h => h) ?_
    refine ja_l2 38 [39, 40, 41, 42, 43, 44, 45, 46, 47] (lo_l (ly_mv rfl) (hd 87 rfl)) rfl (by kernel_rfl) (by kernel_rfl) (by kernel_rfl) (by kernel_rfl) (fun _ _ _ _ h => h) ?_
    refine ja_l2 39 [42, 43, 44, 45, 46, 47] (lo_g 87 rfl rfl (ly_mv rfl) (hd 88 rfl)) rfl (by kernel_rfl) (by kernel_rfl) (by kernel_rfl) (by kernel_rfl) (fun _ _ _ _ h => h) ?_
    refine ja_l2 40 [41, 42, 43, 44, 45, 46, 47] (lo_g 87 rfl rfl (ly_fa fld27_1 rfl rfl rfl) (hd 89 rfl)) rfl (by kernel_rfl) (by kernel_rfl) (by kernel_rfl) (by kernel_rfl) (fun _ _ _ _ h => h) ?_
    refine ja_l2 41 [42, 43, 44, 45, 46, 47] (lo_g 87 rfl rfl (ly_ld one25 rfl rfl rfl) (hd 90 rfl)) rfl (by kernel_rfl) (by kernel_rfl) (by kernel_rfl) (by kernel_rfl) (fun _ _ _ _ h => h) ?_
    refine ja_1 42 ?_ rfl (by kernel_rfl)
    refine js_callg Try.f26 87 rfl rfl (Kept_s b (by omega)) rfl Try.func26 rfl rfl (ovL_cons rfl (ovL_cons rfl ovL_nil)) (.cons .n (.cons .n .nil)) (hd 91 rfl) ?_ (fun ch hp => by simp at hp)
    rintro y hy; injection hy with hy; subst hy
    refine ja_l2 43 [44, 45, 46, 47] (lo_l (ly_pick_t rfl rfl) (hd 92 rfl)) rfl (by kernel_rfl) (by kernel_rfl) (by kernel_rfl) (by kernel_rfl) (fun _ _ _ _ h => h) ?_
    refine ja_l 44 (lo_l (ly_mv rfl) (hd 93 rfl)) rfl (by kernel_rfl) (by kernel_rfl) (by kernel_rfl) (fun _ _ _ _ h => h) ?_
    refine ja_1 45 ?_ rfl (by kernel_rfl)
    refine js_callg Try.f10 93 rfl rfl (awake_s) rfl Try.func10 rfl rfl ovL_nil .nil (hd 94 rfl) ?_ (fun ch hp => by simp at hp)
    rintro y hy; injection hy with hy; subst hy
    refine ja_l 46 (lo_l (ly_pick_t rfl rfl) (hd 95 rfl)) rfl (by kernel_rfl) (by kernel_rfl) (by kernel_rfl) (fun _ _ _ _ h => h) ?_
    refine ja_l 47 (lo_l (ly_as rfl) (hd 4 rfl)) rfl (by kernel_rfl) (by kernel_rfl) (by kernel_rfl) (fun _ _ _ _ h => h) ?_
    refine ja_nil (by kernel_rfl) ?_
    refine jc_ret ?_
    refine ⟨_, _, (.cons rfl .nil), .b, ?_⟩
    exact rfl
  have S6_11111110 : JA Try.prog ops1 1 #[true, true, true, true, true, true, true, false] Γ ([(15, .p 10 1 0), (16, .p 11 1 0), (45, .a [.b sa, .n false .u64 a]), (46, .a [.b (decide ((sv sa a) < 0)), .n false .u64 (dg (sv sa a))]), (47, .a [.b sb, .n false .u64 b]), (48, .a [.b (decide ((sv sb b) < 0)), .n false .u64 (dg (sv sb b))])] ++ F0) [⟨27, 2, 0, true, [.b sa, .n false .u64 a]⟩, ⟨27, 2, 0, true, [.b sb, .n false .u64 b]⟩, ⟨30, 2, 0, true, [.b sa, .n true .u64 a]⟩, ⟨30, 2, 0, true, [.b sb, .n true .u64 b]⟩, ⟨82, 1, 0, true, ints .u64 rp⟩, ⟨30, 2, 0, true, [.b sp, .o 4 0 0 rp.length]⟩, ⟨82, 1, 0, true, ints .u64 rq⟩, ⟨30, 2, 0, true, [.b sq, .o 6 0 0 rq.length]⟩, ⟨82, 1, 0, true, ints .u64 rr⟩, ⟨30, 2, 0, true, [.b sr, .o 8 0 0 rr.length]⟩, ⟨35, 2, 1, true, [.b (decide ((sv sa a) < 0)), .n false .u64 (dg (sv sa a))]⟩, ⟨35, 2, 1, true, [.b false, .c (.slice none 0 0)]⟩] Q1 := by
    subst ho; subst hF
    refine ja_1 7 ?_ rfl (by kernel_rfl)
    refine js_st (sy_store rfl rfl rfl siz35 rfl rfl (Nat.le_of_ble_eq_true rfl)) rfl ?_
    refine ja_to (m := [(15, .p 10 1 0), (16, .p 11 1 0), (45, .a [.b sa, .n false .u64 a]), (46, .a [.b (decide ((sv sa a) < 0)), .n false .u64 (dg (sv sa a))]), (47, .a [.b sb, .n false .u64 b]), (48, .a [.b (decide ((sv sb b) < 0)), .n false .u64 (dg (sv sb b))])]) (by decide) rfl (cov_n 6 rfl rfl (.cons rfl (.cons rfl (.cons rfl (.cons rfl (.cons rfl (.cons rfl .nil))))))) S6_11111111
  have S6_11111100 : JA Try.prog ops1 2 #[true, true, true, true, true, true, false, false] Γ ([(15, .p 10 1 0), (16, .p 11 1 0), (45, .a [.b sa, .n false .u64 a]), (46, .a [.b (decide ((sv sa a) < 0)), .n false .u64 (dg (sv sa a))]), (47, .a [.b sb, .n false .u64 b]), (48, .a [.b (decide ((sv sb b) < 0)), .n false .u64 (dg (sv sb b))])] ++ F0) [⟨27, 2, 0, true, [.b sa, .n false .u64 a]⟩, ⟨27, 2, 0, true, [.b sb, .n false .u64 b]⟩, ⟨30, 2, 0, true, [.b sa, .n true .u64 a]⟩, ⟨30, 2, 0, true, [.b sb, .n true .u64 b]⟩, ⟨82, 1, 0, true, ints .u64 rp⟩, ⟨30, 2, 0, true, [.b sp, .o 4 0 0 rp.length]⟩, ⟨82, 1, 0, true, ints .u64 rq⟩, ⟨30, 2, 0, true, [.b sq, .o 6 0 0 rq.length]⟩, ⟨82, 1, 0, true, ints .u64 rr⟩, ⟨30, 2, 0, true, [.b sr, .o 8 0 0 rr.length]⟩, ⟨35, 2, 1, true, [.b false, .c (.slice none 0 0)]⟩, ⟨35, 2, 1, true, [.b false, .c (.slice none 0 0)]⟩] Q1 := by
    subst ho; subst hF
    refine ja_1 6 ?_ rfl (by kernel_rfl)
    refine js_st (sy_store rfl rfl rfl siz35 rfl rfl (Nat.le_of_ble_eq_true rfl)) rfl ?_
    refine ja_to (m := [(15, .p 10 1 0), (16, .p 11 1 0), (45, .a [.b sa, .n false .u64 a]), (46, .a [.b (decide ((sv sa a) < 0)), .n false .u64 (dg (sv sa a))]), (47, .a [.b sb, .n false .u64 b]), (48, .a [.b (decide ((sv sb b) < 0)), .n false .u64 (dg (sv sb b))])]) (by decide) rfl (cov_n 6 rfl rfl (.cons rfl (.cons rfl (.cons rfl (.cons rfl (.cons rfl (.cons rfl .nil))))))) S6_11111110
  have S6_11111000 : JA Try.prog ops1 3 #[true, true, true, true, true, false, false, false] Γ ([(15, .p 10 1 0), (45, .a [.b sa, .n false .u64 a]), (46, .a [.b (decide ((sv sa a) < 0)), .n false .u64 (dg (sv sa a))]), (47, .a [.b sb, .n false .u64 b]), (48, .a [.b (decide ((sv sb b) < 0)), .n false .u64 (dg (sv sb b))])] ++ F0) [⟨27, 2, 0, true, [.b sa, .n false .u64 a]⟩, ⟨27, 2, 0, true, [.b sb, .n false .u64 b]⟩, ⟨30, 2, 0, true, [.b sa, .n true .u64 a]⟩, ⟨30, 2, 0, true, [.b sb, .n true .u64 b]⟩, ⟨82, 1, 0, true, ints .u64 rp⟩, ⟨30, 2, 0, true, [.b sp, .o 4 0 0 rp.length]⟩, ⟨82, 1, 0, true, ints .u64 rq⟩, ⟨30, 2, 0, true, [.b sq, .o 6 0 0 rq.length]⟩, ⟨82, 1, 0, true, ints .u64 rr⟩, ⟨30, 2, 0, true, [.b sr, .o 8 0 0 rr.length]⟩, ⟨35, 2, 1, true, [.b false, .c (.slice none 0 0)]⟩, ⟨0, 1, 0, true, []⟩] Q1 := by
    subst ho; subst hF
    refine ja_1 5 ?_ rfl (by kernel_rfl)
    refine js_h (hy_allocAt (id := 11) zero35 (by decide) rfl (by decide) rfl) (hd 16 rfl) ?_
    refine ja_to (m := [(15, .p 10 1 0), (16, .p 11 1 0), (45, .a [.b sa, .n false .u64 a]), (46, .a [.b (decide ((sv sa a) < 0)), .n false .u64 (dg (sv sa a))]), (47, .a [.b sb, .n false .u64 b]), (48, .a [.b (decide ((sv sb b) < 0)), .n false .u64 (dg (sv sb b))])]) (by decide) rfl (cov_n 6 rfl rfl (.cons rfl (.cons rfl (.cons rfl (.cons rfl (.cons rfl (.cons rfl .nil))))))) S6_11111100
  have S6_11110100 : JA Try.prog ops1 3 #[true, true, true, true, false, true, false, false] Γ ([(16, .p 11 1 0), (45, .a [.b sa, .n false .u64 a]), (46, .a [.b (decide ((sv sa a) < 0)), .n false .u64 (dg (sv sa a))]), (47, .a [.b sb, .n false .u64 b]), (48, .a [.b (decide ((sv sb b) < 0)), .n false .u64 (dg (sv sb b))])] ++ F0) [⟨27, 2, 0, true, [.b sa, .n false .u64 a]⟩, ⟨27, 2, 0, true, [.b sb, .n false .u64 b]⟩, ⟨30, 2, 0, true, [.b sa, .n true .u64 a]⟩, ⟨30, 2, 0, true, [.b sb, .n true .u64 b]⟩, ⟨82, 1, 0, true, ints .u64 rp⟩, ⟨30, 2, 0, true, [.b sp, .o 4 0 0 rp.length]⟩, ⟨82, 1, 0, true, ints .u64 rq⟩, ⟨30, 2, 0, true, [.b sq, .o 6 0 0 rq.length]⟩, ⟨82, 1, 0, true, ints .u64 rr⟩, ⟨30, 2, 0, true, [.b sr, .o 8 0 0 rr.length]⟩, ⟨0, 1, 0, true, []⟩, ⟨35, 2, 1, true, [.b false, .c (.slice none 0 0)]⟩] Q1 := by
    subst ho; subst hF
    refine ja_1 4 ?_ rfl (by kernel_rfl)
    refine js_h (hy_allocAt (id := 10) zero35 (by decide) rfl (by decide) rfl) (hd 15 rfl) ?_
    refine ja_to (m := [(15, .p 10 1 0), (16, .p 11 1 0), (45, .a [.b sa, .n false .u64 a]), (46, .a [.b (decide ((sv sa a) < 0)), .n false .u64 (dg (sv sa a))]), (47, .a [.b sb, .n false .u64 b]), (48, .a [.b (decide ((sv sb b) < 0)), .n false .u64 (dg (sv sb b))])]) (by decide) rfl (cov_n 6 rfl rfl (.cons rfl (.cons rfl (.cons rfl (.cons rfl (.cons rfl (.cons rfl .nil))))))) S6_11111100
  have S6_11110000 : JA Try.prog ops1 4 #[true, true, true, true, false, false, false, false] Γ ([(45, .a [.b sa, .n false .u64 a]), (46, .a [.b (decide ((sv sa a) < 0)), .n false .u64 (dg (sv sa a))]), (47, .a [.b sb, .n false .u64 b]), (48, .a [.b (decide ((sv sb b) < 0)), .n false .u64 (dg (sv sb b))])] ++ F0) [⟨27, 2, 0, true, [.b sa, .n false .u64 a]⟩, ⟨27, 2, 0, true, [.b sb, .n false .u64 b]⟩, ⟨30, 2, 0, true, [.b sa, .n true .u64 a]⟩, ⟨30, 2, 0, true, [.b sb, .n true .u64 b]⟩, ⟨82, 1, 0, true, ints .u64 rp⟩, ⟨30, 2, 0, true, [.b sp, .o 4 0 0 rp.length]⟩, ⟨82, 1, 0, true, ints .u64 rq⟩, ⟨30, 2, 0, true, [.b sq, .o 6 0 0 rq.length]⟩, ⟨82, 1, 0, true, ints .u64 rr⟩, ⟨30, 2, 0, true, [.b sr, .o 8 0 0 rr.length]⟩, ⟨0, 1, 0, true, []⟩, ⟨0, 1, 0, true, []⟩] Q1 := by
    subst ho; subst hF
    refine ja_2 4 5 ?_ ?_ rfl rfl (by kernel_rfl)
    · refine js_h (hy_allocAt (id := 10) zero35 (by decide) rfl (by decide) rfl) (hd 15 rfl) ?_
      refine ja_to (m := [(15, .p 10 1 0), (45, .a [.b sa, .n false .u64 a]), (46, .a [.b (decide ((sv sa a) < 0)), .n false .u64 (dg (sv sa a))]), (47, .a [.b sb, .n false .u64 b]), (48, .a [.b (decide ((sv sb b) < 0)), .n false .u64 (dg (sv sb b))])]) (by decide) rfl (cov_n 5 rfl rfl (.cons rfl (.cons rfl (.cons rfl (.cons rfl (.cons rfl .nil)))))) S6_11111000
    · refine js_h (hy_allocAt (id := 11) zero35 (by decide) rfl (by decide) rfl) (hd 16 rfl) ?_
      refine ja_to (m := [(16, .p 11 1 0), (45, .a [.b sa, .n false .u64 a]), (46, .a [.b (decide ((sv sa a) < 0)), .n false .u64 (dg (sv sa a))]), (47, .a [.b sb, .n false .u64 b]), (48, .a [.b (decide ((sv sb b) < 0)), .n false .u64 (dg (sv sb b))])]) (by decide) rfl (cov_n 5 rfl rfl (.cons rfl (.cons rfl (.cons rfl (.cons rfl (.cons rfl .nil)))))) S6_11110100
  have S6_11101100 : JA Try.prog ops1 3 #[true, true, true, false, true, true, false, false] Γ ([(15, .p 10 1 0), (16, .p 11 1 0), (45, .a [.b sa, .n false .u64 a]), (46, .a [.b (decide ((sv sa a) < 0)), .n false .u64 (dg (sv sa a))]), (47, .a [.b sb, .n false .u64 b])] ++ F0) [⟨27, 2, 0, true, [.b sa, .n false .u64 a]⟩, ⟨27, 2, 0, true, [.b sb, .n false .u64 b]⟩, ⟨30, 2, 0, true, [.b sa, .n true .u64 a]⟩, ⟨30, 2, 0, true, [.b sb, .n true .u64 b]⟩, ⟨82, 1, 0, true, ints .u64 rp⟩, ⟨30, 2, 0, true, [.b sp, .o 4 0 0 rp.length]⟩, ⟨82, 1, 0, true, ints .u64 rq⟩, ⟨30, 2, 0, true, [.b sq, .o 6 0 0 rq.length]⟩, ⟨82, 1, 0, true, ints .u64 rr⟩, ⟨30, 2, 0, true, [.b sr, .o 8 0 0 rr.length]⟩, ⟨35, 2, 1, true, [.b false, .c (.slice none 0 0)]⟩, ⟨35, 2, 1, true, [.b false, .c (.slice none 0 0)]⟩] Q1 := by
    subst ho; subst hF
    refine ja_1 3 ?_ rfl (by kernel_rfl)
    refine js_call Try.f12 (of_s sb b hb ub) rfl Try.func12 rfl rfl (ovL_cons rfl ovL_nil) (.cons (.a1 .b (.a1 .n .a0)) .nil) (hd 48 rfl) ?_ (fun ch hp => by simp at hp)
    rintro y hy; injection hy with hy; subst hy
    refine ja_to (m := [(15, .p 10 1 0), (16, .p 11 1 0), (45, .a [.b sa, .n false .u64 a]), (46, .a [.b (decide ((sv sa a) < 0)), .n false .u64 (dg (sv sa a))]), (47, .a [.b sb, .n false .u64 b]), (48, .a [.b (decide ((sv sb b) < 0)), .n false .u64 (dg (sv sb b))])]) (by decide) rfl (cov_n 6 rfl rfl (.cons rfl (.cons rfl (.cons rfl (.cons rfl (.cons rfl (.cons rfl .nil))))))) S6_11111100
  have S6_11101000 : JA Try.prog ops1 4 #[true, true, true, false, true, false, false, false] Γ ([(15, .p 10 1 0), (45, .a [.b sa, .n false .u64 a]), (46, .a [.b (decide ((sv sa a) < 0)), .n false .u64 (dg (sv sa a))]), (47, .a [.b sb, .n false .u64 b])] ++ F0) [⟨27, 2, 0, true, [.b sa, .n false .u64 a]⟩, ⟨27, 2, 0, true, [.b sb, .n false .u64 b]⟩, ⟨30, 2, 0, true, [.b sa, .n true .u64 a]⟩, ⟨30, 2, 0, true, [.b sb, .n true .u64 b]⟩, ⟨82, 1, 0, true, ints .u64 rp⟩, ⟨30, 2, 0, true, [.b sp, .o 4 0 0 rp.length]⟩, ⟨82, 1, 0, true, ints .u64 rq⟩, ⟨30, 2, 0, true, [.b sq, .o 6 0 0 rq.length]⟩, ⟨82, 1, 0, true, ints .u64 rr⟩, ⟨30, 2, 0, true, [.b sr, .o 8 0 0 rr.length]⟩, ⟨35, 2, 1, true, [.b false, .c (.slice none 0 0)]⟩, ⟨0, 1, 0, true, []⟩] Q1 := by
    subst ho; subst hF
    refine ja_2 3 5 ?_ ?_ rfl rfl (by kernel_rfl)
    · refine js_call Try.f12 (of_s sb b hb ub) rfl Try.func12 rfl rfl (ovL_cons rfl ovL_nil) (.cons (.a1 .b (.a1 .n .a0)) .nil) (hd 48 rfl) ?_ (fun ch hp => by simp at hp)
      rintro y hy; injection hy with hy; subst hy
      refine ja_to (m := [(15, .p 10 1 0), (45, .a [.b sa, .n false .u64 a]), (46, .a [.b (decide ((sv sa a) < 0)), .n false .u64 (dg (sv sa a))]), (47, .a [.b sb, .n false .u64 b]), (48, .a [.b (decide ((sv sb b) < 0)), .n false .u64 (dg (sv sb b))])]) (by decide) rfl (cov_n 5 rfl rfl (.cons rfl (.cons rfl (.cons rfl (.cons rfl (.cons rfl .nil)))))) S6_11111000
    · refine js_h (hy_allocAt (id := 11) zero35 (by decide) rfl (by decide) rfl) (hd 16 rfl) ?_
      refine ja_to (m := [(15, .p 10 1 0), (16, .p 11 1 0), (45, .a [.b sa, .n false .u64 a]), (46, .a [.b (decide ((sv sa a) < 0)), .n false .u64 (dg (sv sa a))]), (47, .a [.b sb, .n false .u64 b])]) (by decide) rfl (cov_n 5 rfl rfl (.cons rfl (.cons rfl (.cons rfl (.cons rfl (.cons rfl .nil)))))) S6_11101100
  have S6_11100100 : JA Try.prog ops1 4 #[true, true, true, false, false, true, false, false] Γ ([(16, .p 11 1 0), (45, .a [.b sa, .n false .u64 a]), (46, .a [.b (decide ((sv sa a) < 0)), .n false .u64 (dg (sv sa a))]), (47, .a [.b sb, .n false .u64 b])] ++ F0) [⟨27, 2, 0, true, [.b sa, .n false .u64 a]⟩, ⟨27, 2, 0, true, [.b sb, .n false .u64 b]⟩, ⟨30, 2, 0, true, [.b sa, .n true .u64 a]⟩, ⟨30, 2, 0, true, [.b sb, .n true .u64 b]⟩, ⟨82, 1, 0, true, ints .u64 rp⟩, ⟨30, 2, 0, true, [.b sp, .o 4 0 0 rp.length]⟩, ⟨82, 1, 0, true, ints .u64 rq⟩, ⟨30, 2, 0, true, [.b sq, .o 6 0 0 rq.length]⟩, ⟨82, 1, 0, true, ints .u64 rr⟩, ⟨30, 2, 0, true, [.b sr, .o 8 0 0 rr.length]⟩, ⟨0, 1, 0, true, []⟩, ⟨35, 2, 1, true, [.b false, .c (.slice none 0 0)]⟩] Q1 := by
    subst ho; subst hF
    refine ja_2 3 4 ?_ ?_ rfl rfl (by kernel_rfl)
    · refine js_call Try.f12 (of_s sb b hb ub) rfl Try.func12 rfl rfl (ovL_cons rfl ovL_nil) (.cons (.a1 .b (.a1 .n .a0)) .nil) (hd 48 rfl) ?_ (fun ch hp => by simp at hp)
      rintro y hy; injection hy with hy; subst hy
      refine ja_to (m := [(16, .p 11 1 0), (45, .a [.b sa, .n false .u64 a]), (46, .a [.b (decide ((sv sa a) < 0)), .n false .u64 (dg (sv sa a))]), (47, .a [.b sb, .n false .u64 b]), (48, .a [.b (decide ((sv sb b) < 0)), .n false .u64 (dg (sv sb b))])]) (by decide) rfl (cov_n 5 rfl rfl (.cons rfl (.cons rfl (.cons rfl (.cons rfl (.cons rfl .nil)))))) S6_11110100
    · refine js_h (hy_allocAt (id := 10) zero35 (by decide) rfl (by decide) rfl) (hd 15 rfl) ?_
      refine ja_to (m := [(15, .p 10 1 0), (16, .p 11 1 0), (45, .a [.b sa, .n false .u64 a]), (46, .a [.b (decide ((sv sa a) < 0)), .n false .u64 (dg (sv sa a))]), (47, .a [.b sb, .n false .u64 b])]) (by decide) rfl (cov_n 5 rfl rfl (.cons rfl (.cons rfl (.cons rfl (.cons rfl (.cons rfl .nil)))))) S6_11101100
  have S6_11100000 : JA Try.prog ops1 5 #[true, true, true, false, false, false, false, false] Γ ([(45, .a [.b sa, .n false .u64 a]), (46, .a [.b (decide ((sv sa a) < 0)), .n false .u64 (dg (sv sa a))]), (47, .a [.b sb, .n false .u64 b])] ++ F0) [⟨27, 2, 0, true, [.b sa, .n false .u64 a]⟩, ⟨27, 2, 0, true, [.b sb, .n false .u64 b]⟩, ⟨30, 2, 0, true, [.b sa, .n true .u64 a]⟩, ⟨30, 2, 0, true, [.b sb, .n true .u64 b]⟩, ⟨82, 1, 0, true, ints .u64 rp⟩, ⟨30, 2, 0, true, [.b sp, .o 4 0 0 rp.length]⟩, ⟨82, 1, 0, true, ints .u64 rq⟩, ⟨30, 2, 0, true, [.b sq, .o 6 0 0 rq.length]⟩, ⟨82, 1, 0, true, ints .u64 rr⟩, ⟨30, 2, 0, true, [.b sr, .o 8 0 0 rr.length]⟩, ⟨0, 1, 0, true, []⟩, ⟨0, 1, 0, true, []⟩] Q1 := by
    subst ho; subst hF
    refine ja_3 3 4 5 ?_ ?_ ?_ rfl rfl rfl (by kernel_rfl)
    · refine js_call Try.f12 (of_s sb b hb ub) rfl Try.func12 rfl rfl (ovL_cons rfl ovL_nil) (.cons (.a1 .b (.a1 .n .a0)) .nil) (hd 48 rfl) ?_ (fun ch hp => by simp at hp)
      rintro y hy; injection hy with hy; subst hy
      refine ja_to (m := [(45, .a [.b sa, .n false .u64 a]), (46, .a [.b (decide ((sv sa a) < 0)), .n false .u64 (dg (sv sa a))]), (47, .a [.b sb, .n false .u64 b]), (48, .a [.b (decide ((sv sb b) < 0)), .n false .u64 (dg (sv sb b))])]) (by decide) rfl (cov_n 4 rfl rfl (.cons rfl (.cons rfl (.cons rfl (.cons rfl .nil))))) S6_11110000
    · refine js_h (hy_allocAt (id := 10) zero35 (by decide) rfl (by decide) rfl) (hd 15 rfl) ?_
      refine ja_to (m := [(15, .p 10 1 0), (45, .a [.b sa, .n false .u64 a]), (46, .a [.b (decide ((sv sa a) < 0)), .n false .u64 (dg (sv sa a))]), (47, .a [.b sb, .n false .u64 b])]) (by decide) rfl (cov_n 4 rfl rfl (.cons rfl (.cons rfl (.cons rfl (.cons rfl .nil))))) S6_11101000
    · refine js_h (hy_allocAt (id := 11) zero35 (by decide) rfl (by decide) rfl) (hd 16 rfl) ?_
      refine ja_to (m := [(16, .p 11 1 0), (45, .a [.b sa, .n false .u64 a]), (46, .a [.b (decide ((sv sa a) < 0)), .n false .u64 (dg (sv sa a))]), (47, .a [.b sb, .n false .u64 b])]) (by decide) rfl (cov_n 4 rfl rfl (.cons rfl (.cons rfl (.cons rfl (.cons rfl .nil))))) S6_11100100
  have S6_10101100 : JA Try.prog ops1 4 #[true, false, true, false, true, true, false, false] Γ ([(15, .p 10 1 0), (16, .p 11 1 0), (45, .a [.b sa, .n false .u64 a]), (47, .a [.b sb, .n false .u64 b])] ++ F0) [⟨27, 2, 0, true, [.b sa, .n false .u64 a]⟩, ⟨27, 2, 0, true, [.b sb, .n false .u64 b]⟩, ⟨30, 2, 0, true, [.b sa, .n true .u64 a]⟩, ⟨30, 2, 0, true, [.b sb, .n true .u64 b]⟩, ⟨82, 1, 0, true, ints .u64 rp⟩, ⟨30, 2, 0, true, [.b sp, .o 4 0 0 rp.length]⟩, ⟨82, 1, 0, true, ints .u64 rq⟩, ⟨30, 2, 0, true, [.b sq, .o 6 0 0 rq.length]⟩, ⟨82, 1, 0, true, ints .u64 rr⟩, ⟨30, 2, 0, true, [.b sr, .o 8 0 0 rr.length]⟩, ⟨35, 2, 1, true, [.b false, .c (.slice none 0 0)]⟩, ⟨35, 2, 1, true, [.b false, .c (.slice none 0 0)]⟩] Q1 := by
    subst ho; subst hF
    refine ja_1 1 ?_ rfl (by kernel_rfl)
    refine js_call Try.f12 (of_s sa a ha ua) rfl Try.func12 rfl rfl (ovL_cons rfl ovL_nil) (.cons (.a1 .b (.a1 .n .a0)) .nil) (hd 46 rfl) ?_ (fun ch hp => by simp at hp)
    rintro y hy; injection hy with hy; subst hy
    refine ja_to (m := [(15, .p 10 1 0), (16, .p 11 1 0), (45, .a [.b sa, .n false .u64 a]), (46, .a [.b (decide ((sv sa a) < 0)), .n false .u64 (dg (sv sa a))]), (47, .a [.b sb, .n false .u64 b])]) (by decide) rfl (cov_n 5 rfl rfl (.cons rfl (.cons rfl (.cons rfl (.cons rfl (.cons rfl .nil)))))) S6_11101100
  have S6_10101000 : JA Try.prog ops1 5 #[true, false, true, false, true, false, false, false] Γ ([(15, .p 10 1 0), (45, .a [.b sa, .n false .u64 a]), (47, .a [.b sb, .n false .u64 b])] ++ F0) [⟨27, 2, 0, true, [.b sa, .n false .u64 a]⟩, ⟨27, 2, 0, true, [.b sb, .n false .u64 b]⟩, ⟨30, 2, 0, true, [.b sa, .n true .u64 a]⟩, ⟨30, 2, 0, true, [.b sb, .n true .u64 b]⟩, ⟨82, 1, 0, true, ints .u64 rp⟩, ⟨30, 2, 0, true, [.b sp, .o 4 0 0 rp.length]⟩, ⟨82, 1, 0, true, ints .u64 rq⟩, ⟨30, 2, 0, true, [.b sq, .o 6 0 0 rq.length]⟩, ⟨82, 1, 0, true, ints .u64 rr⟩, ⟨30, 2, 0, true, [.b sr, .o 8 0 0 rr.length]⟩, ⟨35, 2, 1, true, [.b false, .c (.slice none 0 0)]⟩, ⟨0, 1, 0, true, []⟩] Q1 := by
    subst ho; subst hF
    refine ja_2 1 5 ?_ ?_ rfl rfl (by kernel_rfl)
    · refine js_call Try.f12 (of_s sa a ha ua) rfl Try.func12 rfl rfl (ovL_cons rfl ovL_nil) (.cons (.a1 .b (.a1 .n .a0)) .nil) (hd 46 rfl) ?_ (fun ch hp => by simp at hp)
      rintro y hy; injection hy with hy; subst hy
      refine ja_to (m := [(15, .p 10 1 0), (45, .a [.b sa, .n false .u64 a]), (46, .a [.b (decide ((sv sa a) < 0)), .n false .u64 (dg (sv sa a))]), (47, .a [.b sb, .n false .u64 b])]) (by decide) rfl (cov_n 4 rfl rfl (.cons rfl (.cons rfl (.cons rfl (.cons rfl .nil))))) S6_11101000
    · refine js_h (hy_allocAt (id := 11) zero35 (by decide) rfl (by decide) rfl) (hd 16 rfl) ?_
      refine ja_to (m := [(15, .p 10 1 0), (16, .p 11 1 0), (45, .a [.b sa, .n false .u64 a]), (47, .a [.b sb, .n false .u64 b])]) (by decide) rfl (cov_n 4 rfl rfl (.cons rfl (.cons rfl (.cons rfl (.cons rfl .nil))))) S6_10101100
  have S6_10100100 : JA Try.prog ops1 5 #[true, false, true, false, false, true, false, false] Γ ([(16, .p 11 1 0), (45, .a [.b sa, .n false .u64 a]), (47, .a [.b sb, .n false .u64 b])] ++ F0) [⟨27, 2, 0, true, [.b sa, .n false .u64 a]⟩, ⟨27, 2, 0, true, [.b sb, .n false .u64 b]⟩, ⟨30, 2, 0, true, [.b sa, .n true .u64 a]⟩, ⟨30, 2, 0, true, [.b sb, .n true .u64 b]⟩, ⟨82, 1, 0, true, ints .u64 rp⟩, ⟨30, 2, 0, true, [.b sp, .o 4 0 0 rp.length]⟩, ⟨82, 1, 0, true, ints .u64 rq⟩, ⟨30, 2, 0, true, [.b sq, .o 6 0 0 rq.length]⟩, ⟨82, 1, 0, true, ints .u64 rr⟩, ⟨30, 2, 0, true, [.b sr, .o 8 0 0 rr.length]⟩, ⟨0, 1, 0, true, []⟩, ⟨35, 2, 1, true, [.b false, .c (.slice none 0 0)]⟩] Q1 := by
    subst ho; subst hF
    refine ja_2 1 4 ?_ ?_ rfl rfl (by kernel_rfl)
    · refine js_call Try.f12 (of_s sa a ha ua) rfl Try.func12 rfl rfl (ovL_cons rfl ovL_nil) (.cons (.a1 .b (.a1 .n .a0)) .nil) (hd 46 rfl) ?_ (fun ch hp => by simp at hp)
      rintro y hy; injection hy with hy; subst hy
      refine ja_to (m := [(16, .p 11 1 0), (45, .a [.b sa, .n false .u64 a]), (46, .a [.b (decide ((sv sa a) < 0)), .n false .u64 (dg (sv sa a))]), (47, .a [.b sb, .n false .u64 b])]) (by decide) rfl (cov_n 4 rfl rfl (.cons rfl (.cons rfl (.cons rfl (.cons rfl .nil))))) S6_11100100
    · refine js_h (hy_allocAt (id := 10) zero35 (by decide) rfl (by decide) rfl) (hd 15 rfl) ?_
      refine ja_to (m := [(15, .p 10 1 0), (16, .p 11 1 0), (45, .a [.b sa, .n false .u64 a]), (47, .a [.b sb, .n false .u64 b])]) (by decide) rfl (cov_n 4 rfl rfl (.cons rfl (.cons rfl (.cons rfl (.cons rfl .nil))))) S6_10101100
  have S6_10100000 : JA Try.prog ops1 6 #[true, false, true, false, false, false, false, false] Γ ([(45, .a [.b sa, .n false .u64 a]), (47, .a [.b sb, .n false .u64 b])] ++ F0) [⟨27, 2, 0, true, [.b sa, .n false .u64 a]⟩, ⟨27, 2, 0, true, [.b sb, .n false .u64 b]⟩, ⟨30, 2, 0, true, [.b sa, .n true .u64 a]⟩, ⟨30, 2, 0, true, [.b sb, .n true .u64 b]⟩, ⟨82, 1, 0, true, ints .u64 rp⟩, ⟨30, 2, 0, true, [.b sp, .o 4 0 0 rp.length]⟩, ⟨82, 1, 0, true, ints .u64 rq⟩, ⟨30, 2, 0, true, [.b sq, .o 6 0 0 rq.length]⟩, ⟨82, 1, 0, true, ints .u64 rr⟩, ⟨30, 2, 0, true, [.b sr, .o 8 0 0 rr.length]⟩, ⟨0, 1, 0, true, []⟩, ⟨0, 1, 0, true, []⟩] Q1 := by
    subst ho; subst hF
    refine ja_3 1 4 5 ?_ ?_ ?_ rfl rfl rfl (by kernel_rfl)
    · refine js_call Try.f12 (of_s sa a ha ua) rfl Try.func12 rfl rfl (ovL_cons rfl ovL_nil) (.cons (.a1 .b (.a1 .n .a0)) .nil) (hd 46 rfl) ?_ (fun ch hp => by simp at hp)
      rintro y hy; injection hy with hy; subst hy
      refine ja_to (m := [(45, .a [.b sa, .n false .u64 a]), (46, .a [.b (decide ((sv sa a) < 0)), .n false .u64 (dg (sv sa a))]), (47, .a [.b sb, .n false .u64 b])]) (by decide) rfl (cov_n 3 rfl rfl (.cons rfl (.cons rfl (.cons rfl .nil)))) S6_11100000
    · refine js_h (hy_allocAt (id := 10) zero35 (by decide) rfl (by decide) rfl) (hd 15 rfl) ?_
      refine ja_to (m := [(15, .p 10 1 0), (45, .a [.b sa, .n false .u64 a]), (47, .a [.b sb, .n false .u64 b])]) (by decide) rfl (cov_n 3 rfl rfl (.cons rfl (.cons rfl (.cons rfl .nil)))) S6_10101000
    · refine js_h (hy_allocAt (id := 11) zero35 (by decide) rfl (by decide) rfl) (hd 16 rfl) ?_
      refine ja_to (m := [(16, .p 11 1 0), (45, .a [.b sa, .n false .u64 a]), (47, .a [.b sb, .n false .u64 b])]) (by decide) rfl (cov_n 3 rfl rfl (.cons rfl (.cons rfl (.cons rfl .nil)))) S6_10100100
  have S6_10000000 : JA Try.prog ops1 7 #[true, false, false, false, false, false, false, false] Γ ([(45, .a [.b sa, .n false .u64 a])] ++ F0) [⟨27, 2, 0, true, [.b sa, .n false .u64 a]⟩, ⟨27, 2, 0, true, [.b sb, .n false .u64 b]⟩, ⟨30, 2, 0, true, [.b sa, .n true .u64 a]⟩, ⟨30, 2, 0, true, [.b sb, .n true .u64 b]⟩, ⟨82, 1, 0, true, ints .u64 rp⟩, ⟨30, 2, 0, true, [.b sp, .o 4 0 0 rp.length]⟩, ⟨82, 1, 0, true, ints .u64 rq⟩, ⟨30, 2, 0, true, [.b sq, .o 6 0 0 rq.length]⟩, ⟨82, 1, 0, true, ints .u64 rr⟩, ⟨30, 2, 0, true, [.b sr, .o 8 0 0 rr.length]⟩, ⟨0, 1, 0, true, []⟩, ⟨0, 1, 0, true, []⟩] Q1 := by
    subst ho; subst hF
    refine ja_l2 2 [3, 6, 7] (lo_l (ly_lda agg27 rfl rfl rfl rfl) (hd 47 rfl)) rfl (by kernel_rfl) (by kernel_rfl) (by kernel_rfl) (by kernel_rfl) hpan ?_
    refine ja_to (m := [(45, .a [.b sa, .n false .u64 a]), (47, .a [.b sb, .n false .u64 b])]) (by decide) rfl (cov_n 2 rfl rfl (.cons rfl (.cons rfl .nil))) S6_10100000
  have S6_00000000 : JA Try.prog ops1 8 #[false, false, false, false, false, false, false, false] Γ ([] ++ F0) [⟨27, 2, 0, true, [.b sa, .n false .u64 a]⟩, ⟨27, 2, 0, true, [.b sb, .n false .u64 b]⟩, ⟨30, 2, 0, true, [.b sa, .n true .u64 a]⟩, ⟨30, 2, 0, true, [.b sb, .n true .u64 b]⟩, ⟨82, 1, 0, true, ints .u64 rp⟩, ⟨30, 2, 0, true, [.b sp, .o 4 0 0 rp.length]⟩, ⟨82, 1, 0, true, ints .u64 rq⟩, ⟨30, 2, 0, true, [.b sq, .o 6 0 0 rq.length]⟩, ⟨82, 1, 0, true, ints .u64 rr⟩, ⟨30, 2, 0, true, [.b sr, .o 8 0 0 rr.length]⟩, ⟨0, 1, 0, true, []⟩, ⟨0, 1, 0, true, []⟩] Q1 := by
    subst ho; subst hF
    refine ja_l2 0 [1, 3, 6, 7] (lo_l (ly_lda agg27 rfl rfl rfl rfl) (hd 45 rfl)) rfl (by kernel_rfl) (by kernel_rfl) (by kernel_rfl) (by kernel_rfl) hpan ?_
    refine ja_to (m := [(45, .a [.b sa, .n false .u64 a])]) (by decide) rfl (cov_n 1 rfl rfl (.cons rfl .nil)) S6_10000000
  subst ho; subst hF
  exact ja_to (m := []) (by decide) rfl (cov_n 0 rfl rfl .nil) S6_00000000
end Go.Proofs.Ytcdipmjgpimmdaa.Vc

/- Two numbers with a sign that are handed in. -/
set_option linter.unusedVariables false
set_option linter.unusedSimpArgs false
namespace Go.Proofs.Ytcdipmjgpimmdaa.Vc
open Go Go.RowKit
theorem short2 {H : Type} {d0 d1 : DataW H} {l0 l1 : List Int} (hk : Rows.uptoSmall H [d0, d1] = true) (h0 : l0.length + 2 ≤ Rows.uptoBulk d0) (h1 : l1.length + 2 ≤ Rows.uptoBulk d1) : l0.length < 4294967296 ∧ l1.length < 4294967296 := by
  have h : Rows.uptoBulkAll [d0, d1] ≤ 1048576 := of_decide_eq_true hk
  simp only [Rows.uptoBulkAll] at h
  omega
end Go.Proofs.Ytcdipmjgpimmdaa.Vc

/- The law WholeSums of every input of bulk at most 1048576: it returns true, and the input reads as it did. -/
namespace Go.Proofs.Ytcdipmjgpimmdaa.wholeSums
open Go Go.ChangeShapes Go.WideShapes Go.ChangeAt Go.RowKit
open Go.ChangeMaps (open_string shut_string)
set_option linter.unusedVariables false

theorem own : ownKnob Try.prog.godebug = none := by kernel_rfl
theorem laidOut : laidOutB Try.prog = true := by kernel_rfl
set_option maxRecDepth 100000 in
theorem lifted (os : Os) (started : os.Started) (H : Type) (enc : TypeId × Value → H) (F : Stop.Interp) :
    ReturnsInHanded {} Try.checked os 7 .any ((Rows.OpenSpec.upto Rows.wholeSumsSpec).pre6 enc Try.prog Try.f7 Rows.wholeSumsUptoRow.domain false) (((Rows.OpenSpec.upto Rows.wholeSumsSpec).at F).post enc Try.prog Try.f7 false true false false) := by
  refine returnsInHanded_of_cond (C := Try.checked) (s := Rows.OpenSpec.upto Rows.wholeSumsSpec) (k := Rows.uptoSmall) rfl own started (by kernel_rfl) Try.func7
    (OpenSpec.witness (enc := enc) (C := Try.checked) (s := Rows.OpenSpec.upto Rows.wholeSumsSpec) (k := Rows.uptoSmall) rfl false ⟨#[], #[.agg #[.bool false, .slice none 0 0], .agg #[.bool false, .slice none 0 0]], []⟩ 8 (by kernel_rfl) (by kernel_rfl) (by kernel_rfl)
      (x := ([.agg [.lit (.bool false), .nil], .agg [.lit (.bool false), .nil]], [], [])) (by kernel_rfl) rfl (by kernel_rfl)) ?_
  intro W base args ds gs before hval0 hW _ hk _
  have hval : ∀ (j : Nat) t v, Try.f7.params[j]? = some t → args[j]? = some v → Value.okWide Try.prog W .any base t v := hval0
  have hW' := hW
  obtain ⟨p, q, hA0, hV, rfl, hfz, hnd⟩ := hW
  have hA : DataW.TrodAll enc Try.prog W 0 (fun _ => true) true Try.f7.params.toList args.toList ds p := hA0
  rw [Try.params7] at hA hval
  obtain ⟨v0, vs0, d0, ds0, p0, q0, hargs, rfl, rfl, h0, r0⟩ := trodAll_cons hA
  obtain ⟨v1, vs1, d1, ds1, p1, q1, rfl, rfl, rfl, h1, r1⟩ := trodAll_cons r0
  obtain ⟨rfl, rfl, rfl⟩ := trodAll_nil r1
  obtain rfl : args = #[v0, v1] := by cases args; simp_all
  obtain ⟨rfl, rfl⟩ := trodVars_none hV
  have hk0 := h0
  obtain ⟨s0, l0, rel0, hb0, ul0⟩ := Vc.openW (hval 0 27 v0 rfl rfl) h0
  have hk1 := h1
  obtain ⟨s1, l1, rel1, hb1, ul1⟩ := Vc.openW (hval 1 27 v1 rfl rfl) h1
  clear hA0 hval0
  simp only [List.append_nil] at hW' hk
  refine (Vc.spec_calls (vals := [v0, v1]) (Vc.WholeSums_s s0 s1 l0 l1 (Vc.short2 hk hb0 hb1).1 (Vc.short2 hk hb0 hb1).2 ul0 ul1) W (⟨_, _, rfl, rel0, ⟨_, _, rfl, rel1, rfl⟩⟩)).mono fun e W' ⟨he, hb⟩ => ?_
  subst he
  have hlt : ∀ x ∈ p0 ++ p1, x.block < W.heap.size := fun x hx => by simpa using hW'.lt x (by simpa using hx)
  exact ⟨_, rfl, Vc.post_of_below (pa := (p0 ++ (p1 ++ []))) (pv := []) hW' (fun _ _ _ => (trodAll_cons_mk (shut_bool Try.underlying4 _) trodAll_mk0)) (fun sp hsp => (trodAll_cons_mk (Go.WideElems.Trod_stays laidOut (by kernel_rfl) (of_decide_eq_true (by kernel_rfl)) hk0 (fun x hx => hb.same (hlt x (by simp [hx]))) (fun x hx => hsp x (by simp [hx]))) (trodAll_cons_mk (Go.WideElems.Trod_stays laidOut (by kernel_rfl) (of_decide_eq_true (by kernel_rfl)) hk1 (fun x hx => hb.same (hlt x (by simp [hx]))) (fun x hx => hsp x (by simp [hx]))) trodAll_mk0))) (fun _ _ => rfl) (by simp) hb⟩

theorem proved : Rows.WholeSumsUptoSaid :=
  OpenClaim.holds_of_cond 7 Try.f7 rfl rfl rfl rfl rfl rfl rfl ⟨rfl, rfl, rfl, rfl, rfl⟩ rfl rfl rfl rfl rfl (by kernel_rfl) Try.func7 (by kernel_rfl)
    (of_decide_eq_true (by kernel_rfl)) (by unfold Func.isWrapper; first | (rw [if_pos (by decide +kernel)]; kernel_rfl) | (rw [if_neg (by decide +kernel)]; exact ⟨rfl, rfl⟩))
    (fun os started H enc _ F => lifted os started H enc F)
end Go.Proofs.Ytcdipmjgpimmdaa.wholeSums
