/- All five divisions of whole numbers answer as the document says, of every input of bulk at most 1048576 Texts joined: Yu, Yv, Yz, RQuos. -/
import Derived.Test.YtcdipmjgpimmdaaK8
import Derived.Test.YtcdipmjgpimmdaaRows
import Derived.WalkKit
import Derived.ProofKit
import Derived.OpenShut
import Derived.Carry
import Derived.JoinedCond
/- The contract of surdlaw06.WholeQuos, divided by 0. -/
set_option linter.unusedVariables false
set_option linter.unusedSimpArgs false
namespace Go.Proofs.Ytcdipmjgpimmdaa.Vc
open Go Go.RowKit
set_option maxHeartbeats 20000000 in
set_option maxRecDepth 100000 in
theorem WholeQuos_z (sa sb : Bool) (a b : List Int) (ha : a.length ≤ 1048576) (hb : b.length ≤ 1048576) (ua : u64s a) (ub : u64s b) (h0 : (sv sb b) = 0) : Spec Try.prog 4 [.a [.b sa, .n false .u64 a], .a [.b sb, .n false .u64 b]] (fun o => o = .ret (.b true)) := by
  refine spec_of' [(0, .a [.b sa, .n false .u64 a]), (1, .a [.b sb, .n false .u64 b])] rfl Try.func4 rfl (Nat.le_of_ble_eq_true rfl) fun Γ hN hds hL hR => ?_
  have hd : ∀ d, Nat.blt d 214 = true → d < Γ.N := fun d h => by rw [hN]; exact Nat.le_of_ble_eq_true h
  have da := dg_lenN (s := sa) ua rfl
  have db := dg_lenN (s := sb) ub rfl
  have hlv := lenV_sv (s := sa) ua (by omega)
  refine jc_seq ?_
  refine jc_region ?_
  refine jo_h (hy_box (id := 0) (n := 2) rfl rfl rfl (by decide) rfl) (hd 2 rfl) ?_
  refine jo_h (hy_box (id := 1) (n := 2) rfl rfl rfl (by decide) rfl) (hd 3 rfl) ?_
  refine jo_l (ly_as rfl) (hd 4 rfl) ?_
  refine jo_nil ?_
  refine jc_seq ?_
  refine jc_region ?_
  refine jo_l (ly_lda agg27 rfl rfl rfl rfl) (hd 29 rfl) ?_
  refine jo_call Try.f11 (lent_s sa a (by omega)) rfl Try.func11 rfl rfl (ovL_cons rfl ovL_nil) (.cons (.a1 .b (.a1 .n .a0)) .nil) (hd 30 rfl) ?_ (fun ch hp => by simp at hp)
  rintro y hy; injection hy with hy; subst hy
  refine jo_l (ly_mv rfl) (hd 28 rfl) ?_
  refine jo_l (ly_ext rfl rfl) (hd 31 rfl) ?_
  refine jo_l (ly_ext rfl rfl) (hd 32 rfl) ?_
  refine jo_h (hy_alloc (id := 2) zero30 (by decide) rfl (by decide) rfl) (hd 6 rfl) ?_
  refine jo_l (ly_as rfl) (hd 5 rfl) ?_
  refine jo_st (sy_store rfl rfl rfl siz30 rfl rfl (Nat.le_of_ble_eq_true rfl)) ?_
  refine jo_nil ?_
  refine jc_seq ?_
  refine jc_region ?_
  refine jo_l (ly_lda agg27 rfl rfl rfl rfl) (hd 34 rfl) ?_
  refine jo_call Try.f11 (lent_s sb b (by omega)) rfl Try.func11 rfl rfl (ovL_cons rfl ovL_nil) (.cons (.a1 .b (.a1 .n .a0)) .nil) (hd 35 rfl) ?_ (fun ch hp => by simp at hp)
  rintro y hy; injection hy with hy; subst hy
  refine jo_l (ly_mv rfl) (hd 33 rfl) ?_
  refine jo_l (ly_ext rfl rfl) (hd 36 rfl) ?_
  refine jo_l (ly_ext rfl rfl) (hd 37 rfl) ?_
  refine jo_h (hy_alloc (id := 3) zero30 (by decide) rfl (by decide) rfl) (hd 8 rfl) ?_
  refine jo_l (ly_as rfl) (hd 7 rfl) ?_
  refine jo_st (sy_store rfl rfl rfl siz30 rfl rfl (Nat.le_of_ble_eq_true rfl)) ?_
  refine jo_nil ?_
  refine jc_seq ?_
  refine jc_H (H' := [⟨27, 2, 0, true, [.b sa, .n false .u64 a]⟩, ⟨27, 2, 0, true, [.b sb, .n false .u64 b]⟩, ⟨30, 2, 0, true, [.b sa, .n true .u64 a]⟩, ⟨30, 2, 0, true, [.b sb, .n true .u64 b]⟩]) rfl ?_
  refine jc_hold 2 _ ?_
  refine jc_draw (n := 8) _ rfl mixed ?_
  refine ja_gen (fun _ _ _ _ h => h) fun ops1 Q1 F0 hpan ho hq hF => ?_
  have S3_11111111 : JA Try.prog ops1 0 #[true, true, true, true, true, true, true, true] Γ ([(9, .p 4 1 0), (10, .p 5 1 0), (38, .a [.b sa, .n false .u64 a]), (39, .a [.b (decide ((sv sa a) < 0)), .n false .u64 (dg (sv sa a))]), (40, .a [.b sb, .n false .u64 b]), (41, .a [.b (decide ((sv sb b) < 0)), .n false .u64 (dg (sv sb b))])] ++ F0) [⟨27, 2, 0, true, [.b sa, .n false .u64 a]⟩, ⟨27, 2, 0, true, [.b sb, .n false .u64 b]⟩, ⟨30, 2, 0, true, [.b sa, .n true .u64 a]⟩, ⟨30, 2, 0, true, [.b sb, .n true .u64 b]⟩, ⟨35, 2, 1, true, [.b (decide ((sv sa a) < 0)), .n false .u64 (dg (sv sa a))]⟩, ⟨35, 2, 1, true, [.b (decide ((sv sb b) < 0)), .n false .u64 (dg (sv sb b))]⟩] Q1 := by
    subst ho; subst hq; subst hF
    refine ja_nil (by kernel_rfl) ?_
    refine jc_seq ?_
    refine jc_region ?_
    refine jo_l (ly_as rfl) (hd 11 rfl) ?_
    refine jo_nil ?_
    refine jc_seq ?_
    refine jc_seq ?_
    refine jc_H (H' := [⟨27, 2, 0, true, [.b sa, .n false .u64 a]⟩, ⟨27, 2, 0, true, [.b sb, .n false .u64 b]⟩, ⟨30, 2, 0, true, [.b sa, .n true .u64 a]⟩, ⟨30, 2, 0, true, [.b sb, .n true .u64 b]⟩, ⟨35, 2, 1, true, [.b (decide ((sv sa a) < 0)), .n false .u64 (dg (sv sa a))]⟩, ⟨35, 2, 1, true, [.b (decide ((sv sb b) < 0)), .n false .u64 (dg (sv sb b))]⟩]) rfl ?_
    refine jc_region ?_
    refine jo_l (ly_lda agg35 rfl rfl rfl rfl) (hd 42 rfl) ?_
    refine jo_call Try.f13 (ZSign_s (sv sb b)) rfl Try.func13 rfl rfl (ovL_cons rfl ovL_nil) (.cons (.a1 .b (.a1 .n .a0)) .nil) (hd 43 rfl) ?_ (fun ch hp => by simp at hp)
    rintro y hy; injection hy with hy; subst hy
    refine jo_l (ly_tt (ly_eq rfl rfl) (sgnI_0.2 h0)) (hd 44 rfl) ?_
    refine jo_nil ?_
    refine jc_litt rfl ?_
    refine jc_region ?_
    refine jo_l (ly_as rfl) (hd 11 rfl) ?_
    refine jo_nil ?_
    refine jc_seq ?_
    refine jc_region ?_
    refine jo_h (hy_alloc (id := 6) zero38 (by decide) rfl (by decide) rfl) (hd 12 rfl) ?_
    refine jo_nil ?_
    refine jc_seq ?_
    refine jc_seq ?_
    refine jc_region ?_
    refine jo_l (ly_mv rfl) (hd 45 rfl) ?_
    refine jo_l (ly_ff (ly_eq rfl rfl) (by decide)) (hd 46 rfl) ?_
    refine jo_nil ?_
    refine jc_litf rfl ?_
    refine jc_skip ?_
    refine jc_seq ?_
    refine jc_H (H' := [⟨27, 2, 0, true, [.b sa, .n false .u64 a]⟩, ⟨27, 2, 0, true, [.b sb, .n false .u64 b]⟩, ⟨30, 2, 0, true, [.b sa, .n true .u64 a]⟩, ⟨30, 2, 0, true, [.b sb, .n true .u64 b]⟩, ⟨35, 2, 1, true, [.b (decide ((sv sa a) < 0)), .n false .u64 (dg (sv sa a))]⟩, ⟨35, 2, 1, true, [.b (decide ((sv sb b) < 0)), .n false .u64 (dg (sv sb b))]⟩, ⟨38, 20, 0, true, [.b false, .c (.slice none 0 0), .b false, .c (.slice none 0 0), .b false, .c (.slice none 0 0), .b false, .c (.slice none 0 0), .b false, .c (.slice none 0 0), .b false, .c (.slice none 0 0), .b false, .c (.slice none 0 0), .b false, .c (.slice none 0 0), .b false, .c (.slice none 0 0), .b false, .c (.slice none 0 0)]⟩]) rfl ?_
    refine jc_region ?_
    refine jo_l (ly_lda agg30 rfl rfl rfl rfl) (hd 88 rfl) ?_
    refine jo_l (ly_lda agg30 rfl rfl rfl rfl) (hd 89 rfl) ?_
    refine jo_callN Try.f19 (Quo_nz sa sb a b (sv sa a) (by omega) (by omega) ua ub rfl h0 hlv) (fun o G ⟨_, h⟩ => h ▸ idless_cons ints_id (idless_cons ints_id idless_nil)) rfl Try.func19 rfl rfl (ovL_cons rfl (ovL_cons rfl ovL_nil)) (.cons (.a1 .b (.a1 .n .a0)) (.cons (.a1 .b (.a1 .n .a0)) .nil)) (hd 90 rfl) ?_ (fun ch G hp => by simp at hp)
    rintro y G ⟨hy, rfl⟩
    injection hy with hy
    subst hy
    show JO _ _ _ _ ((90, .t [.a [.b false, .o 7 0 0 0], .a [.b false, .o 8 0 0 0], .i .i64 30]) :: _) _ _
    refine jo_l (ly_mv rfl) (hd 87 rfl) ?_
    refine jo_l (ly_ext rfl rfl) (hd 91 rfl) ?_
    refine jo_l (ly_ext rfl rfl) (hd 92 rfl) ?_
    refine jo_l (ly_ext rfl rfl) (hd 93 rfl) ?_
    refine jo_h (hy_alloc (id := 9) zero30 (by decide) rfl (by decide) rfl) (hd 13 rfl) ?_
    refine jo_h (hy_alloc (id := 10) zero30 (by decide) rfl (by decide) rfl) (hd 14 rfl) ?_
    refine jo_st (sy_store rfl rfl rfl siz30 rfl rfl (Nat.le_of_ble_eq_true rfl)) ?_
    refine jo_st (sy_store rfl rfl rfl siz30 rfl rfl (Nat.le_of_ble_eq_true rfl)) ?_
    refine jo_l (ly_as rfl) (hd 15 rfl) ?_
    refine jo_nil ?_
    refine jc_seq ?_
    refine jc_H (H' := [⟨27, 2, 0, true, [.b sa, .n false .u64 a]⟩, ⟨27, 2, 0, true, [.b sb, .n false .u64 b]⟩, ⟨30, 2, 0, true, [.b sa, .n true .u64 a]⟩, ⟨30, 2, 0, true, [.b sb, .n true .u64 b]⟩, ⟨35, 2, 1, true, [.b (decide ((sv sa a) < 0)), .n false .u64 (dg (sv sa a))]⟩, ⟨35, 2, 1, true, [.b (decide ((sv sb b) < 0)), .n false .u64 (dg (sv sb b))]⟩, ⟨38, 20, 0, true, [.b false, .c (.slice none 0 0), .b false, .c (.slice none 0 0), .b false, .c (.slice none 0 0), .b false, .c (.slice none 0 0), .b false, .c (.slice none 0 0), .b false, .c (.slice none 0 0), .b false, .c (.slice none 0 0), .b false, .c (.slice none 0 0), .b false, .c (.slice none 0 0), .b false, .c (.slice none 0 0)]⟩, ⟨82, 1, 0, true, ints .u64 []⟩, ⟨82, 1, 0, true, ints .u64 []⟩, ⟨30, 2, 0, true, [.b false, .o 7 0 0 0]⟩, ⟨30, 2, 0, true, [.b false, .o 8 0 0 0]⟩]) rfl ?_
    refine jc_region ?_
    refine jo_l (ly_lda agg30 rfl rfl rfl rfl) (hd 95 rfl) ?_
    refine jo_l (ly_lda agg30 rfl rfl rfl rfl) (hd 96 rfl) ?_
    refine jo_callN Try.f20 (Floor_nz sa sb a b (sv sa a) (by omega) (by omega) ua ub rfl h0 hlv) (fun o G ⟨_, h⟩ => h ▸ idless_cons ints_id (idless_cons ints_id idless_nil)) rfl Try.func20 rfl rfl (ovL_cons rfl (ovL_cons rfl ovL_nil)) (.cons (.a1 .b (.a1 .n .a0)) (.cons (.a1 .b (.a1 .n .a0)) .nil)) (hd 97 rfl) ?_ (fun ch G hp => by simp at hp)
    rintro y G ⟨hy, rfl⟩
    injection hy with hy
    subst hy
    show JO _ _ _ _ ((97, .t [.a [.b false, .o 11 0 0 0], .a [.b false, .o 12 0 0 0], .i .i64 30]) :: _) _ _
    refine jo_l (ly_mv rfl) (hd 94 rfl) ?_
    refine jo_l (ly_ext rfl rfl) (hd 98 rfl) ?_
    refine jo_l (ly_ext rfl rfl) (hd 99 rfl) ?_
    refine jo_l (ly_ext rfl rfl) (hd 100 rfl) ?_
    refine jo_h (hy_alloc (id := 13) zero30 (by decide) rfl (by decide) rfl) (hd 16 rfl) ?_
    refine jo_h (hy_alloc (id := 14) zero30 (by decide) rfl (by decide) rfl) (hd 17 rfl) ?_
    refine jo_st (sy_store rfl rfl rfl siz30 rfl rfl (Nat.le_of_ble_eq_true rfl)) ?_
    refine jo_st (sy_store rfl rfl rfl siz30 rfl rfl (Nat.le_of_ble_eq_true rfl)) ?_
    refine jo_l (ly_as rfl) (hd 18 rfl) ?_
    refine jo_nil ?_
    refine jc_seq ?_
    refine jc_H (H' := [⟨27, 2, 0, true, [.b sa, .n false .u64 a]⟩, ⟨27, 2, 0, true, [.b sb, .n false .u64 b]⟩, ⟨30, 2, 0, true, [.b sa, .n true .u64 a]⟩, ⟨30, 2, 0, true, [.b sb, .n true .u64 b]⟩, ⟨35, 2, 1, true, [.b (decide ((sv sa a) < 0)), .n false .u64 (dg (sv sa a))]⟩, ⟨35, 2, 1, true, [.b (decide ((sv sb b) < 0)), .n false .u64 (dg (sv sb b))]⟩, ⟨38, 20, 0, true, [.b false, .c (.slice none 0 0), .b false, .c (.slice none 0 0), .b false, .c (.slice none 0 0), .b false, .c (.slice none 0 0), .b false, .c (.slice none 0 0), .b false, .c (.slice none 0 0), .b false, .c (.slice none 0 0), .b false, .c (.slice none 0 0), .b false, .c (.slice none 0 0), .b false, .c (.slice none 0 0)]⟩, ⟨82, 1, 0, true, ints .u64 []⟩, ⟨82, 1, 0, true, ints .u64 []⟩, ⟨30, 2, 0, true, [.b false, .o 7 0 0 0]⟩, ⟨30, 2, 0, true, [.b false, .o 8 0 0 0]⟩, ⟨82, 1, 0, true, ints .u64 []⟩, ⟨82, 1, 0, true, ints .u64 []⟩, ⟨30, 2, 0, true, [.b false, .o 11 0 0 0]⟩, ⟨30, 2, 0, true, [.b false, .o 12 0 0 0]⟩]) rfl ?_
    refine jc_region ?_
    refine jo_l (ly_lda agg30 rfl rfl rfl rfl) (hd 102 rfl) ?_
    refine jo_l (ly_lda agg30 rfl rfl rfl rfl) (hd 103 rfl) ?_
    refine jo_callN Try.f21 (Ceil_nz sa sb a b (sv sa a) (by omega) (by omega) ua ub rfl h0 hlv) (fun o G ⟨_, h⟩ => h ▸ idless_cons ints_id (idless_cons ints_id idless_nil)) rfl Try.func21 rfl rfl (ovL_cons rfl (ovL_cons rfl ovL_nil)) (.cons (.a1 .b (.a1 .n .a0)) (.cons (.a1 .b (.a1 .n .a0)) .nil)) (hd 104 rfl) ?_ (fun ch G hp => by simp at hp)
    rintro y G ⟨hy, rfl⟩
    injection hy with hy
    subst hy
    show JO _ _ _ _ ((104, .t [.a [.b false, .o 15 0 0 0], .a [.b false, .o 16 0 0 0], .i .i64 30]) :: _) _ _
    refine jo_l (ly_mv rfl) (hd 101 rfl) ?_
    refine jo_l (ly_ext rfl rfl) (hd 105 rfl) ?_
    refine jo_l (ly_ext rfl rfl) (hd 106 rfl) ?_
    refine jo_l (ly_ext rfl rfl) (hd 107 rfl) ?_
    refine jo_h (hy_alloc (id := 17) zero30 (by decide) rfl (by decide) rfl) (hd 19 rfl) ?_
    refine jo_h (hy_alloc (id := 18) zero30 (by decide) rfl (by decide) rfl) (hd 20 rfl) ?_
    refine jo_st (sy_store rfl rfl rfl siz30 rfl rfl (Nat.le_of_ble_eq_true rfl)) ?_
    refine jo_st (sy_store rfl rfl rfl siz30 rfl rfl (Nat.le_of_ble_eq_true rfl)) ?_
    refine jo_l (ly_as rfl) (hd 21 rfl) ?_
    refine jo_nil ?_
    refine jc_seq ?_
    refine jc_H (H' := [⟨27, 2, 0, true, [.b sa, .n false .u64 a]⟩, ⟨27, 2, 0, true, [.b sb, .n false .u64 b]⟩, ⟨30, 2, 0, true, [.b sa, .n true .u64 a]⟩, ⟨30, 2, 0, true, [.b sb, .n true .u64 b]⟩, ⟨35, 2, 1, true, [.b (decide ((sv sa a) < 0)), .n false .u64 (dg (sv sa a))]⟩, ⟨35, 2, 1, true, [.b (decide ((sv sb b) < 0)), .n false .u64 (dg (sv sb b))]⟩, ⟨38, 20, 0, true, [.b false, .c (.slice none 0 0), .b false, .c (.slice none 0 0), .b false, .c (.slice none 0 0), .b false, .c (.slice none 0 0), .b false, .c (.slice none 0 0), .b false, .c (.slice none 0 0), .b false, .c (.slice none 0 0), .b false, .c (.slice none 0 0), .b false, .c (.slice none 0 0), .b false, .c (.slice none 0 0)]⟩, ⟨82, 1, 0, true, ints .u64 []⟩, ⟨82, 1, 0, true, ints .u64 []⟩, ⟨30, 2, 0, true, [.b false, .o 7 0 0 0]⟩, ⟨30, 2, 0, true, [.b false, .o 8 0 0 0]⟩, ⟨82, 1, 0, true, ints .u64 []⟩, ⟨82, 1, 0, true, ints .u64 []⟩, ⟨30, 2, 0, true, [.b false, .o 11 0 0 0]⟩, ⟨30, 2, 0, true, [.b false, .o 12 0 0 0]⟩, ⟨82, 1, 0, true, ints .u64 []⟩, ⟨82, 1, 0, true, ints .u64 []⟩, ⟨30, 2, 0, true, [.b false, .o 15 0 0 0]⟩, ⟨30, 2, 0, true, [.b false, .o 16 0 0 0]⟩]) rfl ?_
    refine jc_region ?_
    refine jo_l (ly_lda agg30 rfl rfl rfl rfl) (hd 109 rfl) ?_
    refine jo_l (ly_lda agg30 rfl rfl rfl rfl) (hd 110 rfl) ?_
    refine jo_callN Try.f22 (Near_nz sa sb a b (sv sa a) (by omega) (by omega) ua ub rfl h0 hlv) (fun o G ⟨_, h⟩ => h ▸ idless_cons ints_id (idless_cons ints_id idless_nil)) rfl Try.func22 rfl rfl (ovL_cons rfl (ovL_cons rfl ovL_nil)) (.cons (.a1 .b (.a1 .n .a0)) (.cons (.a1 .b (.a1 .n .a0)) .nil)) (hd 111 rfl) ?_ (fun ch G hp => by simp at hp)
    rintro y G ⟨hy, rfl⟩
    injection hy with hy
    subst hy
    show JO _ _ _ _ ((111, .t [.a [.b false, .o 19 0 0 0], .a [.b false, .o 20 0 0 0], .i .i64 30]) :: _) _ _
    refine jo_l (ly_mv rfl) (hd 108 rfl) ?_
    refine jo_l (ly_ext rfl rfl) (hd 112 rfl) ?_
    refine jo_l (ly_ext rfl rfl) (hd 113 rfl) ?_
    refine jo_l (ly_ext rfl rfl) (hd 114 rfl) ?_
    refine jo_h (hy_alloc (id := 21) zero30 (by decide) rfl (by decide) rfl) (hd 22 rfl) ?_
    refine jo_h (hy_alloc (id := 22) zero30 (by decide) rfl (by decide) rfl) (hd 23 rfl) ?_
    refine jo_st (sy_store rfl rfl rfl siz30 rfl rfl (Nat.le_of_ble_eq_true rfl)) ?_
    refine jo_st (sy_store rfl rfl rfl siz30 rfl rfl (Nat.le_of_ble_eq_true rfl)) ?_
    refine jo_l (ly_as rfl) (hd 24 rfl) ?_
    refine jo_nil ?_
    refine jc_seq ?_
    refine jc_H (H' := [⟨27, 2, 0, true, [.b sa, .n false .u64 a]⟩, ⟨27, 2, 0, true, [.b sb, .n false .u64 b]⟩, ⟨30, 2, 0, true, [.b sa, .n true .u64 a]⟩, ⟨30, 2, 0, true, [.b sb, .n true .u64 b]⟩, ⟨35, 2, 1, true, [.b (decide ((sv sa a) < 0)), .n false .u64 (dg (sv sa a))]⟩, ⟨35, 2, 1, true, [.b (decide ((sv sb b) < 0)), .n false .u64 (dg (sv sb b))]⟩, ⟨38, 20, 0, true, [.b false, .c (.slice none 0 0), .b false, .c (.slice none 0 0), .b false, .c (.slice none 0 0), .b false, .c (.slice none 0 0), .b false, .c (.slice none 0 0), .b false, .c (.slice none 0 0), .b false, .c (.slice none 0 0), .b false, .c (.slice none 0 0), .b false, .c (.slice none 0 0), .b false, .c (.slice none 0 0)]⟩, ⟨82, 1, 0, true, ints .u64 []⟩, ⟨82, 1, 0, true, ints .u64 []⟩, ⟨30, 2, 0, true, [.b false, .o 7 0 0 0]⟩, ⟨30, 2, 0, true, [.b false, .o 8 0 0 0]⟩, ⟨82, 1, 0, true, ints .u64 []⟩, ⟨82, 1, 0, true, ints .u64 []⟩, ⟨30, 2, 0, true, [.b false, .o 11 0 0 0]⟩, ⟨30, 2, 0, true, [.b false, .o 12 0 0 0]⟩, ⟨82, 1, 0, true, ints .u64 []⟩, ⟨82, 1, 0, true, ints .u64 []⟩, ⟨30, 2, 0, true, [.b false, .o 15 0 0 0]⟩, ⟨30, 2, 0, true, [.b false, .o 16 0 0 0]⟩, ⟨82, 1, 0, true, ints .u64 []⟩, ⟨82, 1, 0, true, ints .u64 []⟩, ⟨30, 2, 0, true, [.b false, .o 19 0 0 0]⟩, ⟨30, 2, 0, true, [.b false, .o 20 0 0 0]⟩]) rfl ?_
    refine jc_region ?_
    refine jo_l (ly_lda agg30 rfl rfl rfl rfl) (hd 116 rfl) ?_
    refine jo_l (ly_lda agg30 rfl rfl rfl rfl) (hd 117 rfl) ?_
    refine jo_callN Try.f23 (Euclid_nz sa sb a b (sv sa a) (by omega) (by omega) ua ub rfl h0 hlv) (fun o G ⟨_, h⟩ => h ▸ idless_cons ints_id (idless_cons ints_id idless_nil)) rfl Try.func23 rfl rfl (ovL_cons rfl (ovL_cons rfl ovL_nil)) (.cons (.a1 .b (.a1 .n .a0)) (.cons (.a1 .b (.a1 .n .a0)) .nil)) (hd 118 rfl) ?_ (fun ch G hp => by simp at hp)
    rintro y G ⟨hy, rfl⟩
    injection hy with hy
    subst hy
    show JO _ _ _ _ ((118, .t [.a [.b false, .o 23 0 0 0], .a [.b false, .o 24 0 0 0], .i .i64 30]) :: _) _ _
    refine jo_l (ly_mv rfl) (hd 115 rfl) ?_
    refine jo_l (ly_ext rfl rfl) (hd 119 rfl) ?_
    refine jo_l (ly_ext rfl rfl) (hd 120 rfl) ?_
    refine jo_l (ly_ext rfl rfl) (hd 121 rfl) ?_
    refine jo_h (hy_alloc (id := 25) zero30 (by decide) rfl (by decide) rfl) (hd 25 rfl) ?_
    refine jo_h (hy_alloc (id := 26) zero30 (by decide) rfl (by decide) rfl) (hd 26 rfl) ?_
    refine jo_st (sy_store rfl rfl rfl siz30 rfl rfl (Nat.le_of_ble_eq_true rfl)) ?_
    refine jo_st (sy_store rfl rfl rfl siz30 rfl rfl (Nat.le_of_ble_eq_true rfl)) ?_
    refine jo_l (ly_as rfl) (hd 27 rfl) ?_
    refine jo_nil ?_
    refine jc_seq ?_
    refine jc_H (H' := [⟨27, 2, 0, true, [.b sa, .n false .u64 a]⟩, ⟨27, 2, 0, true, [.b sb, .n false .u64 b]⟩, ⟨30, 2, 0, true, [.b sa, .n true .u64 a]⟩, ⟨30, 2, 0, true, [.b sb, .n true .u64 b]⟩, ⟨35, 2, 1, true, [.b (decide ((sv sa a) < 0)), .n false .u64 (dg (sv sa a))]⟩, ⟨35, 2, 1, true, [.b (decide ((sv sb b) < 0)), .n false .u64 (dg (sv sb b))]⟩, ⟨38, 20, 0, true, [.b false, .c (.slice none 0 0), .b false, .c (.slice none 0 0), .b false, .c (.slice none 0 0), .b false, .c (.slice none 0 0), .b false, .c (.slice none 0 0), .b false, .c (.slice none 0 0), .b false, .c (.slice none 0 0), .b false, .c (.slice none 0 0), .b false, .c (.slice none 0 0), .b false, .c (.slice none 0 0)]⟩, ⟨82, 1, 0, true, ints .u64 []⟩, ⟨82, 1, 0, true, ints .u64 []⟩, ⟨30, 2, 0, true, [.b false, .o 7 0 0 0]⟩, ⟨30, 2, 0, true, [.b false, .o 8 0 0 0]⟩, ⟨82, 1, 0, true, ints .u64 []⟩, ⟨82, 1, 0, true, ints .u64 []⟩, ⟨30, 2, 0, true, [.b false, .o 11 0 0 0]⟩, ⟨30, 2, 0, true, [.b false, .o 12 0 0 0]⟩, ⟨82, 1, 0, true, ints .u64 []⟩, ⟨82, 1, 0, true, ints .u64 []⟩, ⟨30, 2, 0, true, [.b false, .o 15 0 0 0]⟩, ⟨30, 2, 0, true, [.b false, .o 16 0 0 0]⟩, ⟨82, 1, 0, true, ints .u64 []⟩, ⟨82, 1, 0, true, ints .u64 []⟩, ⟨30, 2, 0, true, [.b false, .o 19 0 0 0]⟩, ⟨30, 2, 0, true, [.b false, .o 20 0 0 0]⟩, ⟨82, 1, 0, true, ints .u64 []⟩, ⟨82, 1, 0, true, ints .u64 []⟩, ⟨30, 2, 0, true, [.b false, .o 23 0 0 0]⟩, ⟨30, 2, 0, true, [.b false, .o 24 0 0 0]⟩]) rfl ?_
    refine jc_regionb rfl ?_
    refine jo_l (ly_lda agg30 rfl rfl rfl rfl) (hd 122 rfl) ?_
    refine jo_l (ly_lda agg30 rfl rfl rfl rfl) (hd 123 rfl) ?_
    refine jo_l (ly_mv rfl) (hd 124 rfl) ?_
    refine jo_l (ly_iar (i := 0) ar38 rfl rfl rfl rfl (by omega) rfl) (hd 125 rfl) ?_
    refine jo_l (ly_lda agg35 rfl rfl rfl rfl) (hd 126 rfl) ?_
    refine jo_l (ly_iar (i := 1) ar38 rfl rfl rfl rfl (by omega) rfl) (hd 127 rfl) ?_
    refine jo_l (ly_lda agg35 rfl rfl rfl rfl) (hd 128 rfl) ?_
    refine jo_l (ly_mv rfl) (hd 129 rfl) ?_
    refine jo_callL Try.f24 (pair_z) rfl Try.func24 rfl rfl (ovL_cons rfl (ovL_cons rfl (ovL_cons rfl (ovL_cons rfl (ovL_cons rfl (ovL_cons rfl ovL_nil)))))) (.a1 (.a1 .b (.a1 (.o rfl (by simp) rfl) .a0)) (.a1 (.a1 .b (.a1 (.o rfl (by simp) rfl) .a0)) (.a1 .i (.a1 (.a1 .b (.a1 (.nil (fr := false) (k := .u64)) .a0)) (.a1 (.a1 .b (.a1 (.nil (fr := false) (k := .u64)) .a0)) (.a1 .i .a0)))))) (.cons (.a1 .b (.a1 .n .a0)) (.cons (.a1 .b (.a1 .n .a0)) (.cons .i (.cons (.a1 .b (.a1 .n .a0)) (.cons (.a1 .b (.a1 .n .a0)) (.cons .i .nil)))))) hL (fun y hy => by injection hy with hy; subst hy; rfl) (hd 130 rfl) ?_ (fun ch hp => by simp at hp)
    rintro y hy; injection hy with hy; subst hy
    refine jo_l (ly_mv rfl) (hd 131 rfl) ?_
    refine jo_g 131 rfl rfl (ly_lda agg30 rfl rfl rfl rfl) (hd 132 rfl) ?_
    refine jo_g 131 rfl rfl (ly_lda agg30 rfl rfl rfl rfl) (hd 133 rfl) ?_
    as_aux_lemma =>
      refine jo_g 131 rfl rfl (ly_mv rfl) (hd 134 rfl) ?_
      refine jo_g 131 rfl rfl (ly_iar (i := 2) ar38 rfl rfl rfl rfl (by omega) rfl) (hd 135 rfl) ?_
      refine jo_g 131 rfl rfl (ly_lda agg35 rfl rfl rfl rfl) (hd 136 rfl) ?_
      refine jo_g 131 rfl rfl (ly_iar (i := 3) ar38 rfl rfl rfl rfl (by omega) rfl) (hd 137 rfl) ?_
      refine jo_g 131 rfl rfl (ly_lda agg35 rfl rfl rfl rfl) (hd 138 rfl) ?_
      refine jo_g 131 rfl rfl (ly_mv rfl) (hd 139 rfl) ?_
      refine jo_callLg Try.f24 131 rfl rfl (pair_z) rfl Try.func24 rfl rfl (ovL_cons rfl (ovL_cons rfl (ovL_cons rfl (ovL_cons rfl (ovL_cons rfl (ovL_cons rfl ovL_nil)))))) (.a1 (.a1 .b (.a1 (.o rfl (by simp) rfl) .a0)) (.a1 (.a1 .b (.a1 (.o rfl (by simp) rfl) .a0)) (.a1 .i (.a1 (.a1 .b (.a1 (.nil (fr := false) (k := .u64)) .a0)) (.a1 (.a1 .b (.a1 (.nil (fr := false) (k := .u64)) .a0)) (.a1 .i .a0)))))) (.cons (.a1 .b (.a1 .n .a0)) (.cons (.a1 .b (.a1 .n .a0)) (.cons .i (.cons (.a1 .b (.a1 .n .a0)) (.cons (.a1 .b (.a1 .n .a0)) (.cons .i .nil)))))) hL (fun y hy => by injection hy with hy; subst hy; rfl) (hd 140 rfl) ?_ (fun ch hp => by simp at hp)
      rintro y hy; injection hy with hy; subst hy
      refine jo_l (ly_pick_t rfl rfl) (hd 141 rfl) ?_
      refine jo_l (ly_mv rfl) (hd 142 rfl) ?_
      refine jo_g 142 rfl rfl (ly_lda agg30 rfl rfl rfl rfl) (hd 143 rfl) ?_
      refine jo_g 142 rfl rfl (ly_lda agg30 rfl rfl rfl rfl) (hd 144 rfl) ?_
      refine jo_g 142 rfl rfl (ly_mv rfl) (hd 145 rfl) ?_
      as_aux_lemma =>
        refine jo_g 142 rfl rfl (ly_iar (i := 4) ar38 rfl rfl rfl rfl (by omega) rfl) (hd 146 rfl) ?_
        refine jo_g 142 rfl rfl (ly_lda agg35 rfl rfl rfl rfl) (hd 147 rfl) ?_
        refine jo_g 142 rfl rfl (ly_iar (i := 5) ar38 rfl rfl rfl rfl (by omega) rfl) (hd 148 rfl) ?_
        refine jo_g 142 rfl rfl (ly_lda agg35 rfl rfl rfl rfl) (hd 149 rfl) ?_
        refine jo_g 142 rfl rfl (ly_mv rfl) (hd 150 rfl) ?_
        refine jo_callLg Try.f24 142 rfl rfl (pair_z) rfl Try.func24 rfl rfl (ovL_cons rfl (ovL_cons rfl (ovL_cons rfl (ovL_cons rfl (ovL_cons rfl (ovL_cons rfl ovL_nil)))))) (.a1 (.a1 .b (.a1 (.o rfl (by simp) rfl) .a0)) (.a1 (.a1 .b (.a1 (.o rfl (by simp) rfl) .a0)) (.a1 .i (.a1 (.a1 .b (.a1 (.nil (fr := false) (k := .u64)) .a0)) (.a1 (.a1 .b (.a1 (.nil (fr := false) (k := .u64)) .a0)) (.a1 .i .a0)))))) (.cons (.a1 .b (.a1 .n .a0)) (.cons (.a1 .b (.a1 .n .a0)) (.cons .i (.cons (.a1 .b (.a1 .n .a0)) (.cons (.a1 .b (.a1 .n .a0)) (.cons .i .nil)))))) hL (fun y hy => by injection hy with hy; subst hy; rfl) (hd 151 rfl) ?_ (fun ch hp => by simp at hp)
        rintro y hy; injection hy with hy; subst hy
        refine jo_l (ly_pick_t rfl rfl) (hd 152 rfl) ?_
        refine jo_l (ly_mv rfl) (hd 153 rfl) ?_
        refine jo_g 153 rfl rfl (ly_lda agg30 rfl rfl rfl rfl) (hd 154 rfl) ?_
        refine jo_g 153 rfl rfl (ly_lda agg30 rfl rfl rfl rfl) (hd 155 rfl) ?_
        refine jo_g 153 rfl rfl (ly_mv rfl) (hd 156 rfl) ?_
        refine jo_g 153 rfl rfl (ly_iar (i := 6) ar38 rfl rfl rfl rfl (by omega) rfl) (hd 157 rfl) ?_
        as_aux_lemma =>
          refine jo_g 153 rfl rfl (ly_lda agg35 rfl rfl rfl rfl) (hd 158 rfl) ?_
          refine jo_g 153 rfl rfl (ly_iar (i := 7) ar38 rfl rfl rfl rfl (by omega) rfl) (hd 159 rfl) ?_
          refine jo_g 153 rfl rfl (ly_lda agg35 rfl rfl rfl rfl) (hd 160 rfl) ?_
          refine jo_g 153 rfl rfl (ly_mv rfl) (hd 161 rfl) ?_
          refine jo_callLg Try.f24 153 rfl rfl (pair_z) rfl Try.func24 rfl rfl (ovL_cons rfl (ovL_cons rfl (ovL_cons rfl (ovL_cons rfl (ovL_cons rfl (ovL_cons rfl ovL_nil)))))) (.a1 (.a1 .b (.a1 (.o rfl (by simp) rfl) .a0)) (.a1 (.a1 .b (.a1 (.o rfl (by simp) rfl) .a0)) (.a1 .i (.a1 (.a1 .b (.a1 (.nil (fr := false) (k := .u64)) .a0)) (.a1 (.a1 .b (.a1 (.nil (fr := false) (k := .u64)) .a0)) (.a1 .i .a0)))))) (.cons (.a1 .b (.a1 .n .a0)) (.cons (.a1 .b (.a1 .n .a0)) (.cons .i (.cons (.a1 .b (.a1 .n .a0)) (.cons (.a1 .b (.a1 .n .a0)) (.cons .i .nil)))))) hL (fun y hy => by injection hy with hy; subst hy; rfl) (hd 162 rfl) ?_ (fun ch hp => by simp at hp)
          rintro y hy; injection hy with hy; subst hy
          refine jo_l (ly_pick_t rfl rfl) (hd 163 rfl) ?_
          refine jo_l (ly_mv rfl) (hd 164 rfl) ?_
          refine jo_g 164 rfl rfl (ly_lda agg30 rfl rfl rfl rfl) (hd 165 rfl) ?_
          refine jo_g 164 rfl rfl (ly_lda agg30 rfl rfl rfl rfl) (hd 166 rfl) ?_
          refine jo_g 164 rfl rfl (ly_mv rfl) (hd 167 rfl) ?_
          refine jo_g 164 rfl rfl (ly_iar (i := 8) ar38 rfl rfl rfl rfl (by omega) rfl) (hd 168 rfl) ?_
          refine jo_g 164 rfl rfl (ly_lda agg35 rfl rfl rfl rfl) (hd 169 rfl) ?_
          as_aux_lemma =>
            refine jo_g 164 rfl rfl (ly_iar (i := 9) ar38 rfl rfl rfl rfl (by omega) rfl) (hd 170 rfl) ?_
            refine jo_g 164 rfl rfl (ly_lda agg35 rfl rfl rfl rfl) (hd 171 rfl) ?_
            refine jo_g 164 rfl rfl (ly_mv rfl) (hd 172 rfl) ?_
            refine jo_callLg Try.f24 164 rfl rfl (pair_z) rfl Try.func24 rfl rfl (ovL_cons rfl (ovL_cons rfl (ovL_cons rfl (ovL_cons rfl (ovL_cons rfl (ovL_cons rfl ovL_nil)))))) (.a1 (.a1 .b (.a1 (.o rfl (by simp) rfl) .a0)) (.a1 (.a1 .b (.a1 (.o rfl (by simp) rfl) .a0)) (.a1 .i (.a1 (.a1 .b (.a1 (.nil (fr := false) (k := .u64)) .a0)) (.a1 (.a1 .b (.a1 (.nil (fr := false) (k := .u64)) .a0)) (.a1 .i .a0)))))) (.cons (.a1 .b (.a1 .n .a0)) (.cons (.a1 .b (.a1 .n .a0)) (.cons .i (.cons (.a1 .b (.a1 .n .a0)) (.cons (.a1 .b (.a1 .n .a0)) (.cons .i .nil)))))) hL (fun y hy => by injection hy with hy; subst hy; rfl) (hd 173 rfl) ?_ (fun ch hp => by simp at hp)
            rintro y hy; injection hy with hy; subst hy
            refine jo_l (ly_pick_t rfl rfl) (hd 174 rfl) ?_
            refine jo_l (ly_mv rfl) (hd 175 rfl) ?_
            refine jo_g 175 rfl rfl (ly_fa fld30_1 rfl rfl rfl) (hd 176 rfl) ?_
            refine jo_g 175 rfl rfl (ly_ld one28 rfl rfl rfl) (hd 177 rfl) ?_
            refine jo_g 175 rfl rfl (ly_fa fld30_1 rfl rfl rfl) (hd 178 rfl) ?_
            refine jo_g 175 rfl rfl (ly_ld one28 rfl rfl rfl) (hd 179 rfl) ?_
            refine jo_g 175 rfl rfl (ly_fa fld30_1 rfl rfl rfl) (hd 180 rfl) ?_
            refine jo_g 175 rfl rfl (ly_ld one28 rfl rfl rfl) (hd 181 rfl) ?_
            as_aux_lemma =>
              refine jo_g 175 rfl rfl (ly_fa fld30_1 rfl rfl rfl) (hd 182 rfl) ?_
              refine jo_g 175 rfl rfl (ly_ld one28 rfl rfl rfl) (hd 183 rfl) ?_
              refine jo_g 175 rfl rfl (ly_fa fld30_1 rfl rfl rfl) (hd 184 rfl) ?_
              refine jo_g 175 rfl rfl (ly_ld one28 rfl rfl rfl) (hd 185 rfl) ?_
              refine jo_g 175 rfl rfl (ly_fa fld30_1 rfl rfl rfl) (hd 186 rfl) ?_
              refine jo_g 175 rfl rfl (ly_ld one28 rfl rfl rfl) (hd 187 rfl) ?_
              refine jo_g 175 rfl rfl (ly_fa fld30_1 rfl rfl rfl) (hd 188 rfl) ?_
              refine jo_g 175 rfl rfl (ly_ld one28 rfl rfl rfl) (hd 189 rfl) ?_
              refine jo_g 175 rfl rfl (ly_fa fld30_1 rfl rfl rfl) (hd 190 rfl) ?_
              refine jo_g 175 rfl rfl (ly_ld one28 rfl rfl rfl) (hd 191 rfl) ?_
              refine jo_g 175 rfl rfl (ly_fa fld30_1 rfl rfl rfl) (hd 192 rfl) ?_
              refine jo_g 175 rfl rfl (ly_ld one28 rfl rfl rfl) (hd 193 rfl) ?_
              as_aux_lemma =>
                refine jo_g 175 rfl rfl (ly_fa fld30_1 rfl rfl rfl) (hd 194 rfl) ?_
                refine jo_g 175 rfl rfl (ly_ld one28 rfl rfl rfl) (hd 195 rfl) ?_
                refine jo_hg 175 rfl rfl (hy_lit (id := 27) (xs := [.tmp 177, .tmp 179, .tmp 181, .tmp 183, .tmp 185, .tmp 187, .tmp 189, .tmp 191, .tmp 193, .tmp 195]) el81 rfl (ovL_cons rfl (ovL_cons rfl (ovL_cons rfl (ovL_cons rfl (ovL_cons rfl (ovL_cons rfl (ovL_cons rfl (ovL_cons rfl (ovL_cons rfl (ovL_cons rfl ovL_nil)))))))))) rfl (all2_of rfl) (by decide) rfl) (hd 196 rfl) ?_
                refine jo_callGg Try.f25 175 rfl rfl (sel := [27, 7, 8, 11, 12, 15, 16, 19, 20, 23, 24]) (Own_s 10 (by decide) (rsOf [[], [], [], [], [], [], [], [], [], []]) (fun j _ => rsOf_len (by simp <;> omega) (by decide) j)) rfl Try.func25 rfl rfl (ovL_cons rfl ovL_nil) rfl rfl (.cons rfl rfl (.cons rfl (renL_ints _ _ _) (.cons rfl (renL_ints _ _ _) (.cons rfl (renL_ints _ _ _) (.cons rfl (renL_ints _ _ _) (.cons rfl (renL_ints _ _ _) (.cons rfl (renL_ints _ _ _) (.cons rfl (renL_ints _ _ _) (.cons rfl (renL_ints _ _ _) (.cons rfl (renL_ints _ _ _) (.cons rfl (renL_ints _ _ _) .nil))))))))))) (by decide) ow_ids ow_fresh (fun y G h => by cases h; rfl) (hd 197 rfl) ?_ (fun ch G hp => by cases hp)
                rintro y G hy; injection hy with hy; subst hy
                refine jo_l (ly_pick_t rfl rfl) (hd 198 rfl) ?_
                refine jo_l (ly_mv rfl) (hd 199 rfl) ?_
                refine jo_g 199 rfl rfl (ly_mv rfl) (hd 200 rfl) ?_
                refine jo_g 199 rfl rfl (ly_fa fld27_1 rfl rfl rfl) (hd 201 rfl) ?_
                refine jo_g 199 rfl rfl (ly_ld one25 rfl rfl rfl) (hd 202 rfl) ?_
                refine jo_callg Try.f26 199 rfl rfl (Kept_s a (by omega)) rfl Try.func26 rfl rfl (ovL_cons rfl (ovL_cons rfl ovL_nil)) (.cons .n (.cons .n .nil)) (hd 203 rfl) ?_ (fun ch hp => by simp at hp)
                rintro y hy; injection hy with hy; subst hy
                refine jo_l (ly_pick_t rfl rfl) (hd 204 rfl) ?_
                refine jo_l (ly_mv rfl) (hd 205 rfl) ?_
                as_aux_lemma =>
                  refine jo_g 205 rfl rfl (ly_mv rfl) (hd 206 rfl) ?_
                  refine jo_g 205 rfl rfl (ly_fa fld27_1 rfl rfl rfl) (hd 207 rfl) ?_
                  refine jo_g 205 rfl rfl (ly_ld one25 rfl rfl rfl) (hd 208 rfl) ?_
                  refine jo_callg Try.f26 205 rfl rfl (Kept_s b (by omega)) rfl Try.func26 rfl rfl (ovL_cons rfl (ovL_cons rfl ovL_nil)) (.cons .n (.cons .n .nil)) (hd 209 rfl) ?_ (fun ch hp => by simp at hp)
                  rintro y hy; injection hy with hy; subst hy
                  refine jo_l (ly_pick_t rfl rfl) (hd 210 rfl) ?_
                  refine jo_l (ly_mv rfl) (hd 211 rfl) ?_
                  refine jo_callg Try.f10 211 rfl rfl (awake_s) rfl Try.func10 rfl rfl ovL_nil .nil (hd 212 rfl) ?_ (fun ch hp => by simp at hp)
                  rintro y hy; injection hy with hy; subst hy
                  refine jo_l (ly_pick_t rfl rfl) (hd 213 rfl) ?_
                  refine jo_l (ly_as rfl) (hd 4 rfl) ?_
                  refine jo_nil ?_
                  refine jc_ret ?_
                  refine ⟨_, _, (.cons rfl .nil), .b, ?_⟩
                  exact rfl
  have S3_11111110 : JA Try.prog ops1 1 #[true, true, true, true, true, true, true, false] Γ ([(9, .p 4 1 0), (10, .p 5 1 0), (38, .a [.b sa, .n false .u64 a]), (39, .a [.b (decide ((sv sa a) < 0)), .n false .u64 (dg (sv sa a))]), (40, .a [.b sb, .n false .u64 b]), (41, .a [.b (decide ((sv sb b) < 0)), .n false .u64 (dg (sv sb b))])] ++ F0) [⟨27, 2, 0, true, [.b sa, .n false .u64 a]⟩, ⟨27, 2, 0, true, [.b sb, .n false .u64 b]⟩, ⟨30, 2, 0, true, [.b sa, .n true .u64 a]⟩, ⟨30, 2, 0, true, [.b sb, .n true .u64 b]⟩, ⟨35, 2, 1, true, [.b (decide ((sv sa a) < 0)), .n false .u64 (dg (sv sa a))]⟩, ⟨35, 2, 1, true, [.b false, .c (.slice none 0 0)]⟩] Q1 := by
    subst ho; subst hF
    refine ja_1 7 ?_ rfl (by kernel_rfl)
    refine js_st (sy_store rfl rfl rfl siz35 rfl rfl (Nat.le_of_ble_eq_true rfl)) rfl ?_
    refine ja_to (m := [(9, .p 4 1 0), (10, .p 5 1 0), (38, .a [.b sa, .n false .u64 a]), (39, .a [.b (decide ((sv sa a) < 0)), .n false .u64 (dg (sv sa a))]), (40, .a [.b sb, .n false .u64 b]), (41, .a [.b (decide ((sv sb b) < 0)), .n false .u64 (dg (sv sb b))])]) (by decide) rfl (cov_n 6 rfl rfl (.cons rfl (.cons rfl (.cons rfl (.cons rfl (.cons rfl (.cons rfl .nil))))))) S3_11111111
  have S3_11111100 : JA Try.prog ops1 2 #[true, true, true, true, true, true, false, false] Γ ([(9, .p 4 1 0), (10, .p 5 1 0), (38, .a [.b sa, .n false .u64 a]), (39, .a [.b (decide ((sv sa a) < 0)), .n false .u64 (dg (sv sa a))]), (40, .a [.b sb, .n false .u64 b]), (41, .a [.b (decide ((sv sb b) < 0)), .n false .u64 (dg (sv sb b))])] ++ F0) [⟨27, 2, 0, true, [.b sa, .n false .u64 a]⟩, ⟨27, 2, 0, true, [.b sb, .n false .u64 b]⟩, ⟨30, 2, 0, true, [.b sa, .n true .u64 a]⟩, ⟨30, 2, 0, true, [.b sb, .n true .u64 b]⟩, ⟨35, 2, 1, true, [.b false, .c (.slice none 0 0)]⟩, ⟨35, 2, 1, true, [.b false, .c (.slice none 0 0)]⟩] Q1 := by
    subst ho; subst hF
    refine ja_1 6 ?_ rfl (by kernel_rfl)
    refine js_st (sy_store rfl rfl rfl siz35 rfl rfl (Nat.le_of_ble_eq_true rfl)) rfl ?_
    refine ja_to (m := [(9, .p 4 1 0), (10, .p 5 1 0), (38, .a [.b sa, .n false .u64 a]), (39, .a [.b (decide ((sv sa a) < 0)), .n false .u64 (dg (sv sa a))]), (40, .a [.b sb, .n false .u64 b]), (41, .a [.b (decide ((sv sb b) < 0)), .n false .u64 (dg (sv sb b))])]) (by decide) rfl (cov_n 6 rfl rfl (.cons rfl (.cons rfl (.cons rfl (.cons rfl (.cons rfl (.cons rfl .nil))))))) S3_11111110
  have S3_11111000 : JA Try.prog ops1 3 #[true, true, true, true, true, false, false, false] Γ ([(9, .p 4 1 0), (38, .a [.b sa, .n false .u64 a]), (39, .a [.b (decide ((sv sa a) < 0)), .n false .u64 (dg (sv sa a))]), (40, .a [.b sb, .n false .u64 b]), (41, .a [.b (decide ((sv sb b) < 0)), .n false .u64 (dg (sv sb b))])] ++ F0) [⟨27, 2, 0, true, [.b sa, .n false .u64 a]⟩, ⟨27, 2, 0, true, [.b sb, .n false .u64 b]⟩, ⟨30, 2, 0, true, [.b sa, .n true .u64 a]⟩, ⟨30, 2, 0, true, [.b sb, .n true .u64 b]⟩, ⟨35, 2, 1, true, [.b false, .c (.slice none 0 0)]⟩, ⟨0, 1, 0, true, []⟩] Q1 := by
    subst ho; subst hF
    refine ja_1 5 ?_ rfl (by kernel_rfl)
    refine js_h (hy_allocAt (id := 5) zero35 (by decide) rfl (by decide) rfl) (hd 10 rfl) ?_
    refine ja_to (m := [(9, .p 4 1 0), (10, .p 5 1 0), (38, .a [.b sa, .n false .u64 a]), (39, .a [.b (decide ((sv sa a) < 0)), .n false .u64 (dg (sv sa a))]), (40, .a [.b sb, .n false .u64 b]), (41, .a [.b (decide ((sv sb b) < 0)), .n false .u64 (dg (sv sb b))])]) (by decide) rfl (cov_n 6 rfl rfl (.cons rfl (.cons rfl (.cons rfl (.cons rfl (.cons rfl (.cons rfl .nil))))))) S3_11111100
  have S3_11110100 : JA Try.prog ops1 3 #[true, true, true, true, false, true, false, false] Γ ([(10, .p 5 1 0), (38, .a [.b sa, .n false .u64 a]), (39, .a [.b (decide ((sv sa a) < 0)), .n false .u64 (dg (sv sa a))]), (40, .a [.b sb, .n false .u64 b]), (41, .a [.b (decide ((sv sb b) < 0)), .n false .u64 (dg (sv sb b))])] ++ F0) [⟨27, 2, 0, true, [.b sa, .n false .u64 a]⟩, ⟨27, 2, 0, true, [.b sb, .n false .u64 b]⟩, ⟨30, 2, 0, true, [.b sa, .n true .u64 a]⟩, ⟨30, 2, 0, true, [.b sb, .n true .u64 b]⟩, ⟨0, 1, 0, true, []⟩, ⟨35, 2, 1, true, [.b false, .c (.slice none 0 0)]⟩] Q1 := by
    subst ho; subst hF
    refine ja_1 4 ?_ rfl (by kernel_rfl)
    refine js_h (hy_allocAt (id := 4) zero35 (by decide) rfl (by decide) rfl) (hd 9 rfl) ?_
    refine ja_to (m := [(9, .p 4 1 0), (10, .p 5 1 0), (38, .a [.b sa, .n false .u64 a]), (39, .a [.b (decide ((sv sa a) < 0)), .n false .u64 (dg (sv sa a))]), (40, .a [.b sb, .n false .u64 b]), (41, .a [.b (decide ((sv sb b) < 0)), .n false .u64 (dg (sv sb b))])]) (by decide) rfl (cov_n 6 rfl rfl (.cons rfl (.cons rfl (.cons rfl (.cons rfl (.cons rfl (.cons rfl .nil))))))) S3_11111100
  have S3_11110000 : JA Try.prog ops1 4 #[true, true, true, true, false, false, false, false] Γ ([(38, .a [.b sa, .n false .u64 a]), (39, .a [.b (decide ((sv sa a) < 0)), .n false .u64 (dg (sv sa a))]), (40, .a [.b sb, .n false .u64 b]), (41, .a [.b (decide ((sv sb b) < 0)), .n false .u64 (dg (sv sb b))])] ++ F0) [⟨27, 2, 0, true, [.b sa, .n false .u64 a]⟩, ⟨27, 2, 0, true, [.b sb, .n false .u64 b]⟩, ⟨30, 2, 0, true, [.b sa, .n true .u64 a]⟩, ⟨30, 2, 0, true, [.b sb, .n true .u64 b]⟩, ⟨0, 1, 0, true, []⟩, ⟨0, 1, 0, true, []⟩] Q1 := by
    subst ho; subst hF
    refine ja_2 4 5 ?_ ?_ rfl rfl (by kernel_rfl)
    · refine js_h (hy_allocAt (id := 4) zero35 (by decide) rfl (by decide) rfl) (hd 9 rfl) ?_
      refine ja_to (m := [(9, .p 4 1 0), (38, .a [.b sa, .n false .u64 a]), (39, .a [.b (decide ((sv sa a) < 0)), .n false .u64 (dg (sv sa a))]), (40, .a [.b sb, .n false .u64 b]), (41, .a [.b (decide ((sv sb b) < 0)), .n false .u64 (dg (sv sb b))])]) (by decide) rfl (cov_n 5 rfl rfl (.cons rfl (.cons rfl (.cons rfl (.cons rfl (.cons rfl .nil)))))) S3_11111000
    · refine js_h (hy_allocAt (id := 5) zero35 (by decide) rfl (by decide) rfl) (hd 10 rfl) ?_
      refine ja_to (m := [(10, .p 5 1 0), (38, .a [.b sa, .n false .u64 a]), (39, .a [.b (decide ((sv sa a) < 0)), .n false .u64 (dg (sv sa a))]), (40, .a [.b sb, .n false .u64 b]), (41, .a [.b (decide ((sv sb b) < 0)), .n false .u64 (dg (sv sb b))])]) (by decide) rfl (cov_n 5 rfl rfl (.cons rfl (.cons rfl (.cons rfl (.cons rfl (.cons rfl .nil)))))) S3_11110100
  have S3_11101100 : JA Try.prog ops1 3 #[true, true, true, false, true, true, false, false] Γ ([(9, .p 4 1 0), (10, .p 5 1 0), (38, .a [.b sa, .n false .u64 a]), (39, .a [.b (decide ((sv sa a) < 0)), .n false .u64 (dg (sv sa a))]), (40, .a [.b sb, .n false .u64 b])] ++ F0) [⟨27, 2, 0, true, [.b sa, .n false .u64 a]⟩, ⟨27, 2, 0, true, [.b sb, .n false .u64 b]⟩, ⟨30, 2, 0, true, [.b sa, .n true .u64 a]⟩, ⟨30, 2, 0, true, [.b sb, .n true .u64 b]⟩, ⟨35, 2, 1, true, [.b false, .c (.slice none 0 0)]⟩, ⟨35, 2, 1, true, [.b false, .c (.slice none 0 0)]⟩] Q1 := by
    subst ho; subst hF
    refine ja_1 3 ?_ rfl (by kernel_rfl)
    refine js_call Try.f12 (of_s sb b (by omega) ub) rfl Try.func12 rfl rfl (ovL_cons rfl ovL_nil) (.cons (.a1 .b (.a1 .n .a0)) .nil) (hd 41 rfl) ?_ (fun ch hp => by simp at hp)
    rintro y hy; injection hy with hy; subst hy
    refine ja_to (m := [(9, .p 4 1 0), (10, .p 5 1 0), (38, .a [.b sa, .n false .u64 a]), (39, .a [.b (decide ((sv sa a) < 0)), .n false .u64 (dg (sv sa a))]), (40, .a [.b sb, .n false .u64 b]), (41, .a [.b (decide ((sv sb b) < 0)), .n false .u64 (dg (sv sb b))])]) (by decide) rfl (cov_n 6 rfl rfl (.cons rfl (.cons rfl (.cons rfl (.cons rfl (.cons rfl (.cons rfl .nil))))))) S3_11111100
  have S3_11101000 : JA Try.prog ops1 4 #[true, true, true, false, true, false, false, false] Γ ([(9, .p 4 1 0), (38, .a [.b sa, .n false .u64 a]), (39, .a [.b (decide ((sv sa a) < 0)), .n false .u64 (dg (sv sa a))]), (40, .a [.b sb, .n false .u64 b])] ++ F0) [⟨27, 2, 0, true, [.b sa, .n false .u64 a]⟩, ⟨27, 2, 0, true, [.b sb, .n false .u64 b]⟩, ⟨30, 2, 0, true, [.b sa, .n true .u64 a]⟩, ⟨30, 2, 0, true, [.b sb, .n true .u64 b]⟩, ⟨35, 2, 1, true, [.b false, .c (.slice none 0 0)]⟩, ⟨0, 1, 0, true, []⟩] Q1 := by
    subst ho; subst hF
    refine ja_2 3 5 ?_ ?_ rfl rfl (by kernel_rfl)
    · refine js_call Try.f12 (of_s sb b (by omega) ub) rfl Try.func12 rfl rfl (ovL_cons rfl ovL_nil) (.cons (.a1 .b (.a1 .n .a0)) .nil) (hd 41 rfl) ?_ (fun ch hp => by simp at hp)
      rintro y hy; injection hy with hy; subst hy
      refine ja_to (m := [(9, .p 4 1 0), (38, .a [.b sa, .n false .u64 a]), (39, .a [.b (decide ((sv sa a) < 0)), .n false .u64 (dg (sv sa a))]), (40, .a [.b sb, .n false .u64 b]), (41, .a [.b (decide ((sv sb b) < 0)), .n false .u64 (dg (sv sb b))])]) (by decide) rfl (cov_n 5 rfl rfl (.cons rfl (.cons rfl (.cons rfl (.cons rfl (.cons rfl .nil)))))) S3_11111000
    · refine js_h (hy_allocAt (id := 5) zero35 (by decide) rfl (by decide) rfl) (hd 10 rfl) ?_
      refine ja_to (m := [(9, .p 4 1 0), (10, .p 5 1 0), (38, .a [.b sa, .n false .u64 a]), (39, .a [.b (decide ((sv sa a) < 0)), .n false .u64 (dg (sv sa a))]), (40, .a [.b sb, .n false .u64 b])]) (by decide) rfl (cov_n 5 rfl rfl (.cons rfl (.cons rfl (.cons rfl (.cons rfl (.cons rfl .nil)))))) S3_11101100
  have S3_11100100 : JA Try.prog ops1 4 #[true, true, true, false, false, true, false, false] Γ ([(10, .p 5 1 0), (38, .a [.b sa, .n false .u64 a]), (39, .a [.b (decide ((sv sa a) < 0)), .n false .u64 (dg (sv sa a))]), (40, .a [.b sb, .n false .u64 b])] ++ F0) [⟨27, 2, 0, true, [.b sa, .n false .u64 a]⟩, ⟨27, 2, 0, true, [.b sb, .n false .u64 b]⟩, ⟨30, 2, 0, true, [.b sa, .n true .u64 a]⟩, ⟨30, 2, 0, true, [.b sb, .n true .u64 b]⟩, ⟨0, 1, 0, true, []⟩, ⟨35, 2, 1, true, [.b false, .c (.slice none 0 0)]⟩] Q1 := by
    subst ho; subst hF
    refine ja_2 3 4 ?_ ?_ rfl rfl (by kernel_rfl)
    · refine js_call Try.f12 (of_s sb b (by omega) ub) rfl Try.func12 rfl rfl (ovL_cons rfl ovL_nil) (.cons (.a1 .b (.a1 .n .a0)) .nil) (hd 41 rfl) ?_ (fun ch hp => by simp at hp)
      rintro y hy; injection hy with hy; subst hy
      refine ja_to (m := [(10, .p 5 1 0), (38, .a [.b sa, .n false .u64 a]), (39, .a [.b (decide ((sv sa a) < 0)), .n false .u64 (dg (sv sa a))]), (40, .a [.b sb, .n false .u64 b]), (41, .a [.b (decide ((sv sb b) < 0)), .n false .u64 (dg (sv sb b))])]) (by decide) rfl (cov_n 5 rfl rfl (.cons rfl (.cons rfl (.cons rfl (.cons rfl (.cons rfl .nil)))))) S3_11110100
    · refine js_h (hy_allocAt (id := 4) zero35 (by decide) rfl (by decide) rfl) (hd 9 rfl) ?_
      refine ja_to (m := [(9, .p 4 1 0), (10, .p 5 1 0), (38, .a [.b sa, .n false .u64 a]), (39, .a [.b (decide ((sv sa a) < 0)), .n false .u64 (dg (sv sa a))]), (40, .a [.b sb, .n false .u64 b])]) (by decide) rfl (cov_n 5 rfl rfl (.cons rfl (.cons rfl (.cons rfl (.cons rfl (.cons rfl .nil)))))) S3_11101100
  have S3_11100000 : JA Try.prog ops1 5 #[true, true, true, false, false, false, false, false] Γ ([(38, .a [.b sa, .n false .u64 a]), (39, .a [.b (decide ((sv sa a) < 0)), .n false .u64 (dg (sv sa a))]), (40, .a [.b sb, .n false .u64 b])] ++ F0) [⟨27, 2, 0, true, [.b sa, .n false .u64 a]⟩, ⟨27, 2, 0, true, [.b sb, .n false .u64 b]⟩, ⟨30, 2, 0, true, [.b sa, .n true .u64 a]⟩, ⟨30, 2, 0, true, [.b sb, .n true .u64 b]⟩, ⟨0, 1, 0, true, []⟩, ⟨0, 1, 0, true, []⟩] Q1 := by
    subst ho; subst hF
    refine ja_3 3 4 5 ?_ ?_ ?_ rfl rfl rfl (by kernel_rfl)
    · refine js_call Try.f12 (of_s sb b (by omega) ub) rfl Try.func12 rfl rfl (ovL_cons rfl ovL_nil) (.cons (.a1 .b (.a1 .n .a0)) .nil) (hd 41 rfl) ?_ (fun ch hp => by simp at hp)
      rintro y hy; injection hy with hy; subst hy
      refine ja_to (m := [(38, .a [.b sa, .n false .u64 a]), (39, .a [.b (decide ((sv sa a) < 0)), .n false .u64 (dg (sv sa a))]), (40, .a [.b sb, .n false .u64 b]), (41, .a [.b (decide ((sv sb b) < 0)), .n false .u64 (dg (sv sb b))])]) (by decide) rfl (cov_n 4 rfl rfl (.cons rfl (.cons rfl (.cons rfl (.cons rfl .nil))))) S3_11110000
    · refine js_h (hy_allocAt (id := 4) zero35 (by decide) rfl (by decide) rfl) (hd 9 rfl) ?_
      refine ja_to (m := [(9, .p 4 1 0), (38, .a [.b sa, .n false .u64 a]), (39, .a [.b (decide ((sv sa a) < 0)), .n false .u64 (dg (sv sa a))]), (40, .a [.b sb, .n false .u64 b])]) (by decide) rfl (cov_n 4 rfl rfl (.cons rfl (.cons rfl (.cons rfl (.cons rfl .nil))))) S3_11101000
    · refine js_h (hy_allocAt (id := 5) zero35 (by decide) rfl (by decide) rfl) (hd 10 rfl) ?_
      refine ja_to (m := [(10, .p 5 1 0), (38, .a [.b sa, .n false .u64 a]), (39, .a [.b (decide ((sv sa a) < 0)), .n false .u64 (dg (sv sa a))]), (40, .a [.b sb, .n false .u64 b])]) (by decide) rfl (cov_n 4 rfl rfl (.cons rfl (.cons rfl (.cons rfl (.cons rfl .nil))))) S3_11100100
  have S3_10101100 : JA Try.prog ops1 4 #[true, false, true, false, true, true, false, false] Γ ([(9, .p 4 1 0), (10, .p 5 1 0), (38, .a [.b sa, .n false .u64 a]), (40, .a [.b sb, .n false .u64 b])] ++ F0) [⟨27, 2, 0, true, [.b sa, .n false .u64 a]⟩, ⟨27, 2, 0, true, [.b sb, .n false .u64 b]⟩, ⟨30, 2, 0, true, [.b sa, .n true .u64 a]⟩, ⟨30, 2, 0, true, [.b sb, .n true .u64 b]⟩, ⟨35, 2, 1, true, [.b false, .c (.slice none 0 0)]⟩, ⟨35, 2, 1, true, [.b false, .c (.slice none 0 0)]⟩] Q1 := by
    subst ho; subst hF
    refine ja_1 1 ?_ rfl (by kernel_rfl)
    refine js_call Try.f12 (of_s sa a (by omega) ua) rfl Try.func12 rfl rfl (ovL_cons rfl ovL_nil) (.cons (.a1 .b (.a1 .n .a0)) .nil) (hd 39 rfl) ?_ (fun ch hp => by simp at hp)
    rintro y hy; injection hy with hy; subst hy
    refine ja_to (m := [(9, .p 4 1 0), (10, .p 5 1 0), (38, .a [.b sa, .n false .u64 a]), (39, .a [.b (decide ((sv sa a) < 0)), .n false .u64 (dg (sv sa a))]), (40, .a [.b sb, .n false .u64 b])]) (by decide) rfl (cov_n 5 rfl rfl (.cons rfl (.cons rfl (.cons rfl (.cons rfl (.cons rfl .nil)))))) S3_11101100
  have S3_10101000 : JA Try.prog ops1 5 #[true, false, true, false, true, false, false, false] Γ ([(9, .p 4 1 0), (38, .a [.b sa, .n false .u64 a]), (40, .a [.b sb, .n false .u64 b])] ++ F0) [⟨27, 2, 0, true, [.b sa, .n false .u64 a]⟩, ⟨27, 2, 0, true, [.b sb, .n false .u64 b]⟩, ⟨30, 2, 0, true, [.b sa, .n true .u64 a]⟩, ⟨30, 2, 0, true, [.b sb, .n true .u64 b]⟩, ⟨35, 2, 1, true, [.b false, .c (.slice none 0 0)]⟩, ⟨0, 1, 0, true, []⟩] Q1 := by
    subst ho; subst hF
    refine ja_2 1 5 ?_ ?_ rfl rfl (by kernel_rfl)
    · refine js_call Try.f12 (of_s sa a (by omega) ua) rfl Try.func12 rfl rfl (ovL_cons rfl ovL_nil) (.cons (.a1 .b (.a1 .n .a0)) .nil) (hd 39 rfl) ?_ (fun ch hp => by simp at hp)
      rintro y hy; injection hy with hy; subst hy
      refine ja_to (m := [(9, .p 4 1 0), (38, .a [.b sa, .n false .u64 a]), (39, .a [.b (decide ((sv sa a) < 0)), .n false .u64 (dg (sv sa a))]), (40, .a [.b sb, .n false .u64 b])]) (by decide) rfl (cov_n 4 rfl rfl (.cons rfl (.cons rfl (.cons rfl (.cons rfl .nil))))) S3_11101000
    · refine js_h (hy_allocAt (id := 5) zero35 (by decide) rfl (by decide) rfl) (hd 10 rfl) ?_
      refine ja_to (m := [(9, .p 4 1 0), (10, .p 5 1 0), (38, .a [.b sa, .n false .u64 a]), (40, .a [.b sb, .n false .u64 b])]) (by decide) rfl (cov_n 4 rfl rfl (.cons rfl (.cons rfl (.cons rfl (.cons rfl .nil))))) S3_10101100
  have S3_10100100 : JA Try.prog ops1 5 #[true, false, true, false, false, true, false, false] Γ ([(10, .p 5 1 0), (38, .a [.b sa, .n false .u64 a]), (40, .a [.b sb, .n false .u64 b])] ++ F0) [⟨27, 2, 0, true, [.b sa, .n false .u64 a]⟩, ⟨27, 2, 0, true, [.b sb, .n false .u64 b]⟩, ⟨30, 2, 0, true, [.b sa, .n true .u64 a]⟩, ⟨30, 2, 0, true, [.b sb, .n true .u64 b]⟩, ⟨0, 1, 0, true, []⟩, ⟨35, 2, 1, true, [.b false, .c (.slice none 0 0)]⟩] Q1 := by
    subst ho; subst hF
    refine ja_2 1 4 ?_ ?_ rfl rfl (by kernel_rfl)
    · refine js_call Try.f12 (of_s sa a (by omega) ua) rfl Try.func12 rfl rfl (ovL_cons rfl ovL_nil) (.cons (.a1 .b (.a1 .n .a0)) .nil) (hd 39 rfl) ?_ (fun ch hp => by simp at hp)
      rintro y hy; injection hy with hy; subst hy
      refine ja_to (m := [(10, .p 5 1 0), (38, .a [.b sa, .n false .u64 a]), (39, .a [.b (decide ((sv sa a) < 0)), .n false .u64 (dg (sv sa a))]), (40, .a [.b sb, .n false .u64 b])]) (by decide) rfl (cov_n 4 rfl rfl (.cons rfl (.cons rfl (.cons rfl (.cons rfl .nil))))) S3_11100100
    · refine js_h (hy_allocAt (id := 4) zero35 (by decide) rfl (by decide) rfl) (hd 9 rfl) ?_
      refine ja_to (m := [(9, .p 4 1 0), (10, .p 5 1 0), (38, .a [.b sa, .n false .u64 a]), (40, .a [.b sb, .n false .u64 b])]) (by decide) rfl (cov_n 4 rfl rfl (.cons rfl (.cons rfl (.cons rfl (.cons rfl .nil))))) S3_10101100
  have S3_10100000 : JA Try.prog ops1 6 #[true, false, true, false, false, false, false, false] Γ ([(38, .a [.b sa, .n false .u64 a]), (40, .a [.b sb, .n false .u64 b])] ++ F0) [⟨27, 2, 0, true, [.b sa, .n false .u64 a]⟩, ⟨27, 2, 0, true, [.b sb, .n false .u64 b]⟩, ⟨30, 2, 0, true, [.b sa, .n true .u64 a]⟩, ⟨30, 2, 0, true, [.b sb, .n true .u64 b]⟩, ⟨0, 1, 0, true, []⟩, ⟨0, 1, 0, true, []⟩] Q1 := by
    subst ho; subst hF
    refine ja_3 1 4 5 ?_ ?_ ?_ rfl rfl rfl (by kernel_rfl)
    · refine js_call Try.f12 (of_s sa a (by omega) ua) rfl Try.func12 rfl rfl (ovL_cons rfl ovL_nil) (.cons (.a1 .b (.a1 .n .a0)) .nil) (hd 39 rfl) ?_ (fun ch hp => by simp at hp)
      rintro y hy; injection hy with hy; subst hy
      refine ja_to (m := [(38, .a [.b sa, .n false .u64 a]), (39, .a [.b (decide ((sv sa a) < 0)), .n false .u64 (dg (sv sa a))]), (40, .a [.b sb, .n false .u64 b])]) (by decide) rfl (cov_n 3 rfl rfl (.cons rfl (.cons rfl (.cons rfl .nil)))) S3_11100000
    · refine js_h (hy_allocAt (id := 4) zero35 (by decide) rfl (by decide) rfl) (hd 9 rfl) ?_
      refine ja_to (m := [(9, .p 4 1 0), (38, .a [.b sa, .n false .u64 a]), (40, .a [.b sb, .n false .u64 b])]) (by decide) rfl (cov_n 3 rfl rfl (.cons rfl (.cons rfl (.cons rfl .nil)))) S3_10101000
    · refine js_h (hy_allocAt (id := 5) zero35 (by decide) rfl (by decide) rfl) (hd 10 rfl) ?_
      refine ja_to (m := [(10, .p 5 1 0), (38, .a [.b sa, .n false .u64 a]), (40, .a [.b sb, .n false .u64 b])]) (by decide) rfl (cov_n 3 rfl rfl (.cons rfl (.cons rfl (.cons rfl .nil)))) S3_10100100
  have S3_10000000 : JA Try.prog ops1 7 #[true, false, false, false, false, false, false, false] Γ ([(38, .a [.b sa, .n false .u64 a])] ++ F0) [⟨27, 2, 0, true, [.b sa, .n false .u64 a]⟩, ⟨27, 2, 0, true, [.b sb, .n false .u64 b]⟩, ⟨30, 2, 0, true, [.b sa, .n true .u64 a]⟩, ⟨30, 2, 0, true, [.b sb, .n true .u64 b]⟩, ⟨0, 1, 0, true, []⟩, ⟨0, 1, 0, true, []⟩] Q1 := by
    subst ho; subst hF
    refine ja_l2 2 [3, 6, 7] (lo_l (ly_lda agg27 rfl rfl rfl rfl) (hd 40 rfl)) rfl (by kernel_rfl) (by kernel_rfl) (by kernel_rfl) (by kernel_rfl) hpan ?_
    refine ja_to (m := [(38, .a [.b sa, .n false .u64 a]), (40, .a [.b sb, .n false .u64 b])]) (by decide) rfl (cov_n 2 rfl rfl (.cons rfl (.cons rfl .nil))) S3_10100000
  have S3_00000000 : JA Try.prog ops1 8 #[false, false, false, false, false, false, false, false] Γ ([] ++ F0) [⟨27, 2, 0, true, [.b sa, .n false .u64 a]⟩, ⟨27, 2, 0, true, [.b sb, .n false .u64 b]⟩, ⟨30, 2, 0, true, [.b sa, .n true .u64 a]⟩, ⟨30, 2, 0, true, [.b sb, .n true .u64 b]⟩, ⟨0, 1, 0, true, []⟩, ⟨0, 1, 0, true, []⟩] Q1 := by
    subst ho; subst hF
    refine ja_l2 0 [1, 3, 6, 7] (lo_l (ly_lda agg27 rfl rfl rfl rfl) (hd 38 rfl)) rfl (by kernel_rfl) (by kernel_rfl) (by kernel_rfl) (by kernel_rfl) hpan ?_
    refine ja_to (m := [(38, .a [.b sa, .n false .u64 a])]) (by decide) rfl (cov_n 1 rfl rfl (.cons rfl .nil)) S3_10000000
  subst ho; subst hF
  exact ja_to (m := []) (by decide) rfl (cov_n 0 rfl rfl .nil) S3_00000000
end Go.Proofs.Ytcdipmjgpimmdaa.Vc

/- The contract of surdlaw06.WholeQuos. -/
set_option linter.unusedVariables false
set_option linter.unusedSimpArgs false
namespace Go.Proofs.Ytcdipmjgpimmdaa.Vc
open Go Go.RowKit
theorem WholeQuos_s (sa sb : Bool) (a b : List Int) (ha : a.length ≤ 1048576) (hb : b.length ≤ 1048576) (ua : u64s a) (ub : u64s b) : Spec Try.prog 4 [.a [.b sa, .n false .u64 a], .a [.b sb, .n false .u64 b]] (fun o => o = .ret (.b true)) := by
  by_cases h0 : (sv sb b) = 0
  · exact WholeQuos_z sa sb a b ha hb ua ub h0
  · exact WholeQuos_n sa sb a b ha hb ua ub h0
end Go.Proofs.Ytcdipmjgpimmdaa.Vc

/- Two numbers with a sign, and more, that are handed in. -/
set_option linter.unusedVariables false
set_option linter.unusedSimpArgs false
namespace Go.Proofs.Ytcdipmjgpimmdaa.Vc
open Go Go.RowKit
theorem short2b {H : Type} {d0 d1 : DataW H} {r : List (DataW H)} {l0 l1 : List Int} (hk : Rows.uptoSmall H (d0 :: d1 :: r) = true) (h0 : l0.length + 2 ≤ Rows.uptoBulk d0) (h1 : l1.length + 2 ≤ Rows.uptoBulk d1) : l0.length + l1.length ≤ 1048572 := by
  have h : Rows.uptoBulkAll (d0 :: d1 :: r) ≤ 1048576 := of_decide_eq_true hk
  simp only [Rows.uptoBulkAll] at h
  omega
end Go.Proofs.Ytcdipmjgpimmdaa.Vc

/- The law WholeQuos of every input of bulk at most 1048576: it returns true, and the input reads as it did. -/
namespace Go.Proofs.Ytcdipmjgpimmdaa.wholeQuos
open Go Go.ChangeShapes Go.WideShapes Go.ChangeAt Go.RowKit
open Go.ChangeMaps (open_string shut_string)
set_option linter.unusedVariables false

theorem own : ownKnob Try.prog.godebug = none := by kernel_rfl
theorem laidOut : laidOutB Try.prog = true := by kernel_rfl
set_option maxRecDepth 100000 in
theorem lifted (os : Os) (started : os.Started) (H : Type) (enc : TypeId × Value → H) (F : Stop.Interp) :
    ReturnsInHanded {} Try.checked os 4 .any ((Rows.OpenSpec.upto Rows.wholeQuosSpec).pre6 enc Try.prog Try.f4 Rows.wholeQuosUptoRow.domain false) (((Rows.OpenSpec.upto Rows.wholeQuosSpec).at F).post enc Try.prog Try.f4 false true false false) := by
  refine returnsInHanded_of_cond (C := Try.checked) (s := Rows.OpenSpec.upto Rows.wholeQuosSpec) (k := Rows.uptoSmall) rfl own started (by kernel_rfl) Try.func4
    (OpenSpec.witness (enc := enc) (C := Try.checked) (s := Rows.OpenSpec.upto Rows.wholeQuosSpec) (k := Rows.uptoSmall) rfl false ⟨#[], #[.agg #[.bool false, .slice none 0 0], .agg #[.bool false, .slice none 0 0]], []⟩ 8 (by kernel_rfl) (by kernel_rfl) (by kernel_rfl)
      (x := ([.agg [.lit (.bool false), .nil], .agg [.lit (.bool false), .nil]], [], [])) (by kernel_rfl) rfl (by kernel_rfl)) ?_
  intro W base args ds gs before hval0 hW _ hk _
  have hval : ∀ (j : Nat) t v, Try.f4.params[j]? = some t → args[j]? = some v → Value.okWide Try.prog W .any base t v := hval0
  have hW' := hW
  obtain ⟨p, q, hA0, hV, rfl, hfz, hnd⟩ := hW
  have hA : DataW.TrodAll enc Try.prog W 0 (fun _ => true) true Try.f4.params.toList args.toList ds p := hA0
  rw [Try.params4] at hA hval
  obtain ⟨v0, vs0, d0, ds0, p0, q0, hargs, rfl, rfl, h0, r0⟩ := trodAll_cons hA
  obtain ⟨v1, vs1, d1, ds1, p1, q1, rfl, rfl, rfl, h1, r1⟩ := trodAll_cons r0
  obtain ⟨rfl, rfl, rfl⟩ := trodAll_nil r1
  obtain rfl : args = #[v0, v1] := by cases args; simp_all
  obtain ⟨rfl, rfl⟩ := trodVars_none hV
  have hk0 := h0
  obtain ⟨s0, l0, rel0, hb0, ul0⟩ := Vc.openW (hval 0 27 v0 rfl rfl) h0
  have hk1 := h1
  obtain ⟨s1, l1, rel1, hb1, ul1⟩ := Vc.openW (hval 1 27 v1 rfl rfl) h1
  clear hA0 hval0
  simp only [List.append_nil] at hW' hk
  refine (Vc.spec_calls (vals := [v0, v1]) (Vc.WholeQuos_s s0 s1 l0 l1 (by have := Vc.short2b hk hb0 hb1; omega) (by have := Vc.short2b hk hb0 hb1; omega) ul0 ul1) W (⟨_, _, rfl, rel0, ⟨_, _, rfl, rel1, rfl⟩⟩)).mono fun e W' ⟨he, hb⟩ => ?_
  subst he
  have hlt : ∀ x ∈ p0 ++ p1, x.block < W.heap.size := fun x hx => by simpa using hW'.lt x (by simpa using hx)
  exact ⟨_, rfl, Vc.post_of_below (pa := (p0 ++ (p1 ++ []))) (pv := []) hW' (fun _ _ _ => (trodAll_cons_mk (shut_bool Try.underlying4 _) trodAll_mk0)) (fun sp hsp => (trodAll_cons_mk (Go.WideElems.Trod_stays laidOut (by kernel_rfl) (of_decide_eq_true (by kernel_rfl)) hk0 (fun x hx => hb.same (hlt x (by simp [hx]))) (fun x hx => hsp x (by simp [hx]))) (trodAll_cons_mk (Go.WideElems.Trod_stays laidOut (by kernel_rfl) (of_decide_eq_true (by kernel_rfl)) hk1 (fun x hx => hb.same (hlt x (by simp [hx]))) (fun x hx => hsp x (by simp [hx]))) trodAll_mk0))) (fun _ _ => rfl) (by simp) hb⟩

theorem proved : Rows.WholeQuosUptoSaid :=
  OpenClaim.holds_of_cond 4 Try.f4 rfl rfl rfl rfl rfl rfl rfl ⟨rfl, rfl, rfl, rfl, rfl⟩ rfl rfl rfl rfl rfl (by kernel_rfl) Try.func4 (by kernel_rfl)
    (of_decide_eq_true (by kernel_rfl)) (by unfold Func.isWrapper; first | (rw [if_pos (by decide +kernel)]; kernel_rfl) | (rw [if_neg (by decide +kernel)]; exact ⟨rfl, rfl⟩))
    (fun os started H enc _ F => lifted os started H enc F)
end Go.Proofs.Ytcdipmjgpimmdaa.wholeQuos
