/- lex.Value says what every number says, and nothing else is one Texts joined: Xn, Xo, Rb, Rc, Xv, Xw, Xx, Rd, Jh, Ji, Jj, RLexValues. -/
import Derived.Test.YtpldmajdiljoaaaK7
import Derived.Test.YtpldmajdiljoaaaRows
import Derived.WalkKit
import Derived.ProofKit
import Derived.OpenShut
import Derived.JoinedCond
set_option linter.unusedVariables false
set_option linter.unusedSimpArgs false
set_option maxHeartbeats 4000000
namespace Go.Proofs.Ytpldmajdiljoaaa.Vc
open Go Go.RowKit
theorem mustU (u : Value) : Spec Try.prog 61 [.c u, .i .i64 0] (fun o => o = .ret (.c u)) := by
  refine spec_of' [(0, .c u), (1, .i .i64 0)] rfl Try.func61 rfl (zlb rfl) fun Γ hN hds hL hR => ?_
  have hd := hdOf 11 hN
  refine zsr <| zas rfl (hd 4 rfl) <| jo_nil <| jc_seq <| zsr <| zmv rfl (hd 5 rfl) <| jo_l (ly_ff (ly_ne rfl rfl) (by decide)) (hd 6 rfl) <| jo_nil <| jc_litf rfl <| jc_skip <| jc_seq ?_; refine jc_region <| zmv rfl (hd 10 rfl) <| zas rfl (hd 4 rfl) <| jo_nil <| jc_ret ?_
  refine ⟨_, _, (.cons rfl .nil), .c, ?_⟩
  exact rfl

theorem divide_q (a b : List Int) (la : a.length < 4294967296) (lb : b.length < 4294967296) (ua : u64s a) (ub : u64s b) (ta : tpd a) (tb : tpd b) (hb : b ≠ []) : SpecM Try.prog 100 [.n false .u64 a, .n false .u64 b] [] (fun o G => o = .ret (.t [.o 0 0 0 (lm (vl a / vl b)).length, .n false .u64 (lm (vl a % vl b))]) ∧ G = [⟨67, 1, 0, true, ints .u64 (lm (vl a / vl b))⟩]) := by
  refine specS_of [(0, .n false .u64 a), (1, .n false .u64 b)] rfl Try.func100 rfl (zlb rfl) fun Γ hN hds hL hR => ?_
  have hd := hdOf 104 hN
  have hcv := cmpL_val ua ub
  have hb0 := vl_pos ub tb hb
  have hva := vl_nonneg ua
  refine zsr <| zas rfl (hd 4 rfl) <| zas rfl (hd 5 rfl) <| jo_nil <| jc_seq <| zsr <| zmv rfl (hd 15 rfl) <| zmv rfl (hd 16 rfl) ?_
  refine jo_call Try.f86 (Compare_s a b la lb) rfl Try.func86 rfl rfl (ovL_cons rfl (ovL_cons rfl ovL_nil)) (.cons .n (.cons .n .nil)) (hd 17 rfl) ?_ (fun ch hp => by simp at hp)
  rintro _ ⟨⟩; refine jo_l (ly_lt rfl rfl) (hd 18 rfl) <| jo_nil ?_
  refine jc_if rfl (fun h1 => ?_) (fun h1 => ?_)
  · have hlt : vl a < vl b := by rcases hcv with ⟨c, v⟩ | ⟨c, v⟩ | ⟨c, v⟩ <;> omega
    refine zsr <| zmv rfl (hd 19 rfl) <| zas rfl (hd 4 rfl) <| zas rfl (hd 5 rfl) <| jo_nil <| jc_own0 4 67 1 rfl rfl <| jc_ret ?_
    refine ⟨[0], _, (.t [.o 0 0 0 0, .n false .u64 a]), (.cons rfl (.cons rfl .nil)), rfl, rfl, (by decide), (by first | exact idless_cons ints_id idless_nil | exact idless_cons rfl idless_nil), ?_⟩
    rw [Int.ediv_eq_zero_of_lt hva hlt, Int.emod_eq_of_lt hva hlt, lm_0, lm_id ua ta]
    exact ⟨rfl, rfl⟩
  · have hge : vl b ≤ vl a := by rcases hcv with ⟨c, v⟩ | ⟨c, v⟩ | ⟨c, v⟩ <;> omega
    have hlen := kn_len ua ub tb hb hge
    refine jc_skip <| jc_seq <| zsr <| zmv rfl (hd 20 rfl) <| jo_l (ly_lenn sl28 rfl) (hd 21 rfl) <| jo_l (ly_eq rfl rfl) (hd 22 rfl) <| jo_nil ?_
    refine jc_if rfl (fun h2 => ?_) (fun h2 => ?_)
    · obtain ⟨d, rfl⟩ : ∃ d, b = [d] := List.length_eq_one_iff.1 (by omega)
      have hdb := ub d (List.mem_singleton.2 rfl)
      have hd0 := tpd_one tb
      have hdp : 0 < d := by omega
      have hvd : vl [d] = d := by simp [vl]
      refine zsr <| zmv rfl (hd 23 rfl) <| jo_l (ly_lenn sl28 rfl) (hd 24 rfl) <| jo_h (hy_mk (m := a.length) el28 rfl rfl rfl (by show 8 * a.length ≤ _; omega) (by unfold maxLen; omega) rfl) (hd 25 rfl) <| zas rfl (hd 6 rfl) <| zas rfl (hd 7 rfl) <| jo_nil <| jc_seq <| zsr <| zmv rfl (hd 26 rfl) <| jo_l (ly_lenn sl28 rfl) (hd 27 rfl) ?_; refine jo_l (ly_sub rfl rfl (wrap_i64 (by omega) (by omega))) (hd 28 rfl) <| zas rfl (hd 8 rfl) <| jo_nil <| jc_block <| jc_H (H' := [⟨67, 1, 0, true, ints .u64 (List.replicate a.length 0 ++ (dvN a d (a.length - a.length)).1)⟩]) (by rw [Nat.sub_self]; show _ = [(⟨67, 1, 0, true, ints .u64 (List.replicate a.length 0 ++ [])⟩ : Ob)]; rw [List.append_nil]; rfl) ?_
      refine jc_loopF (G := Nat) (fun k => k ≤ a.length) (fun k => [(7, .i .u64 (dvN a d (a.length - k)).2), (8, .i .i64 ((k : Int) - 1)), (29, .u), (30, .u), (31, .u), (32, .u), (33, .u), (34, .u), (35, .u), (36, .u), (37, .u), (38, .u), (39, .u), (40, .u), (41, .u), (42, .u), (43, .u), (44, .u), (45, .u), (46, .u), (47, .u)]) (fun k => [⟨67, 1, 0, true, ints .u64 (List.replicate k 0 ++ (dvN a d (a.length - k)).1)⟩]) (fun k => k) a.length ?_ ?_ rfl ?_
      · exact Nat.le_refl _
      · exact (.cons (by show some (V.i .u64 0) = some (V.i .u64 (dvN a d (a.length - a.length)).2); rw [Nat.sub_self]; rfl) (.cons rfl (.u (.u (.u (.u (.u (.u (.u (.u (.u (.u (.u (.u (.u (.u (.u (.u (.u (.u (.u .nil)))))))))))))))))))))
      · rintro k hc1
        have hr := dvN_r (a := a) hdp (a.length - k)
        have hx := u64s_getD ua (k - 1)
        refine jc_seq <| zsr <| zmv rfl (hd 29 rfl) <| jo_l (ly_ge rfl rfl) (hd 30 rfl) <| jo_nil ?_
        refine jc_if rfl (fun h3 => ?_) (fun h3 => ?_)
        · refine jc_skip <| jc_seq <| jc_block <| jc_draw (n := 17) _ rfl mixed <| zal 0 (lo_l (ly_mv rfl) (hd 34 rfl)) rfl <| zal 1 (lo_l (ly_mv rfl) (hd 35 rfl)) rfl <| zal2 2 [10, 11, 12, 13, 14, 15, 16] (lo_l (ly_mv rfl) (hd 36 rfl)) rfl <| zal2 3 [5, 6, 10, 11, 12, 13, 14, 15, 16] (lo_l (ly_mv rfl) (hd 37 rfl)) rfl <| zal2 4 [5, 6, 10, 11, 12, 13, 14, 15, 16] (lo_l (ly_mv rfl) (hd 38 rfl)) rfl <| zal2 5 [6, 10, 11, 12, 13, 14, 15, 16] (lo_l (ly_ian (i := k - 1) sl28 rfl rfl (by omega) (by omega)) (hd 39 rfl)) rfl <| zal2 6 [10, 11, 12, 13, 14, 15, 16] (lo_l (ly_ldq one82 rfl rfl) (hd 40 rfl)) rfl <| zal2 7 [8, 9, 10, 11, 12, 13, 14, 15, 16] (lo_l (ly_mv rfl) (hd 41 rfl)) rfl <| zal2 8 [9, 10, 11, 12, 13, 14, 15, 16] (lo_l (ly_ian (i := 0) sl28 rfl rfl rfl (by simp)) (hd 42 rfl)) rfl ?_; refine zal2 9 [10, 11, 12, 13, 14, 15, 16] (lo_l (ly_ldq one82 rfl rfl) (hd 43 rfl)) rfl ?_
          refine ja_1 10 ?_ rfl (by kernel_rfl)
          refine js_call Try.f122 (Div64_s (dvN a d (a.length - k)).2 (a.getD (k - 1) 0) d hr.1 hr.2 hx.1 hx.2 hdb.2) rfl Try.func122 rfl rfl (ovL_cons rfl (ovL_cons rfl (ovL_cons rfl ovL_nil))) (.cons .i (.cons .i (.cons .i .nil))) (hd 44 rfl) ?_ (fun ch hp => by simp at hp)
          rintro _ ⟨⟩; refine zal 11 (lo_l (ly_mv rfl) (hd 33 rfl)) rfl <| zal 12 (lo_l (ly_ext rfl rfl) (hd 45 rfl)) rfl <| zal 13 (lo_ext rfl rfl (hd 46 rfl)) rfl <| zal 14 (lo_l (ly_ia (i := k - 1) sl28 rfl rfl rfl (by omega) (by omega) rfl) (hd 47 rfl)) rfl ?_
          refine ja_1 15 ?_ rfl (by kernel_rfl)
          refine js_st (sy_storei rfl rfl rfl one82 (by simp only [List.length_append, List.length_replicate, dvN_len]; omega)) rfl <| zal 16 (lo_l (ly_as rfl) (hd 7 rfl)) rfl <| ja_nil (by kernel_rfl) <| jc_region <| zmv rfl (hd 31 rfl) <| jo_l (ly_sub rfl rfl (wrap_i64 (by omega) (by omega))) (hd 32 rfl) <| zas rfl (hd 8 rfl) <| jo_nil ?_
          refine ⟨k - 1, ?_, ?_, (by show [(⟨67, 1, 0, true, ints .u64 _⟩ : Ob)] = [⟨67, 1, 0, true, ints .u64 _⟩]; rw [dv_row (by omega), dv_step (by omega) hc1]), cov_n 42 rfl rfl ?_⟩
          · omega
          · omega
          · exact (.cons (by show some (V.i .u64 _) = some (V.i .u64 _); rw [dv_step (by omega) hc1]) (.cons (by show some (V.i .i64 _) = some (V.i .i64 _); congr 2; omega) (.u (.u (.u (.u (.u (.u (.u (.u (.u (.u (.u (.u (.u (.u (.u (.u (.u (.u (.u .nil)))))))))))))))))))))
        · obtain rfl : k = 0 := by omega
          refine jc_exit <| zsr <| jo_frz (k := .u64) (l := List.replicate 0 0 ++ (dvN a d (a.length - 0)).1) (l' := (dvN a d a.length).1) 6 rfl rfl (by simp [dvN_len]) (by rw [Nat.sub_zero, List.drop_zero]; show List.take _ (dvN a d a.length).1 = _; rw [List.take_of_length_le (by rw [dvN_len]; exact Nat.le_refl _)]) hL <| zmv rfl (hd 48 rfl) ?_
          refine jo_callN Try.f71 (Norm_n (dvN a d a.length).1 (by rw [dvN_len]; omega)) (fun o G ⟨_, h⟩ => h ▸ idless_cons ints_id idless_nil) rfl Try.func71 rfl rfl (ovL_cons rfl ovL_nil) (.cons .n .nil) (hd 49 rfl) ?_ (fun ch G hp => by simp at hp)
          rintro y G ⟨hy, rfl⟩; injection hy with hy; subst hy
          show JO _ _ _ _ ((49, .o 1 0 0 (trm (dvN a d a.length).1).length) :: _) _ _
          refine zmv rfl (hd 50 rfl) ?_
          refine jo_call Try.f58 (From_s (dvN a d (a.length - 0)).2) rfl Try.func58 rfl rfl (ovL_cons rfl ovL_nil) (.cons .i .nil) (hd 51 rfl) ?_ (fun ch hp => by simp at hp)
          rintro _ ⟨⟩; refine zas rfl (hd 4 rfl) <| zas rfl (hd 5 rfl) <| jo_nil <| jc_weakn 5 rfl <| jc_ret ?_
          refine ⟨[1], _, (.t [.o 0 0 0 (trm (dvN a d a.length).1).length, .n false .u64 (if (dvN a d (a.length - 0)).2 = 0 then [] else [(dvN a d (a.length - 0)).2])]), (.cons rfl (.cons rfl .nil)), rfl, rfl, (by decide), (by first | exact idless_cons ints_id idless_nil | exact idless_cons rfl idless_nil), ?_⟩
          have hde := dv_end ua hdp
          rw [Nat.sub_zero, hde.2, fl_lm (Int.emod_nonneg _ (by omega)) (by have := Int.emod_lt_of_pos (vl a) hdp; omega), hde.1, hvd]
          exact ⟨rfl, rfl⟩
    · have hbl : 0 < b.length := List.length_pos_iff.2 hb
      obtain ⟨n, hn⟩ : ∃ n, b.length = n + 2 := ⟨b.length - 2, by omega⟩
      have htb := tb hb
      rw [hn, show n + 2 - 1 = n + 1 by omega] at htb
      have hbt := u64s_getD ub (n + 1)
      obtain ⟨s, hs⟩ : ∃ s : Nat, 64 - bl 64 (b.getD (n + 1) 0).toNat = s := ⟨_, rfl⟩
      have hz := lz_int (show 0 < b.getD (n + 1) 0 by omega) hbt.2
      rw [hs] at hz
      obtain ⟨s64, y0, y1⟩ := hz
      obtain ⟨v, hv⟩ : ∃ v, (upL b s).take b.length = v := ⟨_, rfl⟩
      have hv2 := up_cut s64 ub (by rw [hn]; exact y1) hb
      have uv : u64s v := hv ▸ u64s_take (upL_u s64 ub) _
      have hlv : v.length = n + 2 := by rw [← hv, List.length_take, upL_len]; omega
      rw [hv] at hv2
      have htop := kn_top ub uv tb hn hlv hv2
      have hul := upL_len a s
      refine jc_skip <| zsr <| zmv rfl (hd 52 rfl) <| zmv rfl (hd 53 rfl) <| jo_l (ly_lenn sl28 rfl) (hd 54 rfl) <| jo_l (ly_sub rfl rfl (r := ((n + 1 : Nat) : Int)) (by rw [wrap_i64 (by omega) (by omega)]; omega)) (hd 55 rfl) <| jo_l (ly_ian (i := n + 1) sl28 rfl rfl (by first | rfl | omega) (by omega)) (hd 56 rfl) <| jo_l (ly_is (ly_ldq one82 rfl rfl) (show V.i .u64 _ = V.i .u64 (((b.getD (n + 1) 0).toNat : Int)) from congrArg (V.i .u64) (Int.toNat_of_nonneg hbt.1).symm)) (hd 57 rfl) ?_
      refine jo_call Try.f123 (Lz_s (b.getD (n + 1) 0).toNat (by omega)) rfl Try.func123 rfl rfl (ovL_cons rfl ovL_nil) (.cons .i .nil) (hd 58 rfl) ?_ (fun ch hp => by simp at hp)
      rintro _ ⟨⟩; refine jo_l (ly_conv und3 und116 rfl (r := (s : Int)) (by rw [hs]; exact wrap_u64 (by omega) (by omega))) (hd 59 rfl) <| zas rfl (hd 9 rfl) <| jo_nil <| jc_seq <| jc_draw (n := 11) _ rfl mixed <| zal2 0 [2, 5, 8, 9, 10] (lo_l (ly_mv rfl) (hd 60 rfl)) rfl <| zal2 1 [2, 5, 8, 9, 10] (lo_l (ly_mv rfl) (hd 61 rfl)) rfl <| zal2 3 [5, 8, 9, 10] (lo_l (ly_mv rfl) (hd 63 rfl)) rfl <| zal2 4 [5, 8, 9, 10] (lo_l (ly_mv rfl) (hd 64 rfl)) rfl <| zal2 6 [7, 8, 10] (lo_l (ly_mv rfl) (hd 66 rfl)) rfl <| zal 7 (lo_l (ly_lenn sl28 rfl) (hd 67 rfl)) rfl ?_
      refine ja_1 2 ?_ rfl (by kernel_rfl)
      refine js_callN Try.f124 (up_n s a (by omega) s64 ua) (fun o G ⟨_, h⟩ => h ▸ idless_cons ints_id idless_nil) rfl Try.func124 rfl rfl (ovL_cons rfl (ovL_cons rfl ovL_nil)) (.cons .n (.cons .i .nil)) (hd 62 rfl) ?_ (fun ch G hp => by simp at hp)
      rintro y G ⟨hy, rfl⟩; injection hy with hy; subst hy
      show JA _ _ _ _ _ ((62, .o 0 0 0 (a.length + 1)) :: _) _ _
      refine ja_1 5 ?_ rfl (by kernel_rfl)
      refine js_call Try.f124 (up_s s b (by omega) s64 ub) rfl Try.func124 rfl rfl (ovL_cons rfl (ovL_cons rfl ovL_nil)) (.cons .n (.cons .i .nil)) (hd 65 rfl) ?_ (fun ch hp => by simp at hp)
      rintro _ ⟨⟩; refine zal 8 (lo_l (ly_is (ly_sln sl28 rfl bnd_none (bnd_some' rfl rfl) (.inl rfl) (by omega) (by rw [upL_len]; omega)) (show V.n _ .u64 _ = V.n _ .u64 v by rw [List.drop_zero, hv])) (hd 68 rfl)) rfl <| zal 9 (lo_l (ly_as rfl) (hd 10 rfl)) rfl <| zal 10 (lo_l (ly_as rfl) (hd 11 rfl)) rfl <| ja_nil (by kernel_rfl) <| zsr <| zmv rfl (hd 69 rfl) <| jo_l (ly_lenn sl28 rfl) (hd 70 rfl) <| zas rfl (hd 12 rfl) <| jo_nil <| zsr <| zmv rfl (hd 71 rfl) ?_; refine jo_l (ly_lenn sl28 rfl) (hd 72 rfl) <| zmv rfl (hd 73 rfl) <| jo_l (ly_sub rfl rfl (r := ((a.length - v.length : Nat) : Int)) (by rw [wrap_i64 (by omega) (by omega)]; omega)) (hd 74 rfl) <| jo_l (ly_add rfl rfl (r := ((a.length - v.length + 1 : Nat) : Int)) (by rw [wrap_i64 (by omega) (by omega)]; omega)) (hd 75 rfl) <| jo_h (hy_mk (m := a.length - v.length + 1) el28 rfl rfl rfl (by show 8 * (a.length - v.length + 1) ≤ _; omega) (by unfold maxLen; omega) rfl) (hd 76 rfl) <| zas rfl (hd 13 rfl) <| jo_nil <| jc_seq <| zsr <| zmv rfl (hd 77 rfl) <| jo_l (ly_lenn sl28 rfl) (hd 78 rfl) <| zmv rfl (hd 79 rfl) ?_; refine jo_l (ly_sub rfl rfl (r := ((a.length - v.length : Nat) : Int)) (by rw [wrap_i64 (by omega) (by omega)]; omega)) (hd 80 rfl) <| zas rfl (hd 14 rfl) <| jo_nil <| jc_block <| jc_H (H' := [⟨67, 1, 0, true, ints .u64 (upL a s)⟩, ⟨67, 1, 0, true, ints .u64 (List.replicate (a.length - b.length + 1) 0 ++ [])⟩]) (by rw [List.append_nil, hn, ← hlv]; rfl) ?_
      refine jc_loopF (G := Nat × List Int × List Int) (fun g => g.1 ≤ a.length - b.length + 1 ∧ Kn (vl a * 2 ^ s) v (a.length + 1) g.1 g.2.1 g.2.2 ∧ g.2.2.length = a.length - b.length + 1 - g.1) (fun g => [(14, .i .i64 ((g.1 : Int) - 1)), (81, .u), (82, .u), (83, .u), (84, .u), (85, .u), (86, .u), (87, .u), (88, .u), (89, .u), (90, .u), (91, .u), (92, .u), (93, .u), (94, .u), (95, .u), (96, .u)]) (fun g => [⟨67, 1, 0, true, ints .u64 g.2.1⟩, ⟨67, 1, 0, true, ints .u64 (List.replicate g.1 0 ++ g.2.2)⟩]) (fun g => g.1) (a.length - b.length + 1, upL a s, []) ?_ ?_ rfl ?_
      · exact ⟨Nat.le_refl _, kn_start s64 ua ub tb hb hv2 hlen, by show 0 = _; omega⟩
      · exact (.cons (by show some (V.i .i64 _) = some (V.i .i64 _); congr 2; omega) (.u (.u (.u (.u (.u (.u (.u (.u (.u (.u (.u (.u (.u (.u (.u (.u .nil)))))))))))))))))
      · rintro ⟨k, U, Qs⟩ ⟨hk, hK, hQl⟩
        dsimp only at hk hK hQl
        refine jc_seq <| zsr <| zmv rfl (hd 81 rfl) <| jo_l (ly_ge rfl rfl) (hd 82 rfl) <| jo_nil ?_
        refine jc_if rfl (fun h4 => ?_) (fun h4 => ?_)
        · obtain ⟨k, rfl⟩ : ∃ m, k = m + 1 := ⟨k - 1, by omega⟩
          have hG := hK.gup uv hlv htop (by omega)
          have hKl := hK.lu
          refine jc_skip <| jc_seq <| jc_block <| jc_region <| zmv rfl (hd 85 rfl) <| zmv rfl (hd 86 rfl) <| zmv rfl (hd 87 rfl) <| zmv rfl (hd 88 rfl) <| zmv rfl (hd 89 rfl) <| zmv rfl (hd 90 rfl) <| jo_l (ly_add rfl rfl (r := ((k + v.length : Nat) : Int)) (by rw [wrap_i64 (by omega) (by omega)]; omega)) (hd 91 rfl) <| jo_l (ly_add rfl rfl (r := ((k + v.length + 1 : Nat) : Int)) (by rw [wrap_i64 (by omega) (by omega)]; omega)) (hd 92 rfl) <| jo_l (ly_slo (l := k) (h := k + (n + 3)) (r := k) (n := n + 3) sl28 rfl rfl (bnd_some' rfl (by omega)) (bnd_some' rfl (by omega)) (by omega) (by omega) (by omega) (by omega)) (hd 93 rfl) ?_; refine zmv rfl (hd 94 rfl) ?_
          refine jo_callM Try.f125 (guess_s U (slJ U k (n + 3)) v (List.replicate (k + 1) 0 ++ Qs) k n (by omega) (by omega) hK.uu rfl hG) rfl Try.func125 rfl rfl (ovL_cons rfl (ovL_cons rfl ovL_nil)) (.cons (.same rfl) (.cons .n .nil)) (freshless_cons ints_noFr (freshless_cons ints_noFr freshless_nil)) (hd 95 rfl) ?_ (fun ch H2 hp => by simp at hp)
          rintro y H2 ⟨hy, r, rfl, hrl, hru, hrv⟩; injection hy with hy; subst hy; refine jo_l (ly_ia (i := k) sl28 rfl rfl rfl (by omega) (by omega) rfl) (hd 96 rfl) <| jo_st (sy_storei rfl rfl rfl one82 (by simp only [List.length_append, List.length_replicate]; omega)) <| jo_nil <| jc_region <| zmv rfl (hd 83 rfl) <| jo_l (ly_sub rfl rfl (wrap_i64 (by omega) (by omega))) (hd 84 rfl) <| zas rfl (hd 14 rfl) <| jo_nil ?_
          refine ⟨(k, rwJ U k r, vl (slJ U k (n + 3)) / vl v :: Qs), ?_, ?_, (by show [_, (⟨67, 1, 0, true, ints .u64 _⟩ : Ob)] = [_, ⟨67, 1, 0, true, ints .u64 _⟩]; rw [dv_row']), cov_n 34 rfl rfl ?_⟩
          · exact ⟨by show k ≤ _; omega, hK.next hG (by omega) hrl hru hrv, by show (_ :: Qs).length = _; rw [List.length_cons]; omega⟩
          · show k < k + 1
            omega
          · exact (.cons (by show some (V.i .i64 _) = some (V.i .i64 _); congr 2; omega) (.u (.u (.u (.u (.u (.u (.u (.u (.u (.u (.u (.u (.u (.u (.u (.u .nil)))))))))))))))))
        · obtain rfl : k = 0 := by omega
          have hKl := hK.lu
          obtain ⟨hf1, hf2, hf3⟩ := hK.fin s64 hv2 hb0 ua uv (by omega)
          refine jc_exit <| jc_seq <| jc_frz (k := .u64) (l := List.replicate 0 0 ++ Qs) (l' := Qs) 13 rfl rfl (by simp only [List.length_append, List.length_replicate]; omega) (by rw [List.drop_zero]; show List.take _ Qs = _; rw [List.take_of_length_le (by omega)]) hL <| jc_frz (k := .u64) (l := U) (l' := U) 10 rfl rfl (by omega) (by rw [List.drop_zero, List.take_of_length_le (by omega)]) hL <| jc_draw (n := 9) _ rfl mixed <| zal2 0 [1, 6, 7, 8] (lo_l (ly_mv rfl) (hd 97 rfl)) rfl <| zal2 2 [4, 6, 7, 8] (lo_l (ly_mv rfl) (hd 99 rfl)) rfl <| zal2 3 [4, 6, 7, 8] (lo_l (ly_mv rfl) (hd 100 rfl)) rfl <| zal2 4 [6, 7, 8] (lo_l (ly_is (ly_sln sl28 rfl bnd_none (bnd_some' rfl rfl) (.inl rfl) (by omega) (by omega)) (show V.n _ .u64 _ = V.n _ .u64 (U.take v.length) by rw [List.drop_zero])) (hd 101 rfl)) rfl <| zal2 5 [6, 7, 8] (lo_l (ly_mv rfl) (hd 102 rfl)) rfl ?_
          refine ja_1 1 ?_ rfl (by kernel_rfl)
          refine js_callN Try.f71 (Norm_n Qs (by omega)) (fun o G ⟨_, h⟩ => h ▸ idless_cons ints_id idless_nil) rfl Try.func71 rfl rfl (ovL_cons rfl ovL_nil) (.cons .n .nil) (hd 98 rfl) ?_ (fun ch G hp => by simp at hp)
          rintro y G ⟨hy, rfl⟩; injection hy with hy; subst hy
          show JA _ _ _ _ _ ((98, .o 2 0 0 (trm Qs).length) :: _) _ _
          refine ja_1 6 ?_ rfl (by kernel_rfl)
          refine js_call Try.f126 (div_down_s s (U.take v.length) (by rw [List.length_take]; omega) s64 (u64s_take hK.uu _)) rfl Try.func126 rfl rfl (ovL_cons rfl (ovL_cons rfl ovL_nil)) (.cons .n (.cons .i .nil)) (hd 103 rfl) ?_ (fun ch hp => by simp at hp)
          rintro _ ⟨⟩; refine zal 7 (lo_l (ly_as rfl) (hd 4 rfl)) rfl <| zal 8 (lo_l (ly_as rfl) (hd 5 rfl)) rfl <| ja_nil (by kernel_rfl) <| jc_weakn 5 rfl <| jc_ret ?_
          refine ⟨[2], _, (.t [.o 0 0 0 (trm Qs).length, .n false .u64 (trm (dnN (U.take v.length) s (U.take v.length).length))]), (.cons rfl (.cons rfl .nil)), rfl, rfl, (by decide), (by first | exact idless_cons ints_id idless_nil | exact idless_cons rfl idless_nil), ?_⟩
          rw [hf1, hf3]
          exact ⟨rfl, rfl⟩

theorem Quo_n (x g : Nat) (hx : lenV (x : Int) ≤ 67108864) (hg9 : lenV (g : Int) ≤ 67108864) (h0 : g ≠ 0) : SpecM Try.prog 62 [.n false .u64 (lm (x : Int)), .n false .u64 (lm (g : Int))] [] (fun o G => o = .ret (.t [.o 0 0 0 (lm ((x / g : Nat) : Int)).length, .i .i64 0]) ∧ G = [⟨67, 1, 0, true, ints .u64 (lm ((x / g : Nat) : Int))⟩]) := by
  refine specS_of [(0, .n false .u64 (lm (x : Int))), (1, .n false .u64 (lm (g : Int)))] rfl Try.func62 rfl (zlb rfl) fun Γ hN hds hL hR => ?_
  have hd := hdOf 25 hN
  have hlv := lenV_lm hx
  have hlw := lenV_lm hg9
  have hle : lenV ((x / g : Nat) : Int) ≤ lenV (x : Int) := lenV_nat (Nat.div_le_self _ _)
  have hlq := lenV_lm (v := ((x / g : Nat) : Int)) (by omega)
  have hne := lm_ne (show (g : Int) ≠ 0 by omega)
  have hDq : SpecM Try.prog 100 [.n false .u64 (lm (x : Int)), .n false .u64 (lm (g : Int))] [] (fun o G => o = .ret (.t [.o 0 0 0 (lm ((x / g : Nat) : Int)).length, .n false .u64 (lm ((x % g : Nat) : Int))]) ∧ G = [⟨67, 1, 0, true, ints .u64 (lm ((x / g : Nat) : Int))⟩]) := by
    have h := divide_q (lm (x : Int)) (lm (g : Int)) (by omega) (by omega) (lm_u _) (lm_u _) (lm_t _) (lm_t _) hne
    rw [vl_lm (Int.natCast_nonneg _), vl_lm (Int.natCast_nonneg _), ← Int.natCast_ediv, ← Int.natCast_emod] at h
    exact h
  refine zsr <| zas rfl (hd 4 rfl) <| zas rfl (hd 5 rfl) <| jo_nil <| zsr <| zmv rfl (hd 8 rfl) ?_
  refine jo_call Try.f71 (Norm_v (x : Int) (by omega)) rfl Try.func71 rfl rfl (ovL_cons rfl ovL_nil) (.cons .n .nil) (hd 9 rfl) ?_ (fun ch hp => by simp at hp)
  rintro _ ⟨⟩; refine zmv rfl (hd 10 rfl) ?_
  refine jo_call Try.f71 (Norm_v (g : Int) (by omega)) rfl Try.func71 rfl rfl (ovL_cons rfl ovL_nil) (.cons .n .nil) (hd 11 rfl) ?_ (fun ch hp => by simp at hp)
  rintro _ ⟨⟩; refine zas rfl (hd 0 rfl) <| zas rfl (hd 1 rfl) <| jo_nil <| jc_seq <| zsr <| zmv rfl (hd 12 rfl) <| jo_l (ly_lenn sl28 rfl) (hd 13 rfl) <| jo_l (ly_ff (ly_eq rfl rfl) (fun h => hne (List.eq_nil_of_length_eq_zero (by omega)))) (hd 14 rfl) <| jo_nil <| jc_litf rfl <| jc_skip <| jc_seq ?_; refine jc_region <| zmv rfl (hd 16 rfl) <| zmv rfl (hd 17 rfl) ?_
  refine jo_callN Try.f100 (hDq) (fun o G ⟨_, h⟩ => h ▸ idless_cons ints_id idless_nil) rfl Try.func100 rfl rfl (ovL_cons rfl (ovL_cons rfl ovL_nil)) (.cons .n (.cons .n .nil)) (hd 18 rfl) ?_ (fun ch G hp => by simp at hp)
  rintro y G ⟨hy, rfl⟩; injection hy with hy; subst hy
  show JO _ _ _ _ ((18, .t [.o 0 0 0 (lm ((x / g : Nat) : Int)).length, .n false .u64 (lm ((x % g : Nat) : Int))]) :: _) _ _
  refine zmv rfl (hd 15 rfl) <| jo_l (ly_ext rfl rfl) (hd 19 rfl) <| jo_l (ly_ext rfl rfl) (hd 20 rfl) <| zas rfl (hd 6 rfl) <| zas rfl (hd 7 rfl) <| jo_nil <| jc_seq <| zsr <| zmv rfl (hd 21 rfl) ?_
  refine jo_callL Try.f66 (Length_v ((x / g : Nat) : Int) (by omega)) rfl Try.func66 rfl rfl (ovL_cons rfl ovL_nil) (.a1 (.o rfl (by simp) (by rw [List.drop_zero, List.take_length])) .a0) (.cons .n .nil) hL (fun y hy => by injection hy with hy; subst hy; rfl) (hd 22 rfl) ?_ (fun ch hp => by simp at hp)
  rintro _ ⟨⟩; refine jo_l (ly_ff (ly_gt rfl rfl) (by omega)) (hd 23 rfl) <| jo_nil <| jc_litf rfl <| jc_skip <| zsr <| zmv rfl (hd 24 rfl) <| zas rfl (hd 4 rfl) <| zas rfl (hd 5 rfl) <| jo_nil <| jc_ret ?_
  refine ⟨[0], _, (.t [.o 0 0 0 (lm ((x / g : Nat) : Int)).length, .i .i64 0]), (.cons rfl (.cons rfl .nil)), rfl, rfl, (by decide), (by first | exact idless_cons ints_id idless_nil | exact idless_cons rfl idless_nil), ?_⟩
  exact ⟨rfl, rfl⟩

theorem parts_0n (s : Bool) (l d : List Int) (y : Nat) (hx : Rw l 0) (hy : Rw d y) (h0 : y ≠ 0) : SpecM Try.prog 96 [(.a [.b s, .n false .u64 l, .n false .u64 d])] [] (fun o G => o = .ret (.t [.b (sgq s 0), .o 0 0 0 (lm ((rn0 0 y : Nat) : Int)).length, .o 1 0 0 (lm ((rd0 0 y : Nat) : Int)).length]) ∧ G = [⟨67, 1, 0, true, ints .u64 (lm ((rn0 0 y : Nat) : Int))⟩, ⟨67, 1, 0, true, ints .u64 (lm ((rd0 0 y : Nat) : Int))⟩]) := by
  refine specS_of [(0, (.a [.b s, .n false .u64 l, .n false .u64 d]))] rfl Try.func96 rfl (zlb rfl) fun Γ hN hds hL hR => ?_
  have hd := hdOf 42 hN
  have hNl : Spec Try.prog 71 [.n false .u64 l] (fun o => o = .ret (.n true .u64 (lm ((0 : Nat) : Int)))) := by have h := Norm_s l (by have := hx.l; omega); rw [hx.t] at h; exact h
  have hNd : Spec Try.prog 71 [.n false .u64 d] (fun o => o = .ret (.n true .u64 (lm (y : Int)))) := by have h := Norm_s d (by have := hy.l; omega); rw [hy.t] at h; exact h
  have hF1 : SpecM Try.prog 58 [.i .u64 1] [] (fun o G => o = .ret (.o 0 0 0 1) ∧ G = [⟨67, 1, 0, true, ints .u64 [1]⟩]) := From_n 1
  have hly := mt lm_len0.1 h0
  refine zsr <| jo_h (hy_box (id := 0) (n := 3) rfl rfl rfl (by decide) rfl) (hd 1 rfl) <| zas rfl (hd 2 rfl) <| zas rfl (hd 3 rfl) <| zas rfl (hd 4 rfl) <| jo_nil <| jc_seq <| jc_draw (n := 9) _ rfl mixed <| zal2 0 [1, 2, 3, 6, 7, 8] (lo_l (ly_fa fld1028_0 rfl rfl rfl) (hd 8 rfl)) rfl <| zal2 1 [2, 3, 6, 7, 8] (lo_l (ly_fa fld30_1 rfl rfl rfl) (hd 9 rfl)) rfl <| zal2 2 [3, 6, 7, 8] (lo_l (ly_ld one28 rfl rfl rfl) (hd 10 rfl)) rfl <| zal2 4 [5, 6, 7, 8] (lo_l (ly_fa fld1028_1 rfl rfl rfl) (hd 12 rfl)) rfl ?_; refine zal2 5 [6, 7, 8] (lo_l (ly_ld one28 rfl rfl rfl) (hd 13 rfl)) rfl ?_
  refine ja_1 3 ?_ rfl (by kernel_rfl)
  refine js_call Try.f71 (hNl) rfl Try.func71 rfl rfl (ovL_cons rfl ovL_nil) (.cons .n .nil) (hd 11 rfl) ?_ (fun ch hp => by simp at hp)
  rintro y hy; injection hy with hy; subst hy
  refine ja_1 6 ?_ rfl (by kernel_rfl)
  refine js_call Try.f71 (hNd) rfl Try.func71 rfl rfl (ovL_cons rfl ovL_nil) (.cons .n .nil) (hd 14 rfl) ?_ (fun ch hp => by simp at hp)
  rintro _ ⟨⟩; refine zal 7 (lo_l (ly_as rfl) (hd 5 rfl)) rfl <| zal 8 (lo_l (ly_as rfl) (hd 6 rfl)) rfl <| ja_nil (by kernel_rfl) <| jc_seq <| zsr <| zmv rfl (hd 15 rfl) <| jo_l (ly_lenn sl28 rfl) (hd 16 rfl) <| jo_l (ly_ff (ly_eq rfl rfl) (by omega)) (hd 17 rfl) <| jo_nil <| jc_litf rfl <| jc_skip <| jc_seq ?_; refine zsr <| zmv rfl (hd 20 rfl) <| jo_l (ly_lenn sl28 rfl) (hd 21 rfl) <| jo_l (ly_tt (ly_eq rfl rfl) (by rw [show ((0 : Nat) : Int) = 0 from rfl, lm_0]; rfl)) (hd 22 rfl) <| jo_nil <| jc_litt rfl <| jc_seq <| jc_region ?_
  refine jo_callN Try.f58 (hF1) (fun o G ⟨_, h⟩ => h ▸ idless_cons ints_id idless_nil) rfl Try.func58 rfl rfl (ovL_cons rfl ovL_nil) (.cons .i .nil) (hd 23 rfl) ?_ (fun ch G hp => by simp at hp)
  rintro y G ⟨hy, rfl⟩; injection hy with hy; subst hy
  show JO _ _ _ _ ((23, .o 1 0 0 1) :: _) _ _
  refine zas rfl (hd 2 rfl) <| zas rfl (hd 3 rfl) <| zas rfl (hd 4 rfl) <| jo_nil <| jc_own0 3 67 1 rfl rfl <| jc_ret ?_
  refine ⟨[2, 1], _, (.t [.b false, .o 0 0 0 0, .o 1 0 0 1]), (.cons rfl (.cons rfl (.cons rfl .nil))), rfl, rfl, (by decide), (idless_cons rfl (idless_cons ints_id idless_nil)), ?_⟩
  rw [rn0_0, rd0_0 h0, lm_1n, show ((0 : Nat) : Int) = 0 from rfl, lm_0, sgq_0]
  exact ⟨rfl, rfl⟩

theorem parts_pn (s : Bool) (l d : List Int) (x y : Nat) (hx : Rw l x) (hy : Rw d y) (h0 : y ≠ 0) (h1 : x ≠ 0) : SpecM Try.prog 96 [(.a [.b s, .n false .u64 l, .n false .u64 d])] [] (fun o G => o = .ret (.t [.b (sgq s x), .o 0 0 0 (lm ((rn0 x y : Nat) : Int)).length, .o 1 0 0 (lm ((rd0 x y : Nat) : Int)).length]) ∧ G = [⟨67, 1, 0, true, ints .u64 (lm ((rn0 x y : Nat) : Int))⟩, ⟨67, 1, 0, true, ints .u64 (lm ((rd0 x y : Nat) : Int))⟩]) := by
  refine specS_of [(0, (.a [.b s, .n false .u64 l, .n false .u64 d]))] rfl Try.func96 rfl (zlb rfl) fun Γ hN hds hL hR => ?_
  have hd := hdOf 42 hN
  have hNl : Spec Try.prog 71 [.n false .u64 l] (fun o => o = .ret (.n true .u64 (lm (x : Int)))) := by have h := Norm_s l (by have := hx.l; omega); rw [hx.t] at h; exact h
  have hNd : Spec Try.prog 71 [.n false .u64 d] (fun o => o = .ret (.n true .u64 (lm (y : Int)))) := by have h := Norm_s d (by have := hy.l; omega); rw [hy.t] at h; exact h
  have hly := mt lm_len0.1 h0
  have hlx := mt lm_len0.1 h1
  have hGc : Spec Try.prog 60 [.n false .u64 (lm (x : Int)), .n false .u64 (lm (y : Int))] (fun o => o = .ret (.n false .u64 (lm ((Nat.gcd x y : Nat) : Int)))) := Gcd_v (lm (x : Int)) (lm (y : Int)) x y (Rw.of hx.b).l (Rw.of hy.b).l (lm_u _) (lm_u _) (Rw.of hx.b).v (Rw.of hy.b).v
  have hQx : SpecM Try.prog 62 [.n false .u64 (lm (x : Int)), .n false .u64 (lm ((Nat.gcd x y : Nat) : Int))] [] (fun o G => o = .ret (.t [.o 0 0 0 (lm ((rn0 x y : Nat) : Int)).length, .i .i64 0]) ∧ G = [⟨67, 1, 0, true, ints .u64 (lm ((rn0 x y : Nat) : Int))⟩]) := Quo_n x (Nat.gcd x y) hx.b (gcd_b h0 hy.b) (by have := gcd_pos' (x := x) h0; omega)
  have hQy : SpecM Try.prog 62 [.n false .u64 (lm (y : Int)), .n false .u64 (lm ((Nat.gcd x y : Nat) : Int))] [] (fun o G => o = .ret (.t [.o 0 0 0 (lm ((rd0 x y : Nat) : Int)).length, .i .i64 0]) ∧ G = [⟨67, 1, 0, true, ints .u64 (lm ((rd0 x y : Nat) : Int))⟩]) := Quo_n y (Nat.gcd x y) hy.b (gcd_b h0 hy.b) (by have := gcd_pos' (x := x) h0; omega)
  refine zsr <| jo_h (hy_box (id := 0) (n := 3) rfl rfl rfl (by decide) rfl) (hd 1 rfl) <| zas rfl (hd 2 rfl) <| zas rfl (hd 3 rfl) <| zas rfl (hd 4 rfl) <| jo_nil <| jc_seq <| jc_draw (n := 9) _ rfl mixed <| zal2 0 [1, 2, 3, 6, 7, 8] (lo_l (ly_fa fld1028_0 rfl rfl rfl) (hd 8 rfl)) rfl <| zal2 1 [2, 3, 6, 7, 8] (lo_l (ly_fa fld30_1 rfl rfl rfl) (hd 9 rfl)) rfl <| zal2 2 [3, 6, 7, 8] (lo_l (ly_ld one28 rfl rfl rfl) (hd 10 rfl)) rfl <| zal2 4 [5, 6, 7, 8] (lo_l (ly_fa fld1028_1 rfl rfl rfl) (hd 12 rfl)) rfl ?_; refine zal2 5 [6, 7, 8] (lo_l (ly_ld one28 rfl rfl rfl) (hd 13 rfl)) rfl ?_
  refine ja_1 3 ?_ rfl (by kernel_rfl)
  refine js_call Try.f71 (hNl) rfl Try.func71 rfl rfl (ovL_cons rfl ovL_nil) (.cons .n .nil) (hd 11 rfl) ?_ (fun ch hp => by simp at hp)
  rintro y hy; injection hy with hy; subst hy
  refine ja_1 6 ?_ rfl (by kernel_rfl)
  refine js_call Try.f71 (hNd) rfl Try.func71 rfl rfl (ovL_cons rfl ovL_nil) (.cons .n .nil) (hd 14 rfl) ?_ (fun ch hp => by simp at hp)
  rintro _ ⟨⟩; refine zal 7 (lo_l (ly_as rfl) (hd 5 rfl)) rfl <| zal 8 (lo_l (ly_as rfl) (hd 6 rfl)) rfl <| ja_nil (by kernel_rfl) <| jc_seq <| zsr <| zmv rfl (hd 15 rfl) <| jo_l (ly_lenn sl28 rfl) (hd 16 rfl) <| jo_l (ly_ff (ly_eq rfl rfl) (by omega)) (hd 17 rfl) <| jo_nil <| jc_litf rfl <| jc_skip <| jc_seq ?_; refine zsr <| zmv rfl (hd 20 rfl) <| jo_l (ly_lenn sl28 rfl) (hd 21 rfl) <| jo_l (ly_ff (ly_eq rfl rfl) (by omega)) (hd 22 rfl) <| jo_nil <| jc_litf rfl <| jc_skip <| zsr <| zmv rfl (hd 24 rfl) <| zmv rfl (hd 25 rfl) ?_
  refine jo_call Try.f60 (hGc) rfl Try.func60 rfl rfl (ovL_cons rfl (ovL_cons rfl ovL_nil)) (.cons .n (.cons .n .nil)) (hd 26 rfl) ?_ (fun ch hp => by simp at hp)
  rintro _ ⟨⟩; refine zas rfl (hd 7 rfl) <| jo_nil <| jc_seq <| jc_draw (n := 18) _ rfl mixed <| zal2 0 [1, 2, 15, 16, 17] (lo_l (ly_fa fld1028_0 rfl rfl rfl) (hd 27 rfl)) rfl <| zal 1 (lo_l (ly_fa fld30_0 rfl rfl rfl) (hd 28 rfl)) rfl <| zal 2 (lo_l (ly_ld one4 rfl rfl rfl) (hd 29 rfl)) rfl <| zal2 3 [5, 6, 7, 8, 11, 12, 13, 14, 15, 16, 17] (lo_l (ly_mv rfl) (hd 30 rfl)) rfl <| zal2 4 [5, 6, 7, 8, 11, 12, 13, 14, 15, 16, 17] (lo_l (ly_mv rfl) (hd 31 rfl)) rfl <| zal2 9 [11, 12, 13, 14, 15, 16, 17] (lo_l (ly_mv rfl) (hd 36 rfl)) rfl <| zal2 10 [11, 12, 13, 14, 15, 16, 17] (lo_l (ly_mv rfl) (hd 37 rfl)) rfl ?_
  refine ja_1 5 ?_ rfl (by kernel_rfl)
  refine js_callN Try.f62 (hQx) (fun o G ⟨_, h⟩ => h ▸ idless_cons ints_id idless_nil) rfl Try.func62 rfl rfl (ovL_cons rfl (ovL_cons rfl ovL_nil)) (.cons .n (.cons .n .nil)) (hd 32 rfl) ?_ (fun ch G hp => by simp at hp)
  rintro y G ⟨hy, rfl⟩; injection hy with hy; subst hy
  show JA _ _ _ _ _ ((32, .t [.o 1 0 0 (lm ((rn0 x y : Nat) : Int)).length, .i .i64 0]) :: _) _ _
  refine zal2 6 [8, 11, 12, 13, 14, 15, 16, 17] (lo_l (ly_ext rfl rfl) (hd 33 rfl)) rfl <| zal2 7 [8, 11, 12, 13, 14, 15, 16, 17] (lo_l (ly_ext rfl rfl) (hd 34 rfl)) rfl ?_
  refine ja_1 8 ?_ rfl (by kernel_rfl)
  refine js_callU Try.f61 (fun u => mustU u) rfl Try.func61 rfl rfl rfl rfl (hd 35 rfl) ?_
  refine ja_1 11 ?_ rfl (by kernel_rfl)
  refine js_callN Try.f62 (hQy) (fun o G ⟨_, h⟩ => h ▸ idless_cons ints_id idless_nil) rfl Try.func62 rfl rfl (ovL_cons rfl (ovL_cons rfl ovL_nil)) (.cons .n (.cons .n .nil)) (hd 38 rfl) ?_ (fun ch G hp => by simp at hp)
  rintro y G ⟨hy, rfl⟩; injection hy with hy; subst hy
  show JA _ _ _ _ _ ((38, .t [.o 2 0 0 (lm ((rd0 x y : Nat) : Int)).length, .i .i64 0]) :: _) _ _
  refine zal2 12 [14, 15, 16, 17] (lo_l (ly_ext rfl rfl) (hd 39 rfl)) rfl <| zal2 13 [14, 15, 16, 17] (lo_l (ly_ext rfl rfl) (hd 40 rfl)) rfl ?_
  refine ja_1 14 ?_ rfl (by kernel_rfl)
  refine js_callU Try.f61 (fun u => mustU u) rfl Try.func61 rfl rfl rfl rfl (hd 41 rfl) <| zal 15 (lo_l (ly_as rfl) (hd 2 rfl)) rfl <| zal 16 (lo_l (ly_as rfl) (hd 3 rfl)) rfl <| zal 17 (lo_l (ly_as rfl) (hd 4 rfl)) rfl <| ja_nil (by kernel_rfl) <| jc_ret ?_
  refine ⟨[1, 2], _, (.t [.b s, .o 0 0 0 (lm ((rn0 x y : Nat) : Int)).length, .o 1 0 0 (lm ((rd0 x y : Nat) : Int)).length]), (.cons rfl (.cons rfl (.cons rfl .nil))), rfl, rfl, (by decide), (idless_cons ints_id (idless_cons ints_id idless_nil)), ?_⟩
  rw [sgq_p h1]
  exact ⟨rfl, rfl⟩

theorem parts_n (s : Bool) (l d : List Int) (x y : Nat) (hx : Rw l x) (hy : Rw d y) (h0 : y ≠ 0) : SpecM Try.prog 96 [(.a [.b s, .n false .u64 l, .n false .u64 d])] [] (fun o G => o = .ret (.t [.b (sgq s x), .o 0 0 0 (lm ((rn0 x y : Nat) : Int)).length, .o 1 0 0 (lm ((rd0 x y : Nat) : Int)).length]) ∧ G = [⟨67, 1, 0, true, ints .u64 (lm ((rn0 x y : Nat) : Int))⟩, ⟨67, 1, 0, true, ints .u64 (lm ((rd0 x y : Nat) : Int))⟩]) := by
  by_cases h1 : x = 0
  · subst h1; exact parts_0n s l d y hx hy h0
  · exact parts_pn s l d x y hx hy h0 h1

theorem qnorm_n (s : Bool) (l d : List Int) (x y : Nat) (hx : Rw l x) (hy : Rw d y) (h0 : y ≠ 0) : SpecM Try.prog 44 [(.a [.b s, .n false .u64 l, .n false .u64 d])] [] (fun o G => o = .ret (.a [.b (sgq s x), .o 0 0 0 (lm ((rn0 x y : Nat) : Int)).length, .o 1 0 0 (lm ((rd0 x y : Nat) : Int)).length]) ∧ G = [⟨67, 1, 0, true, ints .u64 (lm ((rn0 x y : Nat) : Int))⟩, ⟨67, 1, 0, true, ints .u64 (lm ((rd0 x y : Nat) : Int))⟩]) := by
  refine specS_of [(0, (.a [.b s, .n false .u64 l, .n false .u64 d]))] rfl Try.func44 rfl (zlb rfl) fun Γ hN hds hL hR => ?_
  have hd := hdOf 17 hN
  refine zsr <| jo_h (hy_box (id := 0) (n := 3) rfl rfl rfl (by decide) rfl) (hd 1 rfl) <| jo_h (hy_alloc (id := 1) zero1028 (by decide) rfl (by decide) rfl) (hd 2 rfl) <| jo_nil <| zsr <| jo_l (ly_lda agg1028 rfl rfl rfl rfl) (hd 7 rfl) ?_
  refine jo_callN Try.f96 (parts_n s l d x y hx hy h0) (fun o G ⟨_, h⟩ => h ▸ idless_cons ints_id (idless_cons ints_id idless_nil)) rfl Try.func96 rfl rfl (ovL_cons rfl ovL_nil) (.cons (.a1 .b (.a1 .n (.a1 .n .a0))) .nil) (hd 8 rfl) ?_ (fun ch G hp => by simp at hp)
  rintro y G ⟨hy, rfl⟩; injection hy with hy; subst hy
  show JO _ _ _ _ ((8, .t [.b (sgq s x), .o 2 0 0 (lm ((rn0 x y : Nat) : Int)).length, .o 3 0 0 (lm ((rd0 x y : Nat) : Int)).length]) :: _) _ _
  refine zmv rfl (hd 6 rfl) <| jo_l (ly_ext rfl rfl) (hd 9 rfl) <| jo_l (ly_ext rfl rfl) (hd 10 rfl) <| jo_l (ly_ext rfl rfl) (hd 11 rfl) <| zas rfl (hd 3 rfl) <| zas rfl (hd 4 rfl) <| zas rfl (hd 5 rfl) <| jo_nil <| zsr <| zmv rfl (hd 12 rfl) <| zmv rfl (hd 13 rfl) <| jo_l (ly_build (is := [0, 1]) (xs := [.tmp 12, .tmp 13]) zero30 pls30_0_1 rfl (ovL_cons rfl (ovL_cons rfl ovL_nil)) rfl (by first | (simp [plsOk, cellsV]; done) | (simp [plsOk, cellsV, old]; done)) (all_of rfl) rfl) (hd 14 rfl) ?_; refine zmv rfl (hd 15 rfl) <| jo_l (ly_build (is := [0, 1]) (xs := [.tmp 14, .tmp 15]) zero1028 pls1028_0_1 rfl (ovL_cons rfl (ovL_cons rfl ovL_nil)) rfl ⟨rfl, (by decide), rfl, (by decide), trivial⟩ (all_of rfl) rfl) (hd 16 rfl) <| jo_st (sy_store rfl rfl rfl siz1028 rfl rfl (zlb rfl)) <| jo_nil <| jc_ret ?_
  refine ⟨[2, 3], _, (.a [.b (sgq s x), .o 0 0 0 (lm ((rn0 x y : Nat) : Int)).length, .o 1 0 0 (lm ((rd0 x y : Nat) : Int)).length]), (.cons (ResV.cell agg1028 rfl rfl rfl rfl) .nil), rfl, rfl, (by decide), (idless_cons ints_id (idless_cons ints_id idless_nil)), ?_⟩
  exact ⟨rfl, rfl⟩


theorem Qe.make {b : Bool} {x y : Nat} {z : Int} {Y : Nat} (h : Qe b x y z Y) : sgq b x = decide (z < 0) ∧ rn0 x y = nn z Y ∧ rd0 x y = dd z Y := ⟨h.sgn, h.low.1, h.low.2⟩
def ngb (b : Bool) (n : Nat) : Bool := if n = 0 then b else !b

def dB (c : Int) : Prop := 48 ≤ c ∧ c ≤ 57
instance (c : Int) : Decidable (dB c) := by unfold dB; exact inferInstance
def nd (s : ByteArray) (j : Nat) : Nat := if h : j < s.size ∧ dB (byteAt s j) then nd s (j + 1) else j
termination_by s.size - j
theorem nd_step {s : ByteArray} {j : Nat} (h : j < s.size) (hd : dB (byteAt s j)) : nd s j = nd s (j + 1) := by rw [nd, dif_pos ⟨h, hd⟩]
theorem nd_end {s : ByteArray} {j : Nat} (h : ¬ (j < s.size ∧ dB (byteAt s j))) : nd s j = j := by rw [nd, dif_neg h]
theorem nd_le {s : ByteArray} {j : Nat} (h : j ≤ s.size) : j ≤ nd s j ∧ nd s j ≤ s.size := by
  by_cases hh : j < s.size ∧ dB (byteAt s j)
  · have := nd_le (s := s) (j := j + 1) hh.1
    rw [nd_step hh.1 hh.2]
    omega
  · rw [nd_end hh]; omega
termination_by s.size - j
theorem nd_all {s : ByteArray} {j i : Nat} (h1 : j ≤ i) (h2 : i < nd s j) : dB (byteAt s i) := by
  by_cases hh : j < s.size ∧ dB (byteAt s j)
  · rw [nd_step hh.1 hh.2] at h2
    rcases Nat.lt_or_ge j i with h | h
    · exact nd_all h h2
    · rw [show i = j by omega]; exact hh.2
  · rw [nd_end hh] at h2; omega
termination_by s.size - j
theorem nd_is {s : ByteArray} {j k : Nat} (h1 : j ≤ k) (hk : k ≤ s.size) (ha : ∀ i, j ≤ i → i < k → dB (byteAt s i)) (he : k < s.size → ¬ dB (byteAt s k)) : nd s j = k := by
  rcases Nat.lt_or_ge j k with h | h
  · rw [nd_step (by omega) (ha j (Nat.le_refl _) h)]
    exact nd_is h hk (fun i hi => ha i (by omega)) he
  · have : j = k := by omega
    subst this
    exact nd_end fun hh => he hh.1 hh.2
termination_by k - j
def isD (s : ByteArray) : Prop := ∀ i, i < s.size → dB (byteAt s i)
theorem isD.nd {s : ByteArray} (h : isD s) : nd s 0 = s.size := nd_is (Nat.zero_le _) (Nat.le_refl _) (fun i _ hi => h i hi) (fun hh => absurd hh (Nat.lt_irrefl _))
theorem isD.val {s : ByteArray} (h : isD s) : ∀ i, i < s.size → dgv (byteAt s i) < 10 := fun i hi => by
  have := h i hi
  unfold dB at this
  unfold dgv
  rw [if_pos this]
  omega
theorem bA_ext {s : ByteArray} {a b i : Nat} (hb : b ≤ s.size) (h : a + i < b) : byteAt (s.extract a b) i = byteAt s (a + i) := by
  unfold byteAt
  rw [dif_pos (by rw [ByteArray.size_extract]; omega), dif_pos (by omega), ByteArray.getElem_extract]
theorem ex_sz {s : ByteArray} {a b : Nat} (hb : b ≤ s.size) : (s.extract a b).size = b - a := by rw [ByteArray.size_extract]; omega
theorem ba_ext {s t : ByteArray} (h : s.data = t.data) : s = t := by cases s; cases t; cases h; rfl
theorem ex_all (s : ByteArray) : s.extract 0 s.size = s := ba_ext (by rw [ByteArray.data_extract]; exact Array.extract_size)
theorem ba_nil {s : ByteArray} (h : s.size = 0) : s = ByteArray.empty := ba_ext (Array.eq_empty_of_size_eq_zero h)
theorem ex_ex {s : ByteArray} {a b c d : Nat} (h : a + d ≤ b) : (s.extract a b).extract c d = s.extract (a + c) (a + d) := ba_ext (by
  rw [ByteArray.data_extract, ByteArray.data_extract, ByteArray.data_extract, Array.extract_extract, Nat.min_eq_left h])
theorem dgs_ext (s : ByteArray) (a b : Nat) : dgs (s.extract a b) = ((dgs s).take b).drop a := by unfold dgs; rw [← bytesI_ext, List.map_drop, List.map_take]
theorem dgs_app (u v : ByteArray) : dgs (u ++ v) = dgs u ++ dgs v := by unfold dgs bytesI; simp
def dv (s : ByteArray) : Nat := (hv 10 (dgs s)).toNat
theorem isD.rng {s : ByteArray} (h : isD s) : rng 10 (dgs s) := fun x hx => by
  obtain ⟨i, hi, rfl⟩ := List.getElem_of_mem hx
  rw [dgs_len] at hi
  have e := dgs_getD hi
  rw [List.getD_eq_getElem?_getD, List.getElem?_eq_getElem (by rw [dgs_len]; exact hi)] at e
  have e' : (dgs s)[i] = dgv (byteAt s i) := e
  rw [e']
  have := h i hi
  unfold dB at this
  unfold dgv
  rw [if_pos this]
  omega
theorem isD.hv {s : ByteArray} (h : isD s) : hv 10 (dgs s) = ((dv s : Nat) : Int) := (Int.toNat_of_nonneg (hv_nonneg h.rng)).symm
theorem isD.fit {s : ByteArray} (h : isD s) (hs : s.size ≤ 2097152) : lenV ((dv s : Nat) : Int) ≤ 16777216 := by rw [← h.hv]; exact hv_fit (by decide) (by decide) h.rng (by rw [dgs_len]; exact hs)
theorem isD.ext {s : ByteArray} {a b : Nat} (h : ∀ i, a ≤ i → i < b → dB (byteAt s i)) (hb : b ≤ s.size) : isD (s.extract a b) := fun i hi => by
  rw [ex_sz hb] at hi
  rw [bA_ext hb (by omega)]
  exact h _ (by omega) (by omega)
theorem isD.app {u v : ByteArray} (h1 : isD u) (h2 : isD v) : isD (u ++ v) := fun i hi => by
  rw [ByteArray.size_append] at hi
  rcases Nat.lt_or_ge i u.size with h | h
  · have e : byteAt (u ++ v) i = byteAt u i := by unfold byteAt; rw [dif_pos (by rw [ByteArray.size_append]; omega), dif_pos h, ByteArray.getElem_append_left]
    rw [e]; exact h1 i h
  · have e : byteAt (u ++ v) i = byteAt v (i - u.size) := by unfold byteAt; rw [dif_pos (by rw [ByteArray.size_append]; omega), dif_pos (by omega), ByteArray.getElem_append_right h]
    rw [e]; exact h2 _ (by omega)
theorem dv_cut {p q : ByteArray} {k : Nat} (hp : isD p) (hq : isD q) (hk : k ≤ q.size) (hz : ∀ i, k ≤ i → i < q.size → byteAt q i = 48) : dv (p ++ q) * 10 ^ k = dv (p ++ q.extract 0 k) * 10 ^ q.size := by
  have hqe : isD (q.extract 0 k) := isD.ext (fun i _ hi => hq i (by omega)) hk
  have h1 := (hp.app hq).hv
  have h2 := (hp.app hqe).hv
  rw [dgs_app, hv_app, dgs_len] at h1
  rw [dgs_app, hv_app, dgs_len, ex_sz hk, Nat.sub_zero, dgs_ext, List.drop_zero] at h2
  have h3 : ∀ m, k + m ≤ q.size → hv 10 ((dgs q).take (k + m)) = hv 10 ((dgs q).take k) * 10 ^ m := by
    intro m
    induction m with
    | zero => intro _; rw [Nat.add_zero, Int.pow_zero, Int.mul_one]
    | succ m ih =>
      intro hm
      rw [← Nat.add_assoc, hv_step (by rw [dgs_len]; omega), ih (by omega), dgs_getD (by omega), hz (k + m) (by omega) (by omega), show dgv 48 = 0 by decide, Int.add_zero, Int.pow_succ, Int.mul_assoc]
      rfl
  have h4 := h3 (q.size - k) (by omega)
  rw [show k + (q.size - k) = q.size by omega, List.take_of_length_le (by rw [dgs_len]; omega)] at h4
  have h5 : ((dv (p ++ q) * 10 ^ k : Nat) : Int) = ((dv (p ++ q.extract 0 k) * 10 ^ q.size : Nat) : Int) := by
    rw [Int.natCast_mul, Int.natCast_mul, ← h1, ← h2, h4, Int.natCast_pow, Int.natCast_pow, Int.add_mul, Int.add_mul]
    have e1 : ((10 : Nat) : Int) ^ q.size = ((10 : Nat) : Int) ^ k * ((10 : Nat) : Int) ^ (q.size - k) := by rw [← Int.pow_add, show k + (q.size - k) = q.size by omega]
    rw [e1]
    show _ = _
    generalize ((10 : Nat) : Int) ^ k = A
    generalize ((10 : Nat) : Int) ^ (q.size - k) = B
    grind
  exact_mod_cast h5

theorem cut_s (s : ByteArray) (hs : s.size < 4294967296) : Spec Try.prog 74 [.s s] (fun o => o = .ret (.t [.s (s.extract 0 (nd s 0)), .s (s.extract (nd s 0) s.size)])) := by
  refine spec_of' [(0, .s s)] rfl Try.func74 rfl (zlb rfl) fun Γ hN hds hL hR => ?_
  have hd := hdOf 29 hN
  refine zsr <| zas rfl (hd 2 rfl) <| zas rfl (hd 3 rfl) <| jo_nil <| zsr <| zas rfl (hd 4 rfl) <| jo_nil <| jc_seq <| jc_block ?_
  refine jc_loopF (G := Nat) (fun i => i ≤ s.size ∧ nd s i = nd s 0) (fun i => [(4, .i .i64 (i : Int)), (5, .u), (6, .u), (7, .u), (8, .u), (9, .u), (10, .u), (11, .u), (12, .u), (13, .u), (14, .u), (15, .u), (16, .u), (17, .u), (18, .u), (19, .u), (20, .u), (21, .u), (22, .u)]) (fun _ => _) (fun i => s.size - i) 0 ?_ ?_ rfl ?_
  · exact ⟨Nat.zero_le _, rfl⟩
  · exact (.cons rfl (.u (.u (.u (.u (.u (.u (.u (.u (.u (.u (.u (.u (.u (.u (.u (.u (.u (.u .nil)))))))))))))))))))
  · rintro i ⟨hi, hc⟩; refine jc_seq <| zsr <| zmv rfl (hd 5 rfl) <| zmv rfl (hd 6 rfl) <| jo_l (ly_lens und9 rfl) (hd 7 rfl) <| jo_l (ly_lt rfl rfl) (hd 8 rfl) <| zmv rfl (hd 9 rfl) ?_
    refine jo_ifp 9 rfl (fun h1 => ?_) (fun h1 => ?_)
    · refine jo_g 9 rfl rfl (ly_mv rfl) (hd 10 rfl) <| jo_g 9 rfl rfl (ly_mv rfl) (hd 11 rfl) <| jo_g 9 rfl rfl (ly_ixs (i := i) und9 rfl rfl (by first | rfl | omega) (by omega)) (hd 12 rfl) <| jo_g 9 rfl rfl (ly_ge rfl rfl) (hd 13 rfl) <| jo_l (ly_pick_t rfl rfl) (hd 14 rfl) <| zmv rfl (hd 15 rfl) ?_
      refine jo_ifp 15 rfl (fun h2 => ?_) (fun h2 => ?_)
      · refine jo_g 15 rfl rfl (ly_mv rfl) (hd 16 rfl) <| jo_g 15 rfl rfl (ly_mv rfl) (hd 17 rfl) <| jo_g 15 rfl rfl (ly_ixs (i := i) und9 rfl rfl (by first | rfl | omega) (by omega)) (hd 18 rfl) <| jo_g 15 rfl rfl (ly_le rfl rfl) (hd 19 rfl) <| jo_l (ly_pick_t rfl rfl) (hd 20 rfl) <| jo_nil ?_
        refine jc_if rfl (fun h3 => ?_) (fun h3 => ?_)
        · refine jc_skip <| jc_block <| jc_region <| zmv rfl (hd 21 rfl) <| jo_l (ly_add rfl rfl (r := ((i + 1 : Nat) : Int)) (by rw [wrap_i64 (by omega) (by omega)]; omega)) (hd 22 rfl) <| zas rfl (hd 4 rfl) <| jo_nil ?_
          refine ⟨i + 1, ?_, ?_, rfl, cov_n 40 rfl rfl ?_⟩
          · exact ⟨by omega, by rw [← hc]; exact (nd_step (by omega) (by unfold dB; omega)).symm⟩
          · omega
          · exact (.cons rfl (.u (.u (.u (.u (.u (.u (.u (.u (.u (.u (.u (.u (.u (.u (.u (.u (.u (.u .nil)))))))))))))))))))
        · refine jc_exit <| jc_seq <| jc_draw (n := 8) _ rfl mixed <| zal 0 (lo_l (ly_mv rfl) (hd 23 rfl)) rfl <| zal 1 (lo_l (ly_mv rfl) (hd 24 rfl)) rfl <| zal 2 (lo_l (ly_sls und9 rfl bnd_none (bnd_some' rfl (by first | rfl | omega)) (by omega) (by omega)) (hd 25 rfl)) rfl <| zal 3 (lo_l (ly_mv rfl) (hd 26 rfl)) rfl <| zal 4 (lo_l (ly_mv rfl) (hd 27 rfl)) rfl <| zal 5 (lo_l (ly_sls und9 rfl (bnd_some' rfl (by first | rfl | omega)) bnd_none (by omega) (by omega)) (hd 28 rfl)) rfl <| zal 6 (lo_l (ly_as rfl) (hd 2 rfl)) rfl <| zal 7 (lo_l (ly_as rfl) (hd 3 rfl)) rfl <| ja_nil (by kernel_rfl) <| jc_ret ?_
          refine ⟨_, _, (.cons rfl (.cons rfl .nil)), (.t1 .s (.t1 .s .t0)), ?_⟩
          rw [← hc, nd_end (by unfold dB; omega)]
      · refine jo_s 15 rfl rfl rfl (hd 16 rfl) <| jo_s 15 rfl rfl rfl (hd 17 rfl) <| jo_s 15 rfl rfl rfl (hd 18 rfl) <| jo_s 15 rfl rfl rfl (hd 19 rfl) <| jo_l (ly_pick_f rfl rfl) (hd 20 rfl) <| jo_nil <| jc_litf rfl <| jc_exit <| jc_seq <| jc_draw (n := 8) _ rfl mixed <| zal 0 (lo_l (ly_mv rfl) (hd 23 rfl)) rfl <| zal 1 (lo_l (ly_mv rfl) (hd 24 rfl)) rfl <| zal 2 (lo_l (ly_sls und9 rfl bnd_none (bnd_some' rfl (by first | rfl | omega)) (by omega) (by omega)) (hd 25 rfl)) rfl ?_; refine zal 3 (lo_l (ly_mv rfl) (hd 26 rfl)) rfl <| zal 4 (lo_l (ly_mv rfl) (hd 27 rfl)) rfl <| zal 5 (lo_l (ly_sls und9 rfl (bnd_some' rfl (by first | rfl | omega)) bnd_none (by omega) (by omega)) (hd 28 rfl)) rfl <| zal 6 (lo_l (ly_as rfl) (hd 2 rfl)) rfl <| zal 7 (lo_l (ly_as rfl) (hd 3 rfl)) rfl <| ja_nil (by kernel_rfl) <| jc_ret ?_
        refine ⟨_, _, (.cons rfl (.cons rfl .nil)), (.t1 .s (.t1 .s .t0)), ?_⟩
        rw [← hc, nd_end (by unfold dB; omega)]
    · refine jo_s 9 rfl rfl rfl (hd 10 rfl) <| jo_s 9 rfl rfl rfl (hd 11 rfl) <| jo_s 9 rfl rfl rfl (hd 12 rfl) <| jo_s 9 rfl rfl rfl (hd 13 rfl) <| jo_l (ly_pick_f rfl rfl) (hd 14 rfl) <| zmv rfl (hd 15 rfl) <| jo_s 15 rfl rfl rfl (hd 16 rfl) <| jo_s 15 rfl rfl rfl (hd 17 rfl) <| jo_s 15 rfl rfl rfl (hd 18 rfl) <| jo_s 15 rfl rfl rfl (hd 19 rfl) <| jo_l (ly_pick_f rfl rfl) (hd 20 rfl) <| jo_nil <| jc_litf rfl ?_; refine jc_exit <| jc_seq <| jc_draw (n := 8) _ rfl mixed <| zal 0 (lo_l (ly_mv rfl) (hd 23 rfl)) rfl <| zal 1 (lo_l (ly_mv rfl) (hd 24 rfl)) rfl <| zal 2 (lo_l (ly_sls und9 rfl bnd_none (bnd_some' rfl (by first | rfl | omega)) (by omega) (by omega)) (hd 25 rfl)) rfl <| zal 3 (lo_l (ly_mv rfl) (hd 26 rfl)) rfl <| zal 4 (lo_l (ly_mv rfl) (hd 27 rfl)) rfl <| zal 5 (lo_l (ly_sls und9 rfl (bnd_some' rfl (by first | rfl | omega)) bnd_none (by omega) (by omega)) (hd 28 rfl)) rfl <| zal 6 (lo_l (ly_as rfl) (hd 2 rfl)) rfl <| zal 7 (lo_l (ly_as rfl) (hd 3 rfl)) rfl <| ja_nil (by kernel_rfl) <| jc_ret ?_
      refine ⟨_, _, (.cons rfl (.cons rfl .nil)), (.t1 .s (.t1 .s .t0)), ?_⟩
      rw [← hc, nd_end (by unfold dB; omega)]


theorem numP_n (s : ByteArray) (hs0 : s.size ≠ 0) (hs : s.size ≤ 2097152) (hd9 : isD s) : SpecM Try.prog 76 [.s s, .i .i64 10] [] (fun o G => o = .ret (.t [.o 0 0 0 (lm ((dv s : Nat) : Int)).length, .i .i64 0]) ∧ G = [⟨67, 1, 0, true, ints .u64 (lm ((dv s : Nat) : Int))⟩]) := by
  have h := Parse_n s 10 (by decide) (by decide) hs0 (by omega) hd9.val hd9.rng (by rw [hd9.hv]; have := hd9.fit hs; omega)
  rw [hd9.hv] at h
  exact h

theorem QParse_i (s : ByteArray) (hs0 : s.size ≠ 0) (hs : s.size ≤ 1048576) (hd9 : isD s) : SpecM Try.prog 30 [.s s] [] (fun o G => o = .ret (.t [.a [.b (decide (((dv s : Nat) : Int) < 0)), .o 0 0 0 (lm ((nn ((dv s : Nat) : Int) 1 : Nat) : Int)).length, .o 1 0 0 (lm ((dd ((dv s : Nat) : Int) 1 : Nat) : Int)).length], .i .i64 0]) ∧ G = [⟨67, 1, 0, true, ints .u64 (lm ((nn ((dv s : Nat) : Int) 1 : Nat) : Int))⟩, ⟨67, 1, 0, true, ints .u64 (lm ((dd ((dv s : Nat) : Int) 1 : Nat) : Int))⟩]) := by
  refine specS_ofD [(0, .s s)] rfl Try.func30 rfl (zlb rfl) fun Γ 𝓡 hN hds hL hR hE => ?_
  have hd := hdOf 115 hN
  have hF1 : Spec Try.prog 58 [.i .u64 1] (fun o => o = .ret (.n true .u64 [1])) := by have h := From_s 1; rwa [if_neg (by decide)] at h
  have hd0 := hd9 0 (by omega)
  unfold dB at hd0
  have hCut : Spec Try.prog 74 [.s s] (fun o => o = .ret (.t [.s s, .s .empty])) := by
    have h := cut_s s (by omega)
    rw [hd9.nd, ex_all, ba_nil (s := s.extract s.size s.size) (by rw [ex_sz (Nat.le_refl _)]; omega)] at h
    exact h
  have hfit := hd9.fit (by omega)
  have hNu := numP_n s hs0 (by omega) hd9
  have hNo : SpecM Try.prog 44 [(.a [.b false, .n false .u64 (lm ((dv s : Nat) : Int)), .n false .u64 [1]])] [] (fun o G => o = .ret (.a [.b (sgq false (dv s)), .o 0 0 0 (lm ((rn0 (dv s) 1 : Nat) : Int)).length, .o 1 0 0 (lm ((rd0 (dv s) 1 : Nat) : Int)).length]) ∧ G = [⟨67, 1, 0, true, ints .u64 (lm ((rn0 (dv s) 1 : Nat) : Int))⟩, ⟨67, 1, 0, true, ints .u64 (lm ((rd0 (dv s) 1 : Nat) : Int))⟩]) := qnorm_n false (lm ((dv s : Nat) : Int)) [1] (dv s) 1 (Rw.of (by omega)) (rw_1 (by decide) (by decide)) (by decide)
  refine jcp_seq <| jc_region <| jo_h (hy_alloc (id := 0) zero1028 (by decide) rfl (by decide) rfl) (hd 2 rfl) <| jo_h (hy_alloc (id := 1) zero23 (by decide) rfl (by decide) rfl) (hd 3 rfl) <| jo_nil <| jcd_defer (g := 73) (caps := [.p 0 0 0, .p 1 0 0]) 2 [_] (ops := [_, _]) rfl Try.func73 rfl rfl rfl hds hR hL hE <| jo_l (ly_mf (ovL_cons rfl (ovL_cons rfl ovL_nil))) (hd 12 rfl) <| jo_nil ?_
  refine ⟨rfl, rfl, rfl, ?_⟩
  intro Γ1 hN1 hL hR1
  replace hd : ∀ d, Nat.blt d 115 = true → d < Γ1.N := fun d h => by rw [hN1]; exact hd d h
  refine jo_nil <| zsr <| zmv rfl (hd 13 rfl) <| jo_l (ly_lens und9 rfl) (hd 14 rfl) <| jo_l (ly_tt (ly_gt rfl rfl) (by omega)) (hd 15 rfl) <| zmv rfl (hd 16 rfl) <| jo_g 16 rfl rfl (ly_mv rfl) (hd 17 rfl) <| jo_g 16 rfl rfl (ly_ixs (i := 0) und9 rfl rfl (by first | rfl | omega) (by omega)) (hd 18 rfl) <| jo_g 16 rfl rfl (ly_ff (ly_eq rfl rfl) (by omega)) (hd 19 rfl) <| jo_l (ly_pick_t rfl rfl) (hd 20 rfl) <| zas rfl (hd 4 rfl) <| jo_nil ?_; refine jc_seq <| zsr <| zmv rfl (hd 21 rfl) <| jo_nil <| jc_litf rfl <| jc_skip <| zsr <| zmv rfl (hd 25 rfl) ?_
  refine jo_call Try.f74 (hCut) rfl Try.func74 rfl rfl (ovL_cons rfl ovL_nil) (.cons .s .nil) (hd 26 rfl) ?_ (fun ch hp => by simp at hp)
  rintro _ ⟨⟩; refine zmv rfl (hd 24 rfl) <| jo_l (ly_ext rfl rfl) (hd 27 rfl) <| jo_l (ly_ext rfl rfl) (hd 28 rfl) <| zas rfl (hd 5 rfl) <| zas rfl (hd 6 rfl) <| jo_nil <| zsr <| zas rfl (hd 7 rfl) <| zas rfl (hd 8 rfl) <| jo_nil <| jc_seq <| jc_seq ?_; refine jc_region <| zmv rfl (hd 29 rfl) <| jo_l (ly_ff (ly_neS rfl rfl) (fun h => h rfl)) (hd 30 rfl) <| jo_nil <| jc_litf rfl <| jc_skip <| jc_seq <| zsr <| zmv rfl (hd 39 rfl) <| jo_l (ly_ff (ly_eqS rfl rfl) (fun h => hs0 (by rw [h]; rfl))) (hd 40 rfl) <| zmv rfl (hd 41 rfl) <| jo_g 41 rfl rfl (ly_mv rfl) (hd 42 rfl) ?_; refine jo_g 41 rfl rfl (ly_ff (ly_neS rfl rfl) (fun h => h rfl)) (hd 43 rfl) <| jo_l (ly_pick_f rfl rfl) (hd 44 rfl) <| zmv rfl (hd 45 rfl) <| jo_g 45 rfl rfl (ly_mv rfl) (hd 46 rfl) <| jo_g 45 rfl rfl (ly_ff (ly_ne rfl rfl) (by decide)) (hd 47 rfl) <| jo_g 45 rfl rfl (ly_mv rfl) (hd 48 rfl) <| jo_s 48 rfl rfl rfl (hd 49 rfl) <| jo_s 48 rfl rfl rfl (hd 50 rfl) <| jo_s 48 rfl rfl rfl (hd 51 rfl) <| jo_s' 51 rfl rfl (hd 52 rfl) <| jo_s' 51 rfl rfl (hd 53 rfl) <| jo_s 48 rfl rfl rfl (hd 54 rfl) <| jo_s 48 rfl rfl rfl (hd 55 rfl) ?_; refine jo_s' 55 rfl rfl (hd 56 rfl) <| jo_s' 55 rfl rfl (hd 57 rfl) <| jo_s 48 rfl rfl rfl (hd 58 rfl) <| jo_g 45 rfl rfl (ly_pick_f rfl rfl) (hd 59 rfl) <| jo_l (ly_pick_f rfl rfl) (hd 60 rfl) <| jo_nil <| jc_litf rfl <| jc_skip <| jc_seq <| jc_region ?_
  refine jo_call Try.f58 (hF1) rfl Try.func58 rfl rfl (ovL_cons rfl ovL_nil) (.cons .i .nil) (hd 62 rfl) ?_ (fun ch hp => by simp at hp)
  rintro _ ⟨⟩; refine zas rfl (hd 9 rfl) <| jo_nil <| zsr <| zmv rfl (hd 63 rfl) <| zas rfl (hd 10 rfl) <| jo_nil <| jc_seq <| zsr <| zmv rfl (hd 64 rfl) <| jo_nil <| jc_block ?_; refine zsr <| jo_l (ly_ff (ly_eq rfl rfl) (by decide)) (hd 66 rfl) <| zas rfl (hd 65 rfl) <| jo_nil <| jc_litf rfl <| zsr <| jo_l (ly_ff (ly_eq rfl rfl) (by decide)) (hd 94 rfl) <| zas rfl (hd 93 rfl) <| jo_nil <| jc_litf rfl <| jc_skip ?_; refine jc_seq <| zsr <| zmv rfl (hd 100 rfl) <| jo_l (ly_lenn sl28 rfl) (hd 101 rfl) <| jo_l (ly_ff (ly_eq rfl rfl) (by decide)) (hd 102 rfl) <| jo_nil <| jc_litf rfl <| jc_skip <| zsr <| zmv rfl (hd 104 rfl) ?_
  refine jo_callN Try.f76 (hNu) (fun o G ⟨_, h⟩ => h ▸ idless_cons ints_id idless_nil) rfl Try.func76 rfl rfl (ovL_cons rfl (ovL_cons rfl ovL_nil)) (.cons .s (.cons .i .nil)) (hd 105 rfl) ?_ (fun ch G hp => by simp at hp)
  rintro y G ⟨hy, rfl⟩; injection hy with hy; subst hy
  show JO _ _ _ _ ((105, .t [.o 2 0 0 (lm ((dv s : Nat) : Int)).length, .i .i64 0]) :: _) _ _
  refine jo_l (ly_ext rfl rfl) (hd 106 rfl) <| jo_l (ly_ext rfl rfl) (hd 107 rfl) <| jo_callU Try.f61 (fun u => mustU u) rfl Try.func61 rfl rfl rfl rfl (hd 108 rfl) <| zas rfl (hd 11 rfl) <| jo_nil <| zsr <| zmv rfl (hd 109 rfl) <| zmv rfl (hd 110 rfl) <| jo_l (ly_build (is := [0, 1]) (xs := [.tmp 109, .tmp 110]) zero30 pls30_0_1 rfl (ovL_cons rfl (ovL_cons rfl ovL_nil)) rfl (by first | (simp [plsOk, cellsV]; done) | (simp [plsOk, cellsV, old]; done)) (all_of rfl) rfl) (hd 111 rfl) <| zmv rfl (hd 112 rfl) <| jo_l (ly_build (is := [0, 1]) (xs := [.tmp 111, .tmp 112]) zero1028 pls1028_0_1 rfl (ovL_cons rfl (ovL_cons rfl ovL_nil)) rfl ⟨rfl, (by decide), rfl, (by decide), trivial⟩ (all_of rfl) rfl) (hd 113 rfl) ?_
  refine jo_callLN Try.f44 (hNo) (fun o G ⟨_, h⟩ => h ▸ scG_cons ints_sc (scG_cons ints_sc scG_nil)) (fun y G ⟨hy, _⟩ => by injection hy with hy; subst hy; rfl) rfl Try.func44 rfl rfl (ovL_cons rfl ovL_nil) (.a1 (.a1 .b (.a1 (.o rfl (by simp) (by rw [List.drop_zero, List.take_length])) (.a1 .n .a0))) .a0) (.cons (.a1 .b (.a1 .n (.a1 .n .a0))) .nil) hL (hd 114 rfl) ?_ (fun ch G hp => by simp at hp)
  rintro y G ⟨hy, rfl⟩; injection hy with hy; subst hy
  show JO _ _ _ _ ((114, .a [.b (sgq false (dv s)), .o 3 0 0 (lm ((rn0 (dv s) 1 : Nat) : Int)).length, .o 4 0 0 (lm ((rd0 (dv s) 1 : Nat) : Int)).length]) :: _) _ _
  refine jo_st (sy_store rfl rfl rfl siz1028 rfl rfl (zlb rfl)) <| jo_st (sy_store rfl rfl rfl siz23 rfl rfl (zlb rfl)) <| jo_nil <| jc_ret <| Clo.fin clo_2354 (m := 2) (i := 0) (j := 1) (zlb rfl) rfl rfl rfl rfl ?_
  refine ⟨[3, 4], _, (.t [.a [.b (sgq false (dv s)), .o 0 0 0 (lm ((rn0 (dv s) 1 : Nat) : Int)).length, .o 1 0 0 (lm ((rd0 (dv s) 1 : Nat) : Int)).length], .i .i64 0]), (.cons (ResV.cell agg1028 rfl rfl rfl rfl) (.cons (ResV.cell1 one23 rfl rfl rfl) .nil)), rfl, rfl, (by decide), (idless_cons ints_id (idless_cons ints_id idless_nil)), ?_⟩
  have e9 := (Qe.make (b := false) (x := dv s) (y := 1) (z := ((dv s : Nat) : Int)) (Y := 1) ⟨by decide, by decide, rfl⟩)
  rw [e9.1, e9.2.1, e9.2.2]
  exact ⟨rfl, rfl⟩

theorem QParse_d (s p q r : ByteArray) (hp : s.extract 0 (nd s 0) = p) (hr : s.extract (nd s 0) s.size = r) (hr0 : r.size ≠ 0) (h46 : byteAt r 0 = 46) (hq : r.extract 1 r.size = q) (hp9 : isD p) (hp0 : p.size ≠ 0) (hq9 : isD q) (hq0 : q.size ≠ 0) (h0 : byteAt s 0 = byteAt p 0) (hs : s.size ≤ 1048576) (hpq : p.size + q.size ≤ 1048576) (hs0 : s.size ≠ 0) : SpecM Try.prog 30 [.s s] [] (fun o G => o = .ret (.t [.a [.b (decide (((dv (p ++ q) : Nat) : Int) < 0)), .o 0 0 0 (lm ((nn ((dv (p ++ q) : Nat) : Int) (10 ^ q.size) : Nat) : Int)).length, .o 1 0 0 (lm ((dd ((dv (p ++ q) : Nat) : Int) (10 ^ q.size) : Nat) : Int)).length], .i .i64 0]) ∧ G = [⟨67, 1, 0, true, ints .u64 (lm ((nn ((dv (p ++ q) : Nat) : Int) (10 ^ q.size) : Nat) : Int))⟩, ⟨67, 1, 0, true, ints .u64 (lm ((dd ((dv (p ++ q) : Nat) : Int) (10 ^ q.size) : Nat) : Int))⟩]) := by
  refine specS_ofD [(0, .s s)] rfl Try.func30 rfl (zlb rfl) fun Γ 𝓡 hN hds hL hR hE => ?_
  have hd := hdOf 115 hN
  have hF1 : Spec Try.prog 58 [.i .u64 1] (fun o => o = .ret (.n true .u64 [1])) := by have h := From_s 1; rwa [if_neg (by decide)] at h
  have hd0 := hp9 0 (by omega)
  unfold dB at hd0
  have hF10 : Spec Try.prog 58 [.i .u64 10] (fun o => o = .ret (.n true .u64 [10])) := by have h := From_s 10; rwa [if_neg (by decide)] at h
  have hCs : Spec Try.prog 74 [.s s] (fun o => o = .ret (.t [.s p, .s r])) := by
    have h := cut_s s (by omega)
    rwa [hp, hr] at h
  have hCq : Spec Try.prog 74 [.s q] (fun o => o = .ret (.t [.s q, .s .empty])) := by
    have h := cut_s q (by omega)
    rw [hq9.nd, ex_all, ba_nil (s := q.extract q.size q.size) (by rw [ex_sz (Nat.le_refl _)]; omega)] at h
    exact h
  have hl10 : lenV ((10 : Nat) : Int) ≤ 67108864 := by decide +kernel
  have e10 : lm ((10 : Nat) : Int) = [10] := lm_1w (by decide) (by decide)
  refine jcp_seq <| jc_region <| jo_h (hy_alloc (id := 0) zero1028 (by decide) rfl (by decide) rfl) (hd 2 rfl) <| jo_h (hy_alloc (id := 1) zero23 (by decide) rfl (by decide) rfl) (hd 3 rfl) <| jo_nil <| jcd_defer (g := 73) (caps := [.p 0 0 0, .p 1 0 0]) 2 [_] (ops := [_, _]) rfl Try.func73 rfl rfl rfl hds hR hL hE <| jo_l (ly_mf (ovL_cons rfl (ovL_cons rfl ovL_nil))) (hd 12 rfl) <| jo_nil ?_
  refine ⟨rfl, rfl, rfl, ?_⟩
  intro Γ1 hN1 hL hR1
  replace hd : ∀ d, Nat.blt d 115 = true → d < Γ1.N := fun d h => by rw [hN1]; exact hd d h
  refine jo_nil <| zsr <| zmv rfl (hd 13 rfl) <| jo_l (ly_lens und9 rfl) (hd 14 rfl) <| jo_l (ly_tt (ly_gt rfl rfl) (by omega)) (hd 15 rfl) <| zmv rfl (hd 16 rfl) <| jo_g 16 rfl rfl (ly_mv rfl) (hd 17 rfl) <| jo_g 16 rfl rfl (ly_ixs (i := 0) und9 rfl rfl (by first | rfl | omega) (by omega)) (hd 18 rfl) <| jo_g 16 rfl rfl (ly_ff (ly_eq rfl rfl) (by omega)) (hd 19 rfl) <| jo_l (ly_pick_t rfl rfl) (hd 20 rfl) <| zas rfl (hd 4 rfl) <| jo_nil ?_; refine jc_seq <| zsr <| zmv rfl (hd 21 rfl) <| jo_nil <| jc_litf rfl <| jc_skip <| zsr <| zmv rfl (hd 25 rfl) ?_
  refine jo_call Try.f74 (hCs) rfl Try.func74 rfl rfl (ovL_cons rfl ovL_nil) (.cons .s .nil) (hd 26 rfl) ?_ (fun ch hp => by simp at hp)
  rintro _ ⟨⟩; refine zmv rfl (hd 24 rfl) <| jo_l (ly_ext rfl rfl) (hd 27 rfl) <| jo_l (ly_ext rfl rfl) (hd 28 rfl) <| zas rfl (hd 5 rfl) <| zas rfl (hd 6 rfl) <| jo_nil <| zsr <| zas rfl (hd 7 rfl) <| zas rfl (hd 8 rfl) <| jo_nil <| jc_seq <| jc_seq ?_; refine jc_region <| zmv rfl (hd 29 rfl) <| jo_l (ly_tt (ly_neS rfl rfl) (fun h => hr0 (by rw [h]; rfl))) (hd 30 rfl) <| jo_nil <| jc_litt rfl <| zsr <| zmv rfl (hd 31 rfl) <| jo_l (ly_is (ly_ixs (i := 0) und9 rfl rfl (by first | rfl | omega) (by omega)) (by rw [h46])) (hd 32 rfl) <| zas rfl (hd 8 rfl) <| jo_nil <| jc_region <| zmv rfl (hd 34 rfl) ?_; refine jo_l (ly_is (ly_sls und9 rfl (bnd_some' rfl (by first | rfl | omega)) bnd_none (by omega) (by omega)) (congrArg V.s hq)) (hd 35 rfl) ?_
  refine jo_call Try.f74 (hCq) rfl Try.func74 rfl rfl (ovL_cons rfl ovL_nil) (.cons .s .nil) (hd 36 rfl) ?_ (fun ch hp => by simp at hp)
  rintro _ ⟨⟩; refine zmv rfl (hd 33 rfl) <| jo_l (ly_ext rfl rfl) (hd 37 rfl) <| jo_l (ly_ext rfl rfl) (hd 38 rfl) <| zas rfl (hd 7 rfl) <| zas rfl (hd 6 rfl) <| jo_nil <| jc_seq <| zsr <| zmv rfl (hd 39 rfl) <| jo_l (ly_ff (ly_eqS rfl rfl) (fun h => hp0 (by rw [h]; rfl))) (hd 40 rfl) <| zmv rfl (hd 41 rfl) <| jo_g 41 rfl rfl (ly_mv rfl) (hd 42 rfl) ?_; refine jo_g 41 rfl rfl (ly_ff (ly_neS rfl rfl) (fun h => h rfl)) (hd 43 rfl) <| jo_l (ly_pick_f rfl rfl) (hd 44 rfl) <| zmv rfl (hd 45 rfl) <| jo_g 45 rfl rfl (ly_mv rfl) (hd 46 rfl) <| jo_g 45 rfl rfl (ly_tt (ly_ne rfl rfl) (by decide)) (hd 47 rfl) <| jo_g 45 rfl rfl (ly_mv rfl) (hd 48 rfl) <| jo_g 48 rfl rfl (ly_mv rfl) (hd 49 rfl) <| jo_g 48 rfl rfl (ly_ff (ly_ne rfl rfl) (by decide)) (hd 50 rfl) <| jo_g 48 rfl rfl (ly_mv rfl) (hd 51 rfl) <| jo_s 51 rfl rfl rfl (hd 52 rfl) <| jo_s 51 rfl rfl rfl (hd 53 rfl) <| jo_g 48 rfl rfl (ly_pick_f rfl rfl) (hd 54 rfl) <| jo_g 48 rfl rfl (ly_mv rfl) (hd 55 rfl) ?_; refine jo_g 55 rfl rfl (ly_mv rfl) (hd 56 rfl) <| jo_g 55 rfl rfl (ly_ff (ly_eqS rfl rfl) (fun h => hq0 (by rw [h]; rfl))) (hd 57 rfl) <| jo_g 48 rfl rfl (ly_pick_f rfl rfl) (hd 58 rfl) <| jo_g 45 rfl rfl (ly_pick_t rfl rfl) (hd 59 rfl) <| jo_l (ly_pick_f rfl rfl) (hd 60 rfl) <| jo_nil <| jc_litf rfl <| jc_skip <| jc_seq <| jc_region ?_
  refine jo_call Try.f58 (hF1) rfl Try.func58 rfl rfl (ovL_cons rfl ovL_nil) (.cons .i .nil) (hd 62 rfl) ?_ (fun ch hp => by simp at hp)
  rintro _ ⟨⟩; refine zas rfl (hd 9 rfl) <| jo_nil <| zsr <| zmv rfl (hd 63 rfl) <| zas rfl (hd 10 rfl) <| jo_nil <| jc_seq <| zsr <| zmv rfl (hd 64 rfl) <| jo_nil <| jc_block ?_; refine zsr <| jo_l (ly_tt (ly_eq rfl rfl) (by decide)) (hd 66 rfl) <| zas rfl (hd 65 rfl) <| jo_nil <| jc_litt rfl <| jc_seq <| jc_block ?_
  refine jc_loopF (G := Nat) (fun k => k ≤ q.size ∧ (q.extract 0 k).size = k ∧ ∀ i, k ≤ i → i < q.size → byteAt q i = 48) (fun k => [(7, .s (q.extract 0 k)), (67, .u), (68, .u), (69, .u), (70, .u), (71, .u), (72, .u), (73, .u), (74, .u), (75, .u), (76, .u), (77, .u), (78, .u), (79, .u), (80, .u), (81, .u), (82, .u)]) (fun _ => _) (fun k => k) q.size ?_ ?_ rfl ?_
  · exact ⟨Nat.le_refl _, by rw [ex_all], fun i a b => absurd a (Nat.not_le.2 b)⟩
  · exact (.cons (congrArg (fun x => some (V.s x)) (ex_all q).symm) (.u (.u (.u (.u (.u (.u (.u (.u (.u (.u (.u (.u (.u (.u (.u (.u .nil)))))))))))))))))
  · rintro k ⟨hk, hkz, hz⟩; refine jc_seq <| zsr <| zmv rfl (hd 67 rfl) <| jo_l (ly_lens und9 rfl) (hd 68 rfl) <| jo_l (ly_gt rfl rfl) (hd 69 rfl) <| zmv rfl (hd 70 rfl) ?_
    refine jo_ifp 70 rfl (fun h5 => ?_) (fun h5 => ?_)
    · refine jo_g 70 rfl rfl (ly_mv rfl) (hd 71 rfl) <| jo_g 70 rfl rfl (ly_mv rfl) (hd 72 rfl) <| jo_g 70 rfl rfl (ly_lens und9 rfl) (hd 73 rfl) <| jo_g 70 rfl rfl (ly_sub rfl rfl (r := ((k - 1 : Nat) : Int)) (by rw [wrap_i64 (by omega) (by omega)]; omega)) (hd 74 rfl) <| jo_g 70 rfl rfl (ly_ixs (i := (k - 1)) und9 rfl rfl (by first | rfl | omega) (by omega)) (hd 75 rfl) <| jo_g 70 rfl rfl (ly_eq rfl rfl) (hd 76 rfl) <| jo_l (ly_pick_t rfl rfl) (hd 77 rfl) <| jo_nil ?_
      refine jc_if rfl (fun h6 => ?_) (fun h6 => ?_)
      · have hzk : byteAt q (k - 1) = 48 := by
          rw [← Nat.zero_add (k - 1), ← bA_ext (a := 0) hk (by omega)]
          exact h6
        refine jc_skip <| jc_block <| jc_region <| zmv rfl (hd 78 rfl) <| zmv rfl (hd 79 rfl) <| jo_l (ly_lens und9 rfl) (hd 80 rfl) <| jo_l (ly_sub rfl rfl (r := ((k - 1 : Nat) : Int)) (by rw [wrap_i64 (by omega) (by omega)]; omega)) (hd 81 rfl) <| jo_l (ly_sls und9 rfl bnd_none (bnd_some' rfl (by first | rfl | omega)) (by omega) (by omega)) (hd 82 rfl) <| zas rfl (hd 7 rfl) <| jo_nil ?_
        refine ⟨k - 1, ?_, ?_, rfl, cov_n 35 rfl rfl ?_⟩
        · exact ⟨by omega, by rw [ex_sz (by omega)]; omega, fun i a b => by rcases Nat.lt_or_ge i k with h9 | h9; rw [show i = k - 1 by omega]; exact hzk; exact hz i h9 b⟩
        · omega
        · exact (.cons (congrArg (fun x => some (V.s x)) (show (q.extract 0 k).extract 0 (k - 1) = q.extract 0 (k - 1) by rw [ex_ex (by omega), Nat.zero_add, Nat.zero_add])) (.u (.u (.u (.u (.u (.u (.u (.u (.u (.u (.u (.u (.u (.u (.u (.u .nil)))))))))))))))))
      · refine jc_exit <| jc_seq <| jc_region ?_
        have hqk : isD (q.extract 0 k) := isD.ext (fun i _ hi => hq9 i (by omega)) hk
        have hca := dv_cut hp9 hq9 hk hz
        have hu9 := hp9.app hqk
        have husz : (p ++ q.extract 0 k).size = p.size + k := by rw [ByteArray.size_append, hkz]
        obtain ⟨u, hu⟩ : ∃ u, u = p ++ q.extract 0 k := ⟨_, rfl⟩
        rw [← hu] at hca hu9 husz
        have hfit := hu9.fit (by omega)
        have hNu := numP_n u (by omega) (by omega) hu9
        have h10 : lenV ((10 ^ k : Nat) : Int) ≤ 16777216 := PW_fit (by decide) (by decide) (by omega)
        have h10z : 10 ^ k ≠ 0 := Nat.pos_iff_ne_zero.1 (Nat.pow_pos (by decide))
        have h10l : (lm ((10 ^ k : Nat) : Int)).length ≠ 0 := mt lm_len0.1 h10z
        have hPow : Spec Try.prog 75 [.n false .u64 [10], .i .i64 (k : Int)] (fun o => o = .ret (.t [.n false .u64 (lm ((10 ^ k : Nat) : Int)), .i .i64 0])) := by
          have h := Pow_v 10 k (by decide) hl10 (Nat.le_trans h10 (by decide))
          rw [e10] at h
          exact h
        have hNo : SpecM Try.prog 44 [(.a [.b false, .n false .u64 (lm ((dv u : Nat) : Int)), .n false .u64 (lm ((10 ^ k : Nat) : Int))])] [] (fun o G => o = .ret (.a [.b (sgq false (dv u)), .o 0 0 0 (lm ((rn0 (dv u) (10 ^ k) : Nat) : Int)).length, .o 1 0 0 (lm ((rd0 (dv u) (10 ^ k) : Nat) : Int)).length]) ∧ G = [⟨67, 1, 0, true, ints .u64 (lm ((rn0 (dv u) (10 ^ k) : Nat) : Int))⟩, ⟨67, 1, 0, true, ints .u64 (lm ((rd0 (dv u) (10 ^ k) : Nat) : Int))⟩]) := qnorm_n false (lm ((dv u : Nat) : Int)) (lm ((10 ^ k : Nat) : Int)) (dv u) (10 ^ k) (Rw.of (by omega)) (Rw.of (by omega)) h10z
        refine zmv rfl (hd 83 rfl) <| zmv rfl (hd 84 rfl) <| jo_l (ly_is (ly_adds rfl rfl (by have e9 : IntKind.i64.max = 9223372036854775807 := rfl; omega)) (congrArg V.s hu.symm)) (hd 85 rfl) <| zas rfl (hd 10 rfl) <| jo_nil <| jc_region ?_
        refine jo_call Try.f58 (hF10) rfl Try.func58 rfl rfl (ovL_cons rfl ovL_nil) (.cons .i .nil) (hd 86 rfl) ?_ (fun ch hp => by simp at hp)
        rintro _ ⟨⟩; refine zmv rfl (hd 87 rfl) <| jo_l (ly_is (ly_lens und9 rfl) (by rw [hkz])) (hd 88 rfl) ?_
        refine jo_call Try.f75 (hPow) rfl Try.func75 rfl rfl (ovL_cons rfl (ovL_cons rfl ovL_nil)) (.cons .n (.cons .i .nil)) (hd 89 rfl) ?_ (fun ch hp => by simp at hp)
        rintro _ ⟨⟩; refine jo_l (ly_ext rfl rfl) (hd 90 rfl) <| jo_l (ly_ext rfl rfl) (hd 91 rfl) <| jo_callU Try.f61 (fun u => mustU u) rfl Try.func61 rfl rfl rfl rfl (hd 92 rfl) <| zas rfl (hd 9 rfl) <| jo_nil <| jc_seq <| zsr <| zmv rfl (hd 100 rfl) <| jo_l (ly_lenn sl28 rfl) (hd 101 rfl) <| jo_l (ly_ff (ly_eq rfl rfl) (fun h => h10l (by exact_mod_cast h))) (hd 102 rfl) <| jo_nil <| jc_litf rfl ?_; refine jc_skip <| zsr <| zmv rfl (hd 104 rfl) ?_
        refine jo_callN Try.f76 (hNu) (fun o G ⟨_, h⟩ => h ▸ idless_cons ints_id idless_nil) rfl Try.func76 rfl rfl (ovL_cons rfl (ovL_cons rfl ovL_nil)) (.cons .s (.cons .i .nil)) (hd 105 rfl) ?_ (fun ch G hp => by simp at hp)
        rintro y G ⟨hy, rfl⟩; injection hy with hy; subst hy
        show JO _ _ _ _ ((105, .t [.o 2 0 0 (lm ((dv u : Nat) : Int)).length, .i .i64 0]) :: _) _ _
        refine jo_l (ly_ext rfl rfl) (hd 106 rfl) <| jo_l (ly_ext rfl rfl) (hd 107 rfl) <| jo_callU Try.f61 (fun u => mustU u) rfl Try.func61 rfl rfl rfl rfl (hd 108 rfl) <| zas rfl (hd 11 rfl) <| jo_nil <| zsr <| zmv rfl (hd 109 rfl) <| zmv rfl (hd 110 rfl) <| jo_l (ly_build (is := [0, 1]) (xs := [.tmp 109, .tmp 110]) zero30 pls30_0_1 rfl (ovL_cons rfl (ovL_cons rfl ovL_nil)) rfl (by first | (simp [plsOk, cellsV]; done) | (simp [plsOk, cellsV, old]; done)) (all_of rfl) rfl) (hd 111 rfl) <| zmv rfl (hd 112 rfl) <| jo_l (ly_build (is := [0, 1]) (xs := [.tmp 111, .tmp 112]) zero1028 pls1028_0_1 rfl (ovL_cons rfl (ovL_cons rfl ovL_nil)) rfl ⟨rfl, (by decide), rfl, (by decide), trivial⟩ (all_of rfl) rfl) (hd 113 rfl) ?_
        refine jo_callLN Try.f44 (hNo) (fun o G ⟨_, h⟩ => h ▸ scG_cons ints_sc (scG_cons ints_sc scG_nil)) (fun y G ⟨hy, _⟩ => by injection hy with hy; subst hy; rfl) rfl Try.func44 rfl rfl (ovL_cons rfl ovL_nil) (.a1 (.a1 .b (.a1 (.o rfl (by simp) (by rw [List.drop_zero, List.take_length])) (.a1 .n .a0))) .a0) (.cons (.a1 .b (.a1 .n (.a1 .n .a0))) .nil) hL (hd 114 rfl) ?_ (fun ch G hp => by simp at hp)
        rintro y G ⟨hy, rfl⟩; injection hy with hy; subst hy
        show JO _ _ _ _ ((114, .a [.b (sgq false (dv u)), .o 3 0 0 (lm ((rn0 (dv u) (10 ^ k) : Nat) : Int)).length, .o 4 0 0 (lm ((rd0 (dv u) (10 ^ k) : Nat) : Int)).length]) :: _) _ _
        refine jo_st (sy_store rfl rfl rfl siz1028 rfl rfl (zlb rfl)) <| jo_st (sy_store rfl rfl rfl siz23 rfl rfl (zlb rfl)) <| jo_nil <| jc_ret <| Clo.fin clo_2354 (m := 2) (i := 0) (j := 1) (zlb rfl) rfl rfl rfl rfl ?_
        refine ⟨[3, 4], _, (.t [.a [.b (sgq false (dv u)), .o 0 0 0 (lm ((rn0 (dv u) (10 ^ k) : Nat) : Int)).length, .o 1 0 0 (lm ((rd0 (dv u) (10 ^ k) : Nat) : Int)).length], .i .i64 0]), (.cons (ResV.cell agg1028 rfl rfl rfl rfl) (.cons (ResV.cell1 one23 rfl rfl rfl) .nil)), rfl, rfl, (by decide), (idless_cons ints_id (idless_cons ints_id idless_nil)), ?_⟩
        have e9 := (Qe.make (b := false) (x := dv u) (y := 10 ^ k) (z := ((dv (p ++ q) : Nat) : Int)) (Y := 10 ^ q.size) ⟨h10z, Nat.pos_iff_ne_zero.1 (Nat.pow_pos (by decide)), by show ((dv u : Nat) : Int) * ((10 ^ q.size : Nat) : Int) = ((dv (p ++ q) : Nat) : Int) * ((10 ^ k : Nat) : Int); exact_mod_cast hca.symm⟩)
        rw [e9.1, e9.2.1, e9.2.2]
        exact ⟨rfl, rfl⟩
    · refine jo_s 70 rfl rfl rfl (hd 71 rfl) <| jo_s 70 rfl rfl rfl (hd 72 rfl) <| jo_s 70 rfl rfl rfl (hd 73 rfl) <| jo_s 70 rfl rfl rfl (hd 74 rfl) <| jo_s 70 rfl rfl rfl (hd 75 rfl) <| jo_s 70 rfl rfl rfl (hd 76 rfl) <| jo_l (ly_pick_f rfl rfl) (hd 77 rfl) <| jo_nil <| jc_litf rfl <| jc_exit <| jc_seq <| jc_region ?_
      have hqk : isD (q.extract 0 k) := isD.ext (fun i _ hi => hq9 i (by omega)) hk
      have hca := dv_cut hp9 hq9 hk hz
      have hu9 := hp9.app hqk
      have husz : (p ++ q.extract 0 k).size = p.size + k := by rw [ByteArray.size_append, hkz]
      obtain ⟨u, hu⟩ : ∃ u, u = p ++ q.extract 0 k := ⟨_, rfl⟩
      rw [← hu] at hca hu9 husz
      have hfit := hu9.fit (by omega)
      have hNu := numP_n u (by omega) (by omega) hu9
      have h10 : lenV ((10 ^ k : Nat) : Int) ≤ 16777216 := PW_fit (by decide) (by decide) (by omega)
      have h10z : 10 ^ k ≠ 0 := Nat.pos_iff_ne_zero.1 (Nat.pow_pos (by decide))
      have h10l : (lm ((10 ^ k : Nat) : Int)).length ≠ 0 := mt lm_len0.1 h10z
      have hPow : Spec Try.prog 75 [.n false .u64 [10], .i .i64 (k : Int)] (fun o => o = .ret (.t [.n false .u64 (lm ((10 ^ k : Nat) : Int)), .i .i64 0])) := by
        have h := Pow_v 10 k (by decide) hl10 (Nat.le_trans h10 (by decide))
        rw [e10] at h
        exact h
      have hNo : SpecM Try.prog 44 [(.a [.b false, .n false .u64 (lm ((dv u : Nat) : Int)), .n false .u64 (lm ((10 ^ k : Nat) : Int))])] [] (fun o G => o = .ret (.a [.b (sgq false (dv u)), .o 0 0 0 (lm ((rn0 (dv u) (10 ^ k) : Nat) : Int)).length, .o 1 0 0 (lm ((rd0 (dv u) (10 ^ k) : Nat) : Int)).length]) ∧ G = [⟨67, 1, 0, true, ints .u64 (lm ((rn0 (dv u) (10 ^ k) : Nat) : Int))⟩, ⟨67, 1, 0, true, ints .u64 (lm ((rd0 (dv u) (10 ^ k) : Nat) : Int))⟩]) := qnorm_n false (lm ((dv u : Nat) : Int)) (lm ((10 ^ k : Nat) : Int)) (dv u) (10 ^ k) (Rw.of (by omega)) (Rw.of (by omega)) h10z
      refine zmv rfl (hd 83 rfl) <| zmv rfl (hd 84 rfl) <| jo_l (ly_is (ly_adds rfl rfl (by have e9 : IntKind.i64.max = 9223372036854775807 := rfl; omega)) (congrArg V.s hu.symm)) (hd 85 rfl) <| zas rfl (hd 10 rfl) <| jo_nil <| jc_region ?_
      refine jo_call Try.f58 (hF10) rfl Try.func58 rfl rfl (ovL_cons rfl ovL_nil) (.cons .i .nil) (hd 86 rfl) ?_ (fun ch hp => by simp at hp)
      rintro _ ⟨⟩; refine zmv rfl (hd 87 rfl) <| jo_l (ly_is (ly_lens und9 rfl) (by rw [hkz])) (hd 88 rfl) ?_
      refine jo_call Try.f75 (hPow) rfl Try.func75 rfl rfl (ovL_cons rfl (ovL_cons rfl ovL_nil)) (.cons .n (.cons .i .nil)) (hd 89 rfl) ?_ (fun ch hp => by simp at hp)
      rintro _ ⟨⟩; refine jo_l (ly_ext rfl rfl) (hd 90 rfl) <| jo_l (ly_ext rfl rfl) (hd 91 rfl) <| jo_callU Try.f61 (fun u => mustU u) rfl Try.func61 rfl rfl rfl rfl (hd 92 rfl) <| zas rfl (hd 9 rfl) <| jo_nil <| jc_seq <| zsr <| zmv rfl (hd 100 rfl) <| jo_l (ly_lenn sl28 rfl) (hd 101 rfl) <| jo_l (ly_ff (ly_eq rfl rfl) (fun h => h10l (by exact_mod_cast h))) (hd 102 rfl) <| jo_nil <| jc_litf rfl ?_; refine jc_skip <| zsr <| zmv rfl (hd 104 rfl) ?_
      refine jo_callN Try.f76 (hNu) (fun o G ⟨_, h⟩ => h ▸ idless_cons ints_id idless_nil) rfl Try.func76 rfl rfl (ovL_cons rfl (ovL_cons rfl ovL_nil)) (.cons .s (.cons .i .nil)) (hd 105 rfl) ?_ (fun ch G hp => by simp at hp)
      rintro y G ⟨hy, rfl⟩; injection hy with hy; subst hy
      show JO _ _ _ _ ((105, .t [.o 2 0 0 (lm ((dv u : Nat) : Int)).length, .i .i64 0]) :: _) _ _
      refine jo_l (ly_ext rfl rfl) (hd 106 rfl) <| jo_l (ly_ext rfl rfl) (hd 107 rfl) <| jo_callU Try.f61 (fun u => mustU u) rfl Try.func61 rfl rfl rfl rfl (hd 108 rfl) <| zas rfl (hd 11 rfl) <| jo_nil <| zsr <| zmv rfl (hd 109 rfl) <| zmv rfl (hd 110 rfl) <| jo_l (ly_build (is := [0, 1]) (xs := [.tmp 109, .tmp 110]) zero30 pls30_0_1 rfl (ovL_cons rfl (ovL_cons rfl ovL_nil)) rfl (by first | (simp [plsOk, cellsV]; done) | (simp [plsOk, cellsV, old]; done)) (all_of rfl) rfl) (hd 111 rfl) <| zmv rfl (hd 112 rfl) <| jo_l (ly_build (is := [0, 1]) (xs := [.tmp 111, .tmp 112]) zero1028 pls1028_0_1 rfl (ovL_cons rfl (ovL_cons rfl ovL_nil)) rfl ⟨rfl, (by decide), rfl, (by decide), trivial⟩ (all_of rfl) rfl) (hd 113 rfl) ?_
      refine jo_callLN Try.f44 (hNo) (fun o G ⟨_, h⟩ => h ▸ scG_cons ints_sc (scG_cons ints_sc scG_nil)) (fun y G ⟨hy, _⟩ => by injection hy with hy; subst hy; rfl) rfl Try.func44 rfl rfl (ovL_cons rfl ovL_nil) (.a1 (.a1 .b (.a1 (.o rfl (by simp) (by rw [List.drop_zero, List.take_length])) (.a1 .n .a0))) .a0) (.cons (.a1 .b (.a1 .n (.a1 .n .a0))) .nil) hL (hd 114 rfl) ?_ (fun ch G hp => by simp at hp)
      rintro y G ⟨hy, rfl⟩; injection hy with hy; subst hy
      show JO _ _ _ _ ((114, .a [.b (sgq false (dv u)), .o 3 0 0 (lm ((rn0 (dv u) (10 ^ k) : Nat) : Int)).length, .o 4 0 0 (lm ((rd0 (dv u) (10 ^ k) : Nat) : Int)).length]) :: _) _ _
      refine jo_st (sy_store rfl rfl rfl siz1028 rfl rfl (zlb rfl)) <| jo_st (sy_store rfl rfl rfl siz23 rfl rfl (zlb rfl)) <| jo_nil <| jc_ret <| Clo.fin clo_2354 (m := 2) (i := 0) (j := 1) (zlb rfl) rfl rfl rfl rfl ?_
      refine ⟨[3, 4], _, (.t [.a [.b (sgq false (dv u)), .o 0 0 0 (lm ((rn0 (dv u) (10 ^ k) : Nat) : Int)).length, .o 1 0 0 (lm ((rd0 (dv u) (10 ^ k) : Nat) : Int)).length], .i .i64 0]), (.cons (ResV.cell agg1028 rfl rfl rfl rfl) (.cons (ResV.cell1 one23 rfl rfl rfl) .nil)), rfl, rfl, (by decide), (idless_cons ints_id (idless_cons ints_id idless_nil)), ?_⟩
      have e9 := (Qe.make (b := false) (x := dv u) (y := 10 ^ k) (z := ((dv (p ++ q) : Nat) : Int)) (Y := 10 ^ q.size) ⟨h10z, Nat.pos_iff_ne_zero.1 (Nat.pow_pos (by decide)), by show ((dv u : Nat) : Int) * ((10 ^ q.size : Nat) : Int) = ((dv (p ++ q) : Nat) : Int) * ((10 ^ k : Nat) : Int); exact_mod_cast hca.symm⟩)
      rw [e9.1, e9.2.1, e9.2.2]
      exact ⟨rfl, rfl⟩

theorem cls2 {b : Int} : lx_cls b = 2 ↔ dB b := by
  unfold lx_cls dB
  constructor
  · intro h
    split at h
    · exact absurd h (by decide)
    · split at h
      · assumption
      · split at h
        · exact absurd h (by decide)
        · split at h <;> exact absurd h (by decide)
  · intro h
    rw [if_neg (by omega), if_pos h]
theorem run2 (s : ByteArray) (i : Nat) : lx_runN s 2 i = nd s i := by
  by_cases hh : i < s.size ∧ dB (byteAt s i)
  · rw [nd_step hh.1 hh.2, lx_runN_step hh.1 (cls2.2 hh.2)]
    exact run2 s (i + 1)
  · rw [nd_end hh, lx_runN_end (fun h => hh ⟨h.1, cls2.1 h.2⟩)]
termination_by s.size - i
def isNi (s : ByteArray) : Prop := s.size ≠ 0 ∧ nd s 0 = s.size
def isNf (s : ByteArray) : Prop := nd s 0 ≠ 0 ∧ nd s 0 + 1 < s.size ∧ byteAt s (nd s 0) = 46 ∧ nd s (nd s 0 + 1) = s.size
theorem run1 {s : ByteArray} (h : dB (byteAt s 0)) : lx_runN s 1 0 = 0 := lx_runN_end fun hh => by
  have := cls2.2 h
  omega
theorem nd_0 {s : ByteArray} (h : nd s 0 ≠ 0) : dB (byteAt s 0) ∧ s.size ≠ 0 := by
  by_cases hh : 0 < s.size ∧ dB (byteAt s 0)
  · exact ⟨hh.2, by omega⟩
  · exact absurd (nd_end hh) h
theorem nx_I {s : ByteArray} (h : isNi s) : lx_nx s 0 = (0, s.extract 0 s.size, 0, s.size, true) := by
  have h0 := nd_0 (s := s) (by rw [h.2]; exact h.1)
  refine lx_nx_num (run1 h0.1) (by omega) (cls2.2 h0.1) ?_
  rw [lx_numEnd_no (by rw [run2, h.2]; omega), run2, h.2]
theorem nx_F {s : ByteArray} (h : isNf s) : lx_nx s 0 = (0, s.extract 0 s.size, 0, s.size, true) := by
  have h0 := nd_0 h.1
  have hd : dB (byteAt s (nd s 0 + 1)) := nd_all (j := nd s 0 + 1) (Nat.le_refl _) (by rw [h.2.2.2]; exact h.2.1)
  refine lx_nx_num (run1 h0.1) (by omega) (cls2.2 h0.1) ?_
  rw [lx_numEnd_dot (by rw [run2]; exact h.2.1) (by rw [run2]; exact h.2.2.1) (by rw [run2]; exact cls2.2 hd), run2, run2, h.2.2.2]
theorem nx_no {s : ByteArray} (h1 : ¬ isNi s) (h2 : ¬ isNf s) : ¬ ((lx_nx s 0).2.2.2.2 = true ∧ (lx_nx s 0).1 = 0 ∧ (lx_nx s 0).2.2.2.1 = s.size ∧ (lx_nx s 0).2.2.1 = 0) := by
  rintro ⟨a, b, c, d⟩
  obtain ⟨j, hj⟩ : ∃ j, lx_runN s 1 0 = j := ⟨_, rfl⟩
  by_cases k0 : j = s.size
  · rw [lx_nx_end hj k0] at b; exact absurd b (fun e => by cases e)
  · by_cases k4 : lx_cls (byteAt s j) = 4
    · rw [lx_nx_sign hj k0 k4] at b; exact absurd b (fun e => by cases e)
    · by_cases k3 : lx_cls (byteAt s j) = 3
      · rw [lx_nx_word hj k0 k3] at b; exact absurd b (fun e => by cases e)
      · by_cases k2 : lx_cls (byteAt s j) = 2
        · rw [lx_nx_num hj k0 k2 rfl] at c d
          have d' : j = 0 := d
          subst d'
          have c' : lx_numEnd s 0 = s.size := c
          by_cases hd : lx_runN s 2 0 + 1 < s.size ∧ byteAt s (lx_runN s 2 0) = 46 ∧ lx_cls (byteAt s (lx_runN s 2 0 + 1)) = 2
          · rw [lx_numEnd_dot hd.1 hd.2.1 hd.2.2, run2, run2] at c'
            rw [run2] at hd
            refine h2 ⟨?_, hd.1, hd.2.1, c'⟩
            rw [nd_step (by omega) (cls2.1 k2)]
            have := (nd_le (s := s) (j := 0 + 1) (by omega)).1
            omega
          · rw [lx_numEnd_no hd, run2] at c'
            exact h1 ⟨by omega, c'⟩
        · rw [lx_nx_bad hj k0 k4 k3 k2] at a; exact absurd a (fun e => by cases e)
theorem no_ref {s : ByteArray} (h1 : ¬ isNi s) (h2 : ¬ isNf s) : nd s 0 = 0 ∨ (nd s 0 < s.size ∧ (byteAt s (nd s 0) ≠ 46 ∨ nd s (nd s 0 + 1) ≠ s.size ∨ nd s 0 + 1 = s.size)) := by
  by_cases a : nd s 0 = 0
  · exact .inl a
  · refine .inr ?_
    have hl := (nd_le (s := s) (j := 0) (Nat.zero_le _)).2
    have h0 := nd_0 a
    have hlt : nd s 0 < s.size := Nat.lt_of_le_of_ne hl fun e => h1 ⟨h0.2, e⟩
    refine ⟨hlt, ?_⟩
    by_cases b : byteAt s (nd s 0) = 46
    · by_cases c : nd s 0 + 1 = s.size
      · exact .inr (.inr c)
      · exact .inr (.inl fun d => h2 ⟨a, by omega, b, d⟩)
    · exact .inl b
theorem isNi.isD {s : ByteArray} (h : isNi s) : isD s := fun i hi => nd_all (j := 0) (Nat.zero_le _) (by rw [h.2]; exact hi)
theorem isNf.p {s : ByteArray} (h : isNf s) : isD (s.extract 0 (nd s 0)) := isD.ext (fun i _ hi => nd_all (j := 0) (Nat.zero_le _) hi) (nd_le (Nat.zero_le _)).2
theorem isNf.q {s : ByteArray} (h : isNf s) : isD (s.extract (nd s 0 + 1) s.size) := isD.ext (fun i h1 hi => nd_all (j := nd s 0 + 1) h1 (by rw [h.2.2.2]; exact hi)) (Nat.le_refl _)
theorem pow_half {e j : Nat} : e / 2 ^ j = e / 2 ^ (j + 1) + e / 2 ^ (j + 1) + e / 2 ^ j % 2 := by
  have h : e / 2 ^ (j + 1) = e / 2 ^ j / 2 := by rw [Nat.pow_succ, Nat.div_div_eq_div_mul]
  omega

theorem rPow_s (e : Nat) (he : e ≤ 1048576) : Spec Try.prog 79 [.n false .u64 (digs B32 10), .i .i64 (e : Int)] (fun o => o = .ret (.n false .u64 (digs B32 (10 ^ e)))) := by
  refine spec_of' [(0, .n false .u64 (digs B32 10)), (1, .i .i64 (e : Int))] rfl Try.func79 rfl (zlb rfl) fun Γ hN hds hL hR => ?_
  have hd := hdOf 24 hN
  have hpw : ∀ m, m ≤ e → (digs B32 (10 ^ m)).length ≤ 2097152 := fun m hm => dl_of (Nat.le_trans (PW_fit (b := 10) (n := m) (by decide) (by decide) (by omega)) (by decide))
  have hI1 : Spec Try.prog 54 [.i .i64 1] (fun o => o = .ret (.n false .u64 (digs B32 1))) := by have h := rInt_s ((1 : Nat) : Int) (by decide) (by decide); rw [rInt_v (v := 1) (by decide)] at h; exact h
  refine zsr <| zas rfl (hd 4 rfl) <| jo_nil <| jc_seq <| jc_region ?_
  refine jo_call Try.f54 (hI1) rfl Try.func54 rfl rfl (ovL_cons rfl ovL_nil) (.cons .i .nil) (hd 7 rfl) ?_ (fun ch hp => by simp at hp)
  rintro _ ⟨⟩; refine zas rfl (hd 5 rfl) <| jo_nil <| jc_seq <| zsr <| zas rfl (hd 6 rfl) <| jo_nil <| jc_block ?_
  refine jc_loopF (G := Nat) (fun k => k ≤ 63) (fun k => [(5, .n false .u64 (digs B32 (10 ^ (e / 2 ^ k)))), (6, .i .i64 ((k : Int) - 1)), (8, .u), (9, .u), (10, .u), (11, .u), (12, .u), (13, .u), (14, .u), (15, .u), (16, .u), (17, .u), (18, .u), (19, .u), (20, .u), (21, .u), (22, .u)]) (fun _ => _) (fun k => k) 63 ?_ ?_ rfl ?_
  · exact Nat.le_refl _
  · exact (.cons (congrArg (fun x => some (V.n false .u64 (digs B32 (10 ^ x)))) (show 0 = e / 2 ^ 63 from (Nat.div_eq_of_lt (by omega)).symm)) (.cons rfl (.u (.u (.u (.u (.u (.u (.u (.u (.u (.u (.u (.u (.u (.u (.u .nil)))))))))))))))))
  · rintro k hk; refine jc_seq <| zsr <| zmv rfl (hd 8 rfl) <| jo_l (ly_ge rfl rfl) (hd 9 rfl) <| jo_nil ?_
    refine jc_if rfl (fun h1 => ?_) (fun h1 => ?_)
    · obtain ⟨j, rfl⟩ : ∃ j, k = j + 1 := ⟨k - 1, by omega⟩
      have hph := pow_half (e := e) (j := j)
      have hle := Nat.div_le_self e (2 ^ j)
      have hle2 : (e / 2 ^ (j + 1)) + (e / 2 ^ (j + 1)) ≤ e := Nat.le_trans (Nat.le_trans (Nat.le_add_right _ _) (Nat.le_of_eq hph.symm)) hle
      have hle1 : (e / 2 ^ (j + 1)) ≤ e := Nat.le_trans (Nat.le_add_right _ _) hle2
      have hMu : Spec Try.prog 81 [.n false .u64 (digs B32 (10 ^ (e / 2 ^ (j + 1)))), .n false .u64 (digs B32 (10 ^ (e / 2 ^ (j + 1))))] (fun o => o = .ret (.n false .u64 (digs B32 (10 ^ ((e / 2 ^ (j + 1)) + (e / 2 ^ (j + 1))))))) := by
        have h := rMul_s (10 ^ (e / 2 ^ (j + 1))) (10 ^ (e / 2 ^ (j + 1))) (Nat.lt_of_le_of_lt (hpw _ hle1) (by decide)) (Nat.lt_of_le_of_lt (hpw _ hle1) (by decide))
        rwa [← Nat.pow_add] at h
      refine jc_skip <| jc_seq <| jc_block <| zsr <| zmv rfl (hd 12 rfl) <| zmv rfl (hd 13 rfl) ?_
      refine jo_call Try.f81 (hMu) rfl Try.func81 rfl rfl (ovL_cons rfl (ovL_cons rfl ovL_nil)) (.cons .n (.cons .n .nil)) (hd 14 rfl) ?_ (fun ch hp => by simp at hp)
      rintro _ ⟨⟩; refine zas rfl (hd 5 rfl) <| jo_nil <| zsr <| zmv rfl (hd 15 rfl) <| jo_l (ly_is (ly_mv rfl) (show V.i .i64 _ = V.i .i64 (j : Int) from congrArg (V.i .i64) (by omega))) (hd 16 rfl) <| jo_l (ly_is (ly_shr rfl rfl (by omega) rfl) (show V.i .i64 _ = V.i .i64 ((e / 2 ^ j : Nat) : Int) from congrArg (V.i .i64) (shr_nat (k := 2 ^ j) (by rw [Int.toNat_natCast, Nat.min_eq_left (by have h : IntKind.i64.bits = 64 := rfl; omega)])))) (hd 17 rfl) <| jo_l (ly_is (ly_bit (by simp) rfl rfl rfl) (show V.i .i64 _ = V.i .i64 ((e / 2 ^ j % 2 : Nat) : Int) from congrArg (V.i .i64) (and1i (by omega)))) (hd 18 rfl) <| jo_l (ly_eq rfl rfl) (hd 19 rfl) <| jo_nil ?_
      refine jc_if rfl (fun h2 => ?_) (fun h2 => ?_)
      · have hq : (e / 2 ^ (j + 1)) + (e / 2 ^ (j + 1)) + 1 = e / 2 ^ j := by omega
        have hMv : Spec Try.prog 81 [.n false .u64 (digs B32 (10 ^ ((e / 2 ^ (j + 1)) + (e / 2 ^ (j + 1))))), .n false .u64 (digs B32 10)] (fun o => o = .ret (.n false .u64 (digs B32 (10 ^ ((e / 2 ^ (j + 1)) + (e / 2 ^ (j + 1)) + 1))))) := by
          have h := rMul_s (10 ^ ((e / 2 ^ (j + 1)) + (e / 2 ^ (j + 1)))) 10 (Nat.lt_of_le_of_lt (hpw _ hle2) (by decide)) (by have h9 := hpw 1 (Nat.le_trans (by rw [← hq]; exact Nat.le_add_left 1 _) hle); rw [Nat.pow_one] at h9; exact Nat.lt_of_le_of_lt h9 (by decide))
          rwa [← Nat.pow_succ] at h
        refine jc_region <| zmv rfl (hd 20 rfl) <| zmv rfl (hd 21 rfl) ?_
        refine jo_call Try.f81 (hMv) rfl Try.func81 rfl rfl (ovL_cons rfl (ovL_cons rfl ovL_nil)) (.cons .n (.cons .n .nil)) (hd 22 rfl) ?_ (fun ch hp => by simp at hp)
        rintro _ ⟨⟩; refine zas rfl (hd 5 rfl) <| jo_nil <| jc_region <| zmv rfl (hd 10 rfl) <| jo_l (ly_sub rfl rfl (r := (j : Int) - 1) (by rw [wrap_i64 (by omega) (by omega)]; omega)) (hd 11 rfl) <| zas rfl (hd 6 rfl) <| jo_nil ?_
        refine ⟨j, ?_, ?_, rfl, cov_n 35 rfl rfl ?_⟩
        · omega
        · omega
        · exact (.cons (congrArg (fun x => some (V.n false .u64 (digs B32 (10 ^ x)))) hq) (.cons rfl (.u (.u (.u (.u (.u (.u (.u (.u (.u (.u (.u (.u (.u (.u (.u .nil)))))))))))))))))
      · have hq : (e / 2 ^ (j + 1)) + (e / 2 ^ (j + 1)) = e / 2 ^ j := by omega
        refine jc_skip <| jc_region <| zmv rfl (hd 10 rfl) <| jo_l (ly_sub rfl rfl (r := (j : Int) - 1) (by rw [wrap_i64 (by omega) (by omega)]; omega)) (hd 11 rfl) <| zas rfl (hd 6 rfl) <| jo_nil ?_
        refine ⟨j, ?_, ?_, rfl, cov_n 31 rfl rfl ?_⟩
        · omega
        · omega
        · exact (.cons (congrArg (fun x => some (V.n false .u64 (digs B32 (10 ^ x)))) hq) (.cons rfl (.u (.u (.u (.u (.u (.u (.u (.u (.u (.u (.u (.u (.u (.u (.u .nil)))))))))))))))))
    · obtain rfl : k = 0 := by omega
      refine jc_exit <| zsr <| zmv rfl (hd 23 rfl) <| zas rfl (hd 4 rfl) <| jo_nil <| jc_ret ?_
      refine ⟨_, _, (.cons rfl .nil), .n, ?_⟩
      rw [Nat.pow_zero, Nat.div_one]

theorem rrun_s (s : ByteArray) (j : Nat) (hj : j ≤ s.size) (hs : s.size < 4294967296) : Spec Try.prog 91 [.s s, .i .i64 (j : Int), .b false] (fun o => o = .ret (.i .i64 ((nd s j : Nat) : Int))) := by
  refine spec_of' [(0, .s s), (1, .i .i64 (j : Int)), (2, .b false)] rfl Try.func91 rfl (zlb rfl) fun Γ hN hds hL hR => ?_
  have hd := hdOf 33 hN
  refine zsr <| zas rfl (hd 6 rfl) <| jo_nil <| jc_seq <| jc_block ?_
  refine jc_loopF (G := Nat) (fun k => j ≤ k ∧ k ≤ s.size ∧ nd s k = nd s j) (fun k => [(1, .i .i64 (k : Int)), (7, .u), (8, .u), (9, .u), (10, .u), (11, .u), (12, .u), (13, .u), (14, .u), (15, .u), (16, .u), (17, .u), (18, .u), (19, .u), (20, .u), (21, .u), (22, .u), (23, .u), (24, .u), (25, .u), (26, .u), (27, .u), (28, .u), (29, .u), (30, .u), (31, .u)]) (fun _ => _) (fun k => s.size - k) j ?_ ?_ rfl ?_
  · exact ⟨Nat.le_refl _, hj, rfl⟩
  · exact (.cons rfl (.u (.u (.u (.u (.u (.u (.u (.u (.u (.u (.u (.u (.u (.u (.u (.u (.u (.u (.u (.u (.u (.u (.u (.u (.u .nil))))))))))))))))))))))))))
  · rintro k ⟨hjk, hk, hc⟩; refine jc_seq <| zsr <| zmv rfl (hd 7 rfl) <| zmv rfl (hd 8 rfl) <| jo_l (ly_lens und9 rfl) (hd 9 rfl) <| jo_l (ly_lt rfl rfl) (hd 10 rfl) <| zmv rfl (hd 11 rfl) ?_
    refine jo_ifp 11 rfl (fun h1 => ?_) (fun h1 => ?_)
    · refine jo_g 11 rfl rfl (ly_mv rfl) (hd 12 rfl) <| jo_g 11 rfl rfl (ly_not rfl) (hd 13 rfl) <| jo_g 11 rfl rfl (ly_mv rfl) (hd 14 rfl) <| jo_g 14 rfl rfl (ly_mv rfl) (hd 15 rfl) <| jo_g 14 rfl rfl (ly_mv rfl) (hd 16 rfl) <| jo_g 14 rfl rfl (ly_ixs (i := k) und9 rfl rfl (by first | rfl | omega) (by omega)) (hd 17 rfl) ?_
      refine jo_callg Try.f120 14 rfl rfl (lx_digit_s (byteAt s k)) rfl Try.func120 rfl rfl (ovL_cons rfl ovL_nil) (.cons .i .nil) (hd 18 rfl) ?_ (fun ch hp => by simp at hp)
      rintro _ ⟨⟩; refine jo_g 11 rfl rfl (ly_pick_t rfl rfl) (hd 19 rfl) <| jo_g 11 rfl rfl (ly_mv rfl) (hd 20 rfl) ?_
      refine jo_ifp 20 rfl (fun h2 => ?_) (fun h2 => ?_)
      · refine jo_s 20 rfl rfl rfl (hd 21 rfl) <| jo_s 20 rfl rfl rfl (hd 22 rfl) <| jo_s' 22 rfl rfl (hd 23 rfl) <| jo_s' 22 rfl rfl (hd 24 rfl) <| jo_s' 22 rfl rfl (hd 25 rfl) <| jo_s' 22 rfl rfl (hd 26 rfl) <| jo_s 20 rfl rfl rfl (hd 27 rfl) <| jo_g 11 rfl rfl (ly_pick_t rfl rfl) (hd 28 rfl) <| jo_l (ly_pick_t rfl rfl) (hd 29 rfl) <| jo_nil <| jc_litt rfl <| jc_skip <| jc_block ?_; refine jc_region <| zmv rfl (hd 30 rfl) <| jo_l (ly_add rfl rfl (r := ((k + 1 : Nat) : Int)) (by rw [wrap_i64 (by omega) (by omega)]; omega)) (hd 31 rfl) <| zas rfl (hd 1 rfl) <| jo_nil ?_
        refine ⟨k + 1, ?_, ?_, rfl, cov_n 54 rfl rfl ?_⟩
        · exact ⟨by omega, by omega, by rw [← hc]; exact (nd_step (by omega) (by unfold dB; omega)).symm⟩
        · omega
        · exact (.cons rfl (.u (.u (.u (.u (.u (.u (.u (.u (.u (.u (.u (.u (.u (.u (.u (.u (.u (.u (.u (.u (.u (.u (.u (.u (.u .nil))))))))))))))))))))))))))
      · refine jo_g 20 rfl rfl (ly_mv rfl) (hd 21 rfl) <| jo_g 20 rfl rfl (ly_mv rfl) (hd 22 rfl) <| jo_s 22 rfl rfl rfl (hd 23 rfl) <| jo_s 22 rfl rfl rfl (hd 24 rfl) <| jo_s 22 rfl rfl rfl (hd 25 rfl) <| jo_s 22 rfl rfl rfl (hd 26 rfl) <| jo_g 20 rfl rfl (ly_pick_f rfl rfl) (hd 27 rfl) <| jo_g 11 rfl rfl (ly_pick_f rfl rfl) (hd 28 rfl) <| jo_l (ly_pick_t rfl rfl) (hd 29 rfl) <| jo_nil <| jc_litf rfl <| jc_exit <| jc_seq ?_; refine jc_region <| zmv rfl (hd 32 rfl) <| zas rfl (hd 6 rfl) <| jo_nil <| jc_ret ?_
        refine ⟨_, _, (.cons rfl .nil), .i, ?_⟩
        rw [← hc, nd_end (by unfold dB; omega)]
    · refine jo_s 11 rfl rfl rfl (hd 12 rfl) <| jo_s 11 rfl rfl rfl (hd 13 rfl) <| jo_s 11 rfl rfl rfl (hd 14 rfl) <| jo_s' 14 rfl rfl (hd 15 rfl) <| jo_s' 14 rfl rfl (hd 16 rfl) <| jo_s' 14 rfl rfl (hd 17 rfl) <| jo_s' 14 rfl rfl (hd 18 rfl) <| jo_s 11 rfl rfl rfl (hd 19 rfl) <| jo_s 11 rfl rfl rfl (hd 20 rfl) <| jo_s' 20 rfl rfl (hd 21 rfl) <| jo_s' 20 rfl rfl (hd 22 rfl) <| jo_s' 22 rfl rfl (hd 23 rfl) <| jo_s' 22 rfl rfl (hd 24 rfl) ?_; refine jo_s' 22 rfl rfl (hd 25 rfl) <| jo_s' 22 rfl rfl (hd 26 rfl) <| jo_s' 20 rfl rfl (hd 27 rfl) <| jo_s 11 rfl rfl rfl (hd 28 rfl) <| jo_l (ly_pick_f rfl rfl) (hd 29 rfl) <| jo_nil <| jc_litf rfl <| jc_exit <| zsr <| zmv rfl (hd 32 rfl) <| zas rfl (hd 6 rfl) <| jo_nil ?_; refine jc_ret ?_
      refine ⟨_, _, (.cons rfl .nil), .i, ?_⟩
      rw [← hc, nd_end (by unfold dB; omega)]

theorem rVal_i (s : ByteArray) (h : isNi s) (hs : s.size ≤ 1048576) : Spec Try.prog 36 [.s s] (fun o => o = .ret (.t [.n false .u64 (digs B32 (rn0 (dv s) 1)), .n false .u64 (digs B32 (rd0 (dv s) 1)), .i .i64 0])) := by
  refine spec_of' [(0, .s s)] rfl Try.func36 rfl (zlb rfl) fun Γ hN hds hL hR => ?_
  have hd := hdOf 90 hN
  have hd9 := h.isD
  have hx9 : lenV ((dv s : Nat) : Int) ≤ 67108864 := Nat.le_trans (hd9.fit (by omega)) (by decide)
  have hy9 : lenV ((1 : Nat) : Int) ≤ 67108864 := by decide +kernel
  have hg0 := gcd_pos' (x := (dv s)) (y := 1) (by decide : 1 ≠ 0)
  have hdx9 := dl_of hx9
  have hdy9 := dl_of hy9
  have hgl : (digs B32 (Nat.gcd (dv s) 1)).length < 4294967296 := by have h9 := dl_mono (Nat.le_of_dvd (Nat.pos_iff_ne_zero.2 (by decide : 1 ≠ 0)) (Nat.gcd_dvd_right (dv s) 1)); omega
  have hxb : lenV ((rn0 (dv s) 1 : Nat) : Int) ≤ 67108864 := rn0_b hx9
  have hyb : lenV ((rd0 (dv s) 1 : Nat) : Int) ≤ 67108864 := rd0_b hy9
  have hLx : Spec Try.prog 33 [.n false .u64 (digs B32 (rn0 (dv s) 1))] (fun o => o = .ret (.i .i64 (lenV ((rn0 (dv s) 1 : Nat) : Int) : Int))) := Len_s ((rn0 (dv s) 1 : Nat) : Int) (by have h9 := dl_of hxb; exact Nat.lt_of_le_of_lt h9 (by decide))
  have hLy : Spec Try.prog 33 [.n false .u64 (digs B32 (rd0 (dv s) 1))] (fun o => o = .ret (.i .i64 (lenV ((rd0 (dv s) 1 : Nat) : Int) : Int))) := Len_s ((rd0 (dv s) 1 : Nat) : Int) (by have h9 := dl_of hyb; exact Nat.lt_of_le_of_lt h9 (by decide))
  have hz := h.1
  have hRn : Spec Try.prog 91 [.s s, .i .i64 0, .b false] (fun o => o = .ret (.i .i64 (s.size : Int))) := by have h9 := rrun_s s 0 (Nat.zero_le _) (by omega); rw [h.2] at h9; exact h9
  have hNu : Spec Try.prog 92 [.s s] (fun o => o = .ret (.n false .u64 (digs B32 (dv s)))) := by have h9 := rNumber_s s hd9.rng (by omega); rw [hd9.hv] at h9; exact h9
  have hI1 : Spec Try.prog 54 [.i .i64 1] (fun o => o = .ret (.n false .u64 (digs B32 1))) := by have h := rInt_s ((1 : Nat) : Int) (by decide) (by decide); rw [rInt_v (v := 1) (by decide)] at h; exact h
  refine zsr <| zas rfl (hd 2 rfl) <| zas rfl (hd 3 rfl) <| zas rfl (hd 4 rfl) <| jo_nil <| zsr <| zmv rfl (hd 10 rfl) ?_
  refine jo_call Try.f91 (hRn) rfl Try.func91 rfl rfl (ovL_cons rfl (ovL_cons rfl (ovL_cons rfl ovL_nil))) (.cons .s (.cons .i (.cons .b .nil))) (hd 11 rfl) ?_ (fun ch hp => by simp at hp)
  rintro _ ⟨⟩; refine zas rfl (hd 5 rfl) <| jo_nil <| jc_seq <| zsr <| zmv rfl (hd 12 rfl) <| jo_l (ly_ff (ly_eq rfl rfl) (by omega)) (hd 13 rfl) <| zmv rfl (hd 14 rfl) <| jo_g 14 rfl rfl (ly_mv rfl) (hd 15 rfl) <| jo_g 14 rfl rfl (ly_mv rfl) (hd 16 rfl) <| jo_g 14 rfl rfl (ly_lens und9 rfl) (hd 17 rfl) <| jo_g 14 rfl rfl (ly_ff (ly_lt rfl rfl) (by omega)) (hd 18 rfl) <| jo_g 14 rfl rfl (ly_mv rfl) (hd 19 rfl) ?_; refine jo_s 19 rfl rfl rfl (hd 20 rfl) <| jo_s 19 rfl rfl rfl (hd 21 rfl) <| jo_s 19 rfl rfl rfl (hd 22 rfl) <| jo_s 19 rfl rfl rfl (hd 23 rfl) <| jo_s 19 rfl rfl rfl (hd 24 rfl) <| jo_s' 24 rfl rfl (hd 25 rfl) <| jo_s' 24 rfl rfl (hd 26 rfl) <| jo_s' 24 rfl rfl (hd 27 rfl) <| jo_s' 24 rfl rfl (hd 28 rfl) <| jo_s' 24 rfl rfl (hd 29 rfl) <| jo_s' 24 rfl rfl (hd 30 rfl) <| jo_s' 24 rfl rfl (hd 31 rfl) <| jo_s 19 rfl rfl rfl (hd 32 rfl) ?_; refine jo_s 19 rfl rfl rfl (hd 33 rfl) <| jo_s' 33 rfl rfl (hd 34 rfl) <| jo_s' 33 rfl rfl (hd 35 rfl) <| jo_s' 33 rfl rfl (hd 36 rfl) <| jo_s' 33 rfl rfl (hd 37 rfl) <| jo_s' 33 rfl rfl (hd 38 rfl) <| jo_s 19 rfl rfl rfl (hd 39 rfl) <| jo_g 14 rfl rfl (ly_pick_f rfl rfl) (hd 40 rfl) <| jo_l (ly_pick_f rfl rfl) (hd 41 rfl) <| jo_nil <| jc_litf rfl <| jc_skip <| jc_seq ?_; refine jc_region <| zmv rfl (hd 42 rfl) <| zas rfl (hd 6 rfl) <| jo_nil <| jc_seq <| jc_region ?_
  refine jo_call Try.f54 (hI1) rfl Try.func54 rfl rfl (ovL_cons rfl ovL_nil) (.cons .i .nil) (hd 43 rfl) ?_ (fun ch hp => by simp at hp)
  rintro _ ⟨⟩; refine zas rfl (hd 7 rfl) <| jo_nil <| jc_seq <| zsr <| zmv rfl (hd 44 rfl) <| zmv rfl (hd 45 rfl) <| jo_l (ly_lens und9 rfl) (hd 46 rfl) <| jo_l (ly_ff (ly_lt rfl rfl) (by omega)) (hd 47 rfl) <| jo_nil <| jc_litf rfl <| jc_skip <| jc_seq ?_; refine jc_region <| zmv rfl (hd 63 rfl) ?_
  refine jo_call Try.f92 (hNu) rfl Try.func92 rfl rfl (ovL_cons rfl ovL_nil) (.cons .s .nil) (hd 64 rfl) ?_ (fun ch hp => by simp at hp)
  rintro _ ⟨⟩; refine zas rfl (hd 8 rfl) <| jo_nil <| zsr <| zmv rfl (hd 65 rfl) <| zmv rfl (hd 66 rfl) ?_
  refine jo_call Try.f55 (rGcd_v (dv s) 1 (by omega) (by omega)) rfl Try.func55 rfl rfl (ovL_cons rfl (ovL_cons rfl ovL_nil)) (.cons .n (.cons .n .nil)) (hd 67 rfl) ?_ (fun ch hp => by simp at hp)
  rintro _ ⟨⟩; refine zas rfl (hd 9 rfl) <| jo_nil <| zsr <| zmv rfl (hd 69 rfl) <| zmv rfl (hd 70 rfl) ?_
  refine jo_call Try.f56 (rDiv_s (dv s) (Nat.gcd (dv s) 1) (by omega) hgl hg0) rfl Try.func56 rfl rfl (ovL_cons rfl (ovL_cons rfl ovL_nil)) (.cons .n (.cons .n .nil)) (hd 71 rfl) ?_ (fun ch hp => by simp at hp)
  rintro _ ⟨⟩; refine zmv rfl (hd 68 rfl) <| jo_l (ly_ext rfl rfl) (hd 72 rfl) <| jo_l (ly_ext rfl rfl) (hd 73 rfl) <| zas rfl (hd 8 rfl) <| jo_nil <| zsr <| zmv rfl (hd 75 rfl) <| zmv rfl (hd 76 rfl) ?_
  refine jo_call Try.f56 (rDiv_s 1 (Nat.gcd (dv s) 1) (by omega) hgl hg0) rfl Try.func56 rfl rfl (ovL_cons rfl (ovL_cons rfl ovL_nil)) (.cons .n (.cons .n .nil)) (hd 77 rfl) ?_ (fun ch hp => by simp at hp)
  rintro _ ⟨⟩; refine zmv rfl (hd 74 rfl) <| jo_l (ly_ext rfl rfl) (hd 78 rfl) <| jo_l (ly_ext rfl rfl) (hd 79 rfl) <| zas rfl (hd 7 rfl) <| jo_nil <| jc_seq <| zsr <| zmv rfl (hd 80 rfl) ?_
  refine jo_call Try.f33 (hLx) rfl Try.func33 rfl rfl (ovL_cons rfl ovL_nil) (.cons .n .nil) (hd 81 rfl) ?_ (fun ch hp => by simp at hp)
  rintro _ ⟨⟩; refine jo_l (ly_ff (ly_gt rfl rfl) (by omega)) (hd 82 rfl) <| zmv rfl (hd 83 rfl) <| jo_g 83 rfl rfl (ly_mv rfl) (hd 84 rfl) ?_
  refine jo_callg Try.f33 83 rfl rfl (hLy) rfl Try.func33 rfl rfl (ovL_cons rfl ovL_nil) (.cons .n .nil) (hd 85 rfl) ?_ (fun ch hp => by simp at hp)
  rintro _ ⟨⟩; refine jo_g 83 rfl rfl (ly_ff (ly_gt rfl rfl) (by omega)) (hd 86 rfl) <| jo_l (ly_pick_f rfl rfl) (hd 87 rfl) <| jo_nil <| jc_litf rfl <| jc_skip <| zsr <| zmv rfl (hd 88 rfl) <| zmv rfl (hd 89 rfl) <| zas rfl (hd 2 rfl) <| zas rfl (hd 3 rfl) <| zas rfl (hd 4 rfl) <| jo_nil ?_; refine jc_ret ?_
  refine ⟨_, _, (.cons rfl (.cons rfl (.cons rfl .nil))), (.t1 .n (.t1 .n (.t1 .i .t0))), ?_⟩
  rfl

theorem rVal_f (s p q : ByteArray) (n : Nat) (hn : nd s 0 = n) (h : isNf s) (hs : s.size ≤ 1048576) (hp : s.extract 0 n = p) (hq : s.extract (n + 1) s.size = q) (hp9 : isD p) (hq9 : isD q) (hqz : q.size = s.size - n - 1) (hpz : p.size = n) : Spec Try.prog 36 [.s s] (fun o => o = .ret (.t [.n false .u64 (digs B32 (rn0 (dv (p ++ q)) (10 ^ q.size))), .n false .u64 (digs B32 (rd0 (dv (p ++ q)) (10 ^ q.size))), .i .i64 0])) := by
  refine spec_of' [(0, .s s)] rfl Try.func36 rfl (zlb rfl) fun Γ hN hds hL hR => ?_
  have hd := hdOf 90 hN
  have hd9 := hp9.app hq9
  have hpq : (p ++ q).size = p.size + q.size := ByteArray.size_append
  have hn1 := h.2.1
  have hn0 := h.1
  rw [hn] at hn1 hn0
  have h10z : 10 ^ q.size ≠ 0 := Nat.pos_iff_ne_zero.1 (Nat.pow_pos (by decide))
  have hx9 : lenV ((dv (p ++ q) : Nat) : Int) ≤ 67108864 := Nat.le_trans (hd9.fit (by omega)) (by decide)
  have hy9 : lenV ((10 ^ q.size : Nat) : Int) ≤ 67108864 := Nat.le_trans (PW_fit (b := 10) (n := q.size) (by decide) (by decide) (by omega)) (by decide)
  have hg0 := gcd_pos' (x := (dv (p ++ q))) (y := (10 ^ q.size)) h10z
  have hdx9 := dl_of hx9
  have hdy9 := dl_of hy9
  have hgl : (digs B32 (Nat.gcd (dv (p ++ q)) (10 ^ q.size))).length < 4294967296 := by have h9 := dl_mono (Nat.le_of_dvd (Nat.pos_iff_ne_zero.2 h10z) (Nat.gcd_dvd_right (dv (p ++ q)) (10 ^ q.size))); omega
  have hxb : lenV ((rn0 (dv (p ++ q)) (10 ^ q.size) : Nat) : Int) ≤ 67108864 := rn0_b hx9
  have hyb : lenV ((rd0 (dv (p ++ q)) (10 ^ q.size) : Nat) : Int) ≤ 67108864 := rd0_b hy9
  have hLx : Spec Try.prog 33 [.n false .u64 (digs B32 (rn0 (dv (p ++ q)) (10 ^ q.size)))] (fun o => o = .ret (.i .i64 (lenV ((rn0 (dv (p ++ q)) (10 ^ q.size) : Nat) : Int) : Int))) := Len_s ((rn0 (dv (p ++ q)) (10 ^ q.size) : Nat) : Int) (by have h9 := dl_of hxb; exact Nat.lt_of_le_of_lt h9 (by decide))
  have hLy : Spec Try.prog 33 [.n false .u64 (digs B32 (rd0 (dv (p ++ q)) (10 ^ q.size)))] (fun o => o = .ret (.i .i64 (lenV ((rd0 (dv (p ++ q)) (10 ^ q.size) : Nat) : Int) : Int))) := Len_s ((rd0 (dv (p ++ q)) (10 ^ q.size) : Nat) : Int) (by have h9 := dl_of hyb; exact Nat.lt_of_le_of_lt h9 (by decide))
  have hRn : Spec Try.prog 91 [.s s, .i .i64 0, .b false] (fun o => o = .ret (.i .i64 (n : Int))) := by have h9 := rrun_s s 0 (Nat.zero_le _) (by omega); rw [hn] at h9; exact h9
  have hRm : Spec Try.prog 91 [.s s, .i .i64 ((n + 1 : Nat) : Int), .b false] (fun o => o = .ret (.i .i64 (s.size : Int))) := by have h9 := rrun_s s (n + 1) (by omega) (by omega); have h8 := h.2.2.2; rw [hn] at h8; rw [h8] at h9; exact h9
  have h46 : byteAt s n = 46 := by have h8 := h.2.2.1; rwa [hn] at h8
  have hNu : Spec Try.prog 92 [.s (p ++ q)] (fun o => o = .ret (.n false .u64 (digs B32 (dv (p ++ q))))) := by have h9 := rNumber_s (p ++ q) hd9.rng (by omega); rw [hd9.hv] at h9; exact h9
  have hI1 : Spec Try.prog 54 [.i .i64 1] (fun o => o = .ret (.n false .u64 (digs B32 1))) := by have h := rInt_s ((1 : Nat) : Int) (by decide) (by decide); rw [rInt_v (v := 1) (by decide)] at h; exact h
  have hI10 : Spec Try.prog 54 [.i .i64 10] (fun o => o = .ret (.n false .u64 (digs B32 10))) := by have h := rInt_s ((10 : Nat) : Int) (by decide) (by decide); rw [rInt_v (v := 10) (by decide)] at h; exact h
  refine zsr <| zas rfl (hd 2 rfl) <| zas rfl (hd 3 rfl) <| zas rfl (hd 4 rfl) <| jo_nil <| zsr <| zmv rfl (hd 10 rfl) ?_
  refine jo_call Try.f91 (hRn) rfl Try.func91 rfl rfl (ovL_cons rfl (ovL_cons rfl (ovL_cons rfl ovL_nil))) (.cons .s (.cons .i (.cons .b .nil))) (hd 11 rfl) ?_ (fun ch hp => by simp at hp)
  rintro _ ⟨⟩; refine zas rfl (hd 5 rfl) <| jo_nil <| jc_seq <| zsr <| zmv rfl (hd 12 rfl) <| jo_l (ly_ff (ly_eq rfl rfl) (by omega)) (hd 13 rfl) <| zmv rfl (hd 14 rfl) <| jo_g 14 rfl rfl (ly_mv rfl) (hd 15 rfl) <| jo_g 14 rfl rfl (ly_mv rfl) (hd 16 rfl) <| jo_g 14 rfl rfl (ly_lens und9 rfl) (hd 17 rfl) <| jo_g 14 rfl rfl (ly_tt (ly_lt rfl rfl) (by omega)) (hd 18 rfl) <| jo_g 14 rfl rfl (ly_mv rfl) (hd 19 rfl) ?_; refine jo_g 19 rfl rfl (ly_mv rfl) (hd 20 rfl) <| jo_g 19 rfl rfl (ly_mv rfl) (hd 21 rfl) <| jo_g 19 rfl rfl (ly_ixs (i := n) und9 rfl rfl (by first | rfl | omega) (by omega)) (hd 22 rfl) <| jo_g 19 rfl rfl (ly_ff (ly_ne rfl rfl) (by omega)) (hd 23 rfl) <| jo_g 19 rfl rfl (ly_mv rfl) (hd 24 rfl) <| jo_g 24 rfl rfl (ly_mv rfl) (hd 25 rfl) <| jo_g 24 rfl rfl (ly_mv rfl) (hd 26 rfl) <| jo_g 24 rfl rfl (ly_add rfl rfl (r := ((n + 1 : Nat) : Int)) (by rw [wrap_i64 (by omega) (by omega)]; omega)) (hd 27 rfl) ?_
  refine jo_callg Try.f91 24 rfl rfl (hRm) rfl Try.func91 rfl rfl (ovL_cons rfl (ovL_cons rfl (ovL_cons rfl ovL_nil))) (.cons .s (.cons .i (.cons .b .nil))) (hd 28 rfl) ?_ (fun ch hp => by simp at hp)
  rintro _ ⟨⟩; refine jo_g 24 rfl rfl (ly_mv rfl) (hd 29 rfl) <| jo_g 24 rfl rfl (ly_lens und9 rfl) (hd 30 rfl) <| jo_g 24 rfl rfl (ly_ff (ly_ne rfl rfl) (by omega)) (hd 31 rfl) <| jo_g 19 rfl rfl (ly_pick_f rfl rfl) (hd 32 rfl) <| jo_g 19 rfl rfl (ly_mv rfl) (hd 33 rfl) <| jo_g 33 rfl rfl (ly_mv rfl) (hd 34 rfl) <| jo_g 33 rfl rfl (ly_add rfl rfl (r := ((n + 1 : Nat) : Int)) (by rw [wrap_i64 (by omega) (by omega)]; omega)) (hd 35 rfl) <| jo_g 33 rfl rfl (ly_mv rfl) (hd 36 rfl) <| jo_g 33 rfl rfl (ly_lens und9 rfl) (hd 37 rfl) <| jo_g 33 rfl rfl (ly_ff (ly_eq rfl rfl) (by omega)) (hd 38 rfl) <| jo_g 19 rfl rfl (ly_pick_f rfl rfl) (hd 39 rfl) <| jo_g 14 rfl rfl (ly_pick_t rfl rfl) (hd 40 rfl) <| jo_l (ly_pick_f rfl rfl) (hd 41 rfl) ?_; refine jo_nil <| jc_litf rfl <| jc_skip <| zsr <| zmv rfl (hd 42 rfl) <| zas rfl (hd 6 rfl) <| jo_nil <| jc_seq <| jc_region ?_
  refine jo_call Try.f54 (hI1) rfl Try.func54 rfl rfl (ovL_cons rfl ovL_nil) (.cons .i .nil) (hd 43 rfl) ?_ (fun ch hp => by simp at hp)
  rintro _ ⟨⟩; refine zas rfl (hd 7 rfl) <| jo_nil <| jc_seq <| zsr <| zmv rfl (hd 44 rfl) <| zmv rfl (hd 45 rfl) <| jo_l (ly_lens und9 rfl) (hd 46 rfl) <| jo_l (ly_tt (ly_lt rfl rfl) (by omega)) (hd 47 rfl) <| jo_nil <| jc_litt rfl <| jc_seq <| jc_draw (n := 9) _ rfl mixed ?_; refine zal2 0 [2, 7, 8] (lo_l (ly_mv rfl) (hd 48 rfl)) rfl <| zal2 1 [2, 7, 8] (lo_l (ly_mv rfl) (hd 49 rfl)) rfl <| zal 2 (lo_l (ly_is (ly_sls und9 rfl bnd_none (bnd_some' rfl (by first | rfl | omega)) (by omega) (by omega)) (congrArg V.s hp)) (hd 50 rfl)) rfl <| zal2 3 [6, 7, 8] (lo_l (ly_mv rfl) (hd 51 rfl)) rfl <| zal2 4 [5, 6, 7, 8] (lo_l (ly_mv rfl) (hd 52 rfl)) rfl <| zal2 5 [6, 7, 8] (lo_l (ly_add rfl rfl (r := ((n + 1 : Nat) : Int)) (by rw [wrap_i64 (by omega) (by omega)]; omega)) (hd 53 rfl)) rfl <| zal 6 (lo_l (ly_is (ly_sls und9 rfl (bnd_some' rfl (by first | rfl | omega)) bnd_none (by omega) (by omega)) (congrArg V.s hq)) (hd 54 rfl)) rfl <| zal 7 (lo_l (ly_adds rfl rfl (by have e9 : IntKind.i64.max = 9223372036854775807 := rfl; omega)) (hd 55 rfl)) rfl <| zal 8 (lo_l (ly_as rfl) (hd 6 rfl)) rfl <| ja_nil (by kernel_rfl) <| jc_region ?_
  refine jo_call Try.f54 (hI10) rfl Try.func54 rfl rfl (ovL_cons rfl ovL_nil) (.cons .i .nil) (hd 56 rfl) ?_ (fun ch hp => by simp at hp)
  rintro _ ⟨⟩; refine zmv rfl (hd 57 rfl) <| jo_l (ly_lens und9 rfl) (hd 58 rfl) <| zmv rfl (hd 59 rfl) <| jo_l (ly_sub rfl rfl (r := ((s.size - n : Nat) : Int)) (by rw [wrap_i64 (by omega) (by omega)]; omega)) (hd 60 rfl) <| jo_l (ly_sub rfl rfl (r := ((q.size : Nat) : Int)) (by rw [wrap_i64 (by omega) (by omega)]; omega)) (hd 61 rfl) ?_
  refine jo_call Try.f79 (rPow_s q.size (by omega)) rfl Try.func79 rfl rfl (ovL_cons rfl (ovL_cons rfl ovL_nil)) (.cons .n (.cons .i .nil)) (hd 62 rfl) ?_ (fun ch hp => by simp at hp)
  rintro _ ⟨⟩; refine zas rfl (hd 7 rfl) <| jo_nil <| zsr <| zmv rfl (hd 63 rfl) ?_
  refine jo_call Try.f92 (hNu) rfl Try.func92 rfl rfl (ovL_cons rfl ovL_nil) (.cons .s .nil) (hd 64 rfl) ?_ (fun ch hp => by simp at hp)
  rintro _ ⟨⟩; refine zas rfl (hd 8 rfl) <| jo_nil <| zsr <| zmv rfl (hd 65 rfl) <| zmv rfl (hd 66 rfl) ?_
  refine jo_call Try.f55 (rGcd_v (dv (p ++ q)) (10 ^ q.size) (by omega) (by omega)) rfl Try.func55 rfl rfl (ovL_cons rfl (ovL_cons rfl ovL_nil)) (.cons .n (.cons .n .nil)) (hd 67 rfl) ?_ (fun ch hp => by simp at hp)
  rintro _ ⟨⟩; refine zas rfl (hd 9 rfl) <| jo_nil <| zsr <| zmv rfl (hd 69 rfl) <| zmv rfl (hd 70 rfl) ?_
  refine jo_call Try.f56 (rDiv_s (dv (p ++ q)) (Nat.gcd (dv (p ++ q)) (10 ^ q.size)) (by omega) hgl hg0) rfl Try.func56 rfl rfl (ovL_cons rfl (ovL_cons rfl ovL_nil)) (.cons .n (.cons .n .nil)) (hd 71 rfl) ?_ (fun ch hp => by simp at hp)
  rintro _ ⟨⟩; refine zmv rfl (hd 68 rfl) <| jo_l (ly_ext rfl rfl) (hd 72 rfl) <| jo_l (ly_ext rfl rfl) (hd 73 rfl) <| zas rfl (hd 8 rfl) <| jo_nil <| zsr <| zmv rfl (hd 75 rfl) <| zmv rfl (hd 76 rfl) ?_
  refine jo_call Try.f56 (rDiv_s (10 ^ q.size) (Nat.gcd (dv (p ++ q)) (10 ^ q.size)) (by omega) hgl hg0) rfl Try.func56 rfl rfl (ovL_cons rfl (ovL_cons rfl ovL_nil)) (.cons .n (.cons .n .nil)) (hd 77 rfl) ?_ (fun ch hp => by simp at hp)
  rintro _ ⟨⟩; refine zmv rfl (hd 74 rfl) <| jo_l (ly_ext rfl rfl) (hd 78 rfl) <| jo_l (ly_ext rfl rfl) (hd 79 rfl) <| zas rfl (hd 7 rfl) <| jo_nil <| jc_seq <| zsr <| zmv rfl (hd 80 rfl) ?_
  refine jo_call Try.f33 (hLx) rfl Try.func33 rfl rfl (ovL_cons rfl ovL_nil) (.cons .n .nil) (hd 81 rfl) ?_ (fun ch hp => by simp at hp)
  rintro _ ⟨⟩; refine jo_l (ly_ff (ly_gt rfl rfl) (by omega)) (hd 82 rfl) <| zmv rfl (hd 83 rfl) <| jo_g 83 rfl rfl (ly_mv rfl) (hd 84 rfl) ?_
  refine jo_callg Try.f33 83 rfl rfl (hLy) rfl Try.func33 rfl rfl (ovL_cons rfl ovL_nil) (.cons .n .nil) (hd 85 rfl) ?_ (fun ch hp => by simp at hp)
  rintro _ ⟨⟩; refine jo_g 83 rfl rfl (ly_ff (ly_gt rfl rfl) (by omega)) (hd 86 rfl) <| jo_l (ly_pick_f rfl rfl) (hd 87 rfl) <| jo_nil <| jc_litf rfl <| jc_skip <| zsr <| zmv rfl (hd 88 rfl) <| zmv rfl (hd 89 rfl) <| zas rfl (hd 2 rfl) <| zas rfl (hd 3 rfl) <| zas rfl (hd 4 rfl) <| jo_nil ?_; refine jc_ret ?_
  refine ⟨_, _, (.cons rfl (.cons rfl (.cons rfl .nil))), (.t1 .n (.t1 .n (.t1 .i .t0))), ?_⟩
  rfl

theorem rVal_e (s : ByteArray) (h1 : ¬ isNi s) (h2 : ¬ isNf s) (hs : s.size ≤ 1048576) : Spec Try.prog 36 [.s s] (fun o => o = .ret (.t [.n false .u64 [], .n false .u64 [], .i .i64 141])) := by
  refine spec_of' [(0, .s s)] rfl Try.func36 rfl (zlb rfl) fun Γ hN hds hL hR => ?_
  have hd := hdOf 90 hN
  have hno := no_ref h1 h2
  have hnl := (nd_le (s := s) (j := 0) (Nat.zero_le _)).2
  have hRn : Spec Try.prog 91 [.s s, .i .i64 0, .b false] (fun o => o = .ret (.i .i64 ((nd s 0 : Nat) : Int))) := rrun_s s 0 (Nat.zero_le _) (by omega)
  refine zsr <| zas rfl (hd 2 rfl) <| zas rfl (hd 3 rfl) <| zas rfl (hd 4 rfl) <| jo_nil <| zsr <| zmv rfl (hd 10 rfl) ?_
  refine jo_call Try.f91 (hRn) rfl Try.func91 rfl rfl (ovL_cons rfl (ovL_cons rfl (ovL_cons rfl ovL_nil))) (.cons .s (.cons .i (.cons .b .nil))) (hd 11 rfl) ?_ (fun ch hp => by simp at hp)
  rintro _ ⟨⟩; refine zas rfl (hd 5 rfl) <| jo_nil <| jc_seq <| zsr <| zmv rfl (hd 12 rfl) <| jo_l (ly_eq rfl rfl) (hd 13 rfl) <| zmv rfl (hd 14 rfl) ?_
  refine jo_ifp 14 rfl (fun h1 => ?_) (fun h1 => ?_)
  · refine jo_s 14 rfl rfl rfl (hd 15 rfl) <| jo_s 14 rfl rfl rfl (hd 16 rfl) <| jo_s 14 rfl rfl rfl (hd 17 rfl) <| jo_s 14 rfl rfl rfl (hd 18 rfl) <| jo_s 14 rfl rfl rfl (hd 19 rfl) <| jo_s' 19 rfl rfl (hd 20 rfl) <| jo_s' 19 rfl rfl (hd 21 rfl) <| jo_s' 19 rfl rfl (hd 22 rfl) <| jo_s' 19 rfl rfl (hd 23 rfl) <| jo_s' 19 rfl rfl (hd 24 rfl) <| jo_s' 24 rfl rfl (hd 25 rfl) <| jo_s' 24 rfl rfl (hd 26 rfl) <| jo_s' 24 rfl rfl (hd 27 rfl) ?_; refine jo_s' 24 rfl rfl (hd 28 rfl) <| jo_s' 24 rfl rfl (hd 29 rfl) <| jo_s' 24 rfl rfl (hd 30 rfl) <| jo_s' 24 rfl rfl (hd 31 rfl) <| jo_s' 19 rfl rfl (hd 32 rfl) <| jo_s' 19 rfl rfl (hd 33 rfl) <| jo_s' 33 rfl rfl (hd 34 rfl) <| jo_s' 33 rfl rfl (hd 35 rfl) <| jo_s' 33 rfl rfl (hd 36 rfl) <| jo_s' 33 rfl rfl (hd 37 rfl) <| jo_s' 33 rfl rfl (hd 38 rfl) <| jo_s' 19 rfl rfl (hd 39 rfl) <| jo_s 14 rfl rfl rfl (hd 40 rfl) ?_; refine jo_l (ly_pick_t rfl rfl) (hd 41 rfl) <| jo_nil <| jc_litt rfl <| zsr <| zas rfl (hd 2 rfl) <| zas rfl (hd 3 rfl) <| zas rfl (hd 4 rfl) <| jo_nil <| jc_ret ?_
    refine ⟨_, _, (.cons rfl (.cons rfl (.cons rfl .nil))), (.t1 (.nil (fr := false) (k := .u64)) (.t1 (.nil (fr := false) (k := .u64)) (.t1 .i .t0))), ?_⟩
    rfl
  · refine jo_g 14 rfl rfl (ly_mv rfl) (hd 15 rfl) <| jo_g 14 rfl rfl (ly_mv rfl) (hd 16 rfl) <| jo_g 14 rfl rfl (ly_lens und9 rfl) (hd 17 rfl) <| jo_g 14 rfl rfl (ly_lt rfl rfl) (hd 18 rfl) <| jo_g 14 rfl rfl (ly_mv rfl) (hd 19 rfl) ?_
    refine jo_ifp 19 rfl (fun h3 => ?_) (fun h3 => ?_)
    · refine jo_g 19 rfl rfl (ly_mv rfl) (hd 20 rfl) <| jo_g 19 rfl rfl (ly_mv rfl) (hd 21 rfl) <| jo_g 19 rfl rfl (ly_ixs (i := (nd s 0)) und9 rfl rfl (by first | rfl | omega) (by omega)) (hd 22 rfl) <| jo_g 19 rfl rfl (ly_ne rfl rfl) (hd 23 rfl) <| jo_g 19 rfl rfl (ly_mv rfl) (hd 24 rfl) ?_
      refine jo_ifp 24 rfl (fun h4 => ?_) (fun h4 => ?_)
      · refine jo_s 24 rfl rfl rfl (hd 25 rfl) <| jo_s 24 rfl rfl rfl (hd 26 rfl) <| jo_s 24 rfl rfl rfl (hd 27 rfl) <| jo_s 24 rfl rfl rfl (hd 28 rfl) <| jo_s 24 rfl rfl rfl (hd 29 rfl) <| jo_s 24 rfl rfl rfl (hd 30 rfl) <| jo_s 24 rfl rfl rfl (hd 31 rfl) <| jo_g 19 rfl rfl (ly_pick_t rfl rfl) (hd 32 rfl) <| jo_g 19 rfl rfl (ly_mv rfl) (hd 33 rfl) <| jo_s 33 rfl rfl rfl (hd 34 rfl) <| jo_s 33 rfl rfl rfl (hd 35 rfl) <| jo_s 33 rfl rfl rfl (hd 36 rfl) <| jo_s 33 rfl rfl rfl (hd 37 rfl) ?_; refine jo_s 33 rfl rfl rfl (hd 38 rfl) <| jo_g 19 rfl rfl (ly_pick_t rfl rfl) (hd 39 rfl) <| jo_g 14 rfl rfl (ly_pick_t rfl rfl) (hd 40 rfl) <| jo_l (ly_pick_f rfl rfl) (hd 41 rfl) <| jo_nil <| jc_litt rfl <| zsr <| zas rfl (hd 2 rfl) <| zas rfl (hd 3 rfl) <| zas rfl (hd 4 rfl) <| jo_nil <| jc_ret ?_
        refine ⟨_, _, (.cons rfl (.cons rfl (.cons rfl .nil))), (.t1 (.nil (fr := false) (k := .u64)) (.t1 (.nil (fr := false) (k := .u64)) (.t1 .i .t0))), ?_⟩
        rfl
      · refine jo_g 24 rfl rfl (ly_mv rfl) (hd 25 rfl) <| jo_g 24 rfl rfl (ly_mv rfl) (hd 26 rfl) <| jo_g 24 rfl rfl (ly_add rfl rfl (r := ((nd s 0 + 1 : Nat) : Int)) (by rw [wrap_i64 (by omega) (by omega)]; omega)) (hd 27 rfl) ?_
        refine jo_callg Try.f91 24 rfl rfl (rrun_s s (nd s 0 + 1) (by omega) (by omega)) rfl Try.func91 rfl rfl (ovL_cons rfl (ovL_cons rfl (ovL_cons rfl ovL_nil))) (.cons .s (.cons .i (.cons .b .nil))) (hd 28 rfl) ?_ (fun ch hp => by simp at hp)
        rintro _ ⟨⟩; refine jo_g 24 rfl rfl (ly_mv rfl) (hd 29 rfl) <| jo_g 24 rfl rfl (ly_lens und9 rfl) (hd 30 rfl) <| jo_g 24 rfl rfl (ly_ne rfl rfl) (hd 31 rfl) <| jo_g 19 rfl rfl (ly_pick_f rfl rfl) (hd 32 rfl) <| jo_g 19 rfl rfl (ly_mv rfl) (hd 33 rfl) ?_
        refine jo_ifp 33 rfl (fun h6 => ?_) (fun h6 => ?_)
        · refine jo_s 33 rfl rfl rfl (hd 34 rfl) <| jo_s 33 rfl rfl rfl (hd 35 rfl) <| jo_s 33 rfl rfl rfl (hd 36 rfl) <| jo_s 33 rfl rfl rfl (hd 37 rfl) <| jo_s 33 rfl rfl rfl (hd 38 rfl) <| jo_g 19 rfl rfl (ly_pick_t rfl rfl) (hd 39 rfl) <| jo_g 14 rfl rfl (ly_pick_t rfl rfl) (hd 40 rfl) <| jo_l (ly_pick_f rfl rfl) (hd 41 rfl) <| jo_nil <| jc_litt rfl <| zsr <| zas rfl (hd 2 rfl) ?_; refine zas rfl (hd 3 rfl) <| zas rfl (hd 4 rfl) <| jo_nil <| jc_ret ?_
          refine ⟨_, _, (.cons rfl (.cons rfl (.cons rfl .nil))), (.t1 (.nil (fr := false) (k := .u64)) (.t1 (.nil (fr := false) (k := .u64)) (.t1 .i .t0))), ?_⟩
          rfl
        · refine jo_g 33 rfl rfl (ly_mv rfl) (hd 34 rfl) <| jo_g 33 rfl rfl (ly_add rfl rfl (r := ((nd s 0 + 1 : Nat) : Int)) (by rw [wrap_i64 (by omega) (by omega)]; omega)) (hd 35 rfl) <| jo_g 33 rfl rfl (ly_mv rfl) (hd 36 rfl) <| jo_g 33 rfl rfl (ly_lens und9 rfl) (hd 37 rfl) <| jo_g 33 rfl rfl (ly_eq rfl rfl) (hd 38 rfl) <| jo_g 19 rfl rfl (ly_pick_f rfl rfl) (hd 39 rfl) <| jo_g 14 rfl rfl (ly_pick_t rfl rfl) (hd 40 rfl) <| jo_l (ly_pick_f rfl rfl) (hd 41 rfl) <| jo_nil ?_
          refine jc_if rfl (fun h8 => ?_) (fun h8 => ?_)
          · refine zsr <| zas rfl (hd 2 rfl) <| zas rfl (hd 3 rfl) <| zas rfl (hd 4 rfl) <| jo_nil <| jc_ret ?_
            refine ⟨_, _, (.cons rfl (.cons rfl (.cons rfl .nil))), (.t1 (.nil (fr := false) (k := .u64)) (.t1 (.nil (fr := false) (k := .u64)) (.t1 .i .t0))), ?_⟩
            rfl
          · exfalso; omega
    · exfalso; omega

theorem Value_y (s : ByteArray) (hs : s.size ≤ 1048576) (X W : Nat) (hn : lx_nx s 0 = (0, s.extract 0 s.size, 0, s.size, true)) (hP : SpecM Try.prog 30 [.s s] [] (fun o G => o = .ret (.t [.a [.b false, .o 0 0 0 (lm (X : Int)).length, .o 1 0 0 (lm (W : Int)).length], .i .i64 0]) ∧ G = [⟨67, 1, 0, true, ints .u64 (lm (X : Int))⟩, ⟨67, 1, 0, true, ints .u64 (lm (W : Int))⟩])) : SpecM Try.prog 35 [.s s] [] (fun o G => o = .ret (.t [.a [.b false, .o 0 0 0 (lm (X : Int)).length, .o 1 0 0 (lm (W : Int)).length], .i .i64 0]) ∧ G = [⟨67, 1, 0, true, ints .u64 (lm (X : Int))⟩, ⟨67, 1, 0, true, ints .u64 (lm (W : Int))⟩]) := by
  refine specS_of [(0, .s s)] rfl Try.func35 rfl (zlb rfl) fun Γ hN hds hL hR => ?_
  have hd := hdOf 38 hN
  have hNx : Spec Try.prog 90 [.q lx_tbl, .s s, .i .i64 0] (fun o => o = .ret (.t [.a [.i .i64 0, .s (s.extract 0 s.size), .i .i64 0], .i .i64 (s.size : Int), .b true])) := by have h9 := lx_next_s s 0 (Nat.zero_le _) (by omega); rw [hn] at h9; exact h9
  refine zsr <| jo_h (hy_alloc (id := 0) zero1028 (by decide) rfl (by decide) rfl) (hd 2 rfl) <| zas rfl (hd 3 rfl) <| jo_nil <| jc_seq <| jc_region ?_
  refine jo_call Try.f89 (lx_classes_s) rfl Try.func89 rfl rfl ovL_nil .nil (hd 8 rfl) ?_ (fun ch hp => by simp at hp)
  rintro _ ⟨⟩; refine jo_h (hy_alloc (id := 1) zero1110 (by kernel_rfl) List.length_replicate (by decide) rfl) (hd 4 rfl) <| jo_st (sy_store rfl rfl rfl siz1110 lx_tbl_len ints_one lx_tbl_fit) <| jo_nil <| jc_seq <| lx_jc_tbl 4 rfl rfl hL <| jc_region <| zmv rfl (hd 10 rfl) ?_
  refine jo_call Try.f90 (hNx) rfl Try.func90 rfl rfl (ovL_cons rfl (ovL_cons rfl (ovL_cons rfl ovL_nil))) (.cons .q (.cons .s (.cons .i .nil))) (hd 11 rfl) ?_ (fun ch hp => by simp at hp)
  rintro _ ⟨⟩; refine zmv rfl (hd 9 rfl) <| jo_l (ly_ext rfl rfl) (hd 12 rfl) <| jo_l (ly_ext rfl rfl) (hd 13 rfl) <| jo_l (ly_ext rfl rfl) (hd 14 rfl) <| jo_h (hy_alloc (id := 2) zero1114 (by decide) rfl (by decide) rfl) (hd 5 rfl) <| jo_st (sy_store rfl rfl rfl siz1114 rfl rfl (zlb rfl)) <| zas rfl (hd 6 rfl) <| zas rfl (hd 7 rfl) <| jo_nil <| jc_seq <| zsr <| zmv rfl (hd 15 rfl) ?_; refine jo_l (ly_not rfl) (hd 16 rfl) <| zmv rfl (hd 17 rfl) <| jo_g 17 rfl rfl (ly_fa fld1114_0 rfl rfl rfl) (hd 18 rfl) <| jo_g 17 rfl rfl (ly_ld one1112 rfl rfl rfl) (hd 19 rfl) <| jo_g 17 rfl rfl (ly_ff (ly_ne rfl rfl) (by decide)) (hd 20 rfl) <| jo_l (ly_pick_f rfl rfl) (hd 21 rfl) <| zmv rfl (hd 22 rfl) <| jo_g 22 rfl rfl (ly_mv rfl) (hd 23 rfl) <| jo_g 22 rfl rfl (ly_mv rfl) (hd 24 rfl) <| jo_g 22 rfl rfl (ly_lens und9 rfl) (hd 25 rfl) <| jo_g 22 rfl rfl (ly_ff (ly_ne rfl rfl) (by omega)) (hd 26 rfl) <| jo_l (ly_pick_f rfl rfl) (hd 27 rfl) <| zmv rfl (hd 28 rfl) ?_; refine jo_g 28 rfl rfl (ly_fa fld1114_2 rfl rfl rfl) (hd 29 rfl) <| jo_g 28 rfl rfl (ly_ld one3 rfl rfl rfl) (hd 30 rfl) <| jo_g 28 rfl rfl (ly_ff (ly_ne rfl rfl) (by decide)) (hd 31 rfl) <| jo_l (ly_pick_f rfl rfl) (hd 32 rfl) <| jo_nil <| jc_litf rfl <| jc_skip <| zsr <| zmv rfl (hd 34 rfl) ?_
  refine jo_callN Try.f30 (hP) (fun o G ⟨_, h⟩ => h ▸ idless_cons ints_id (idless_cons ints_id idless_nil)) rfl Try.func30 rfl rfl (ovL_cons rfl ovL_nil) (.cons .s .nil) (hd 35 rfl) ?_ (fun ch G hp => by simp at hp)
  rintro y G ⟨hy, rfl⟩; injection hy with hy; subst hy
  show JO _ _ _ _ ((35, .t [.a [.b false, .o 3 0 0 (lm (X : Int)).length, .o 4 0 0 (lm (W : Int)).length], .i .i64 0]) :: _) _ _
  refine jo_l (ly_ext rfl rfl) (hd 36 rfl) <| jo_l (ly_ext rfl rfl) (hd 37 rfl) <| jo_st (sy_store rfl rfl rfl siz1028 rfl rfl (zlb rfl)) <| zas rfl (hd 3 rfl) <| jo_nil <| jc_ret ?_
  refine ⟨[3, 4], _, (.t [.a [.b false, .o 0 0 0 (lm (X : Int)).length, .o 1 0 0 (lm (W : Int)).length], .i .i64 0]), (.cons (ResV.cell agg1028 rfl rfl rfl rfl) (.cons rfl .nil)), rfl, rfl, (by decide), (idless_cons ints_id (idless_cons ints_id idless_nil)), ?_⟩
  exact ⟨rfl, rfl⟩

theorem Value_e1 (s : ByteArray) (hs : s.size ≤ 1048576) (k : Int) (t : ByteArray) (pl e : Nat) (hn : lx_nx s 0 = (k, t, pl, e, false)) : Spec Try.prog 35 [.s s] (fun o => o = .ret (.t [(.a [.b false, .n false .u64 [], .n false .u64 []]), .i .i64 141])) := by
  refine spec_of' [(0, .s s)] rfl Try.func35 rfl (zlb rfl) fun Γ hN hds hL hR => ?_
  have hd := hdOf 38 hN
  have hNx : Spec Try.prog 90 [.q lx_tbl, .s s, .i .i64 0] (fun o => o = .ret (.t [.a [.i .i64 k, .s t, .i .i64 (pl : Int)], .i .i64 (e : Int), .b false])) := by have h9 := lx_next_s s 0 (Nat.zero_le _) (by omega); rw [hn] at h9; exact h9
  refine zsr <| jo_h (hy_alloc (id := 0) zero1028 (by decide) rfl (by decide) rfl) (hd 2 rfl) <| zas rfl (hd 3 rfl) <| jo_nil <| jc_seq <| jc_region ?_
  refine jo_call Try.f89 (lx_classes_s) rfl Try.func89 rfl rfl ovL_nil .nil (hd 8 rfl) ?_ (fun ch hp => by simp at hp)
  rintro _ ⟨⟩; refine jo_h (hy_alloc (id := 1) zero1110 (by kernel_rfl) List.length_replicate (by decide) rfl) (hd 4 rfl) <| jo_st (sy_store rfl rfl rfl siz1110 lx_tbl_len ints_one lx_tbl_fit) <| jo_nil <| jc_seq <| lx_jc_tbl 4 rfl rfl hL <| jc_region <| zmv rfl (hd 10 rfl) ?_
  refine jo_call Try.f90 (hNx) rfl Try.func90 rfl rfl (ovL_cons rfl (ovL_cons rfl (ovL_cons rfl ovL_nil))) (.cons .q (.cons .s (.cons .i .nil))) (hd 11 rfl) ?_ (fun ch hp => by simp at hp)
  rintro _ ⟨⟩; refine zmv rfl (hd 9 rfl) <| jo_l (ly_ext rfl rfl) (hd 12 rfl) <| jo_l (ly_ext rfl rfl) (hd 13 rfl) <| jo_l (ly_ext rfl rfl) (hd 14 rfl) <| jo_h (hy_alloc (id := 2) zero1114 (by decide) rfl (by decide) rfl) (hd 5 rfl) <| jo_st (sy_store rfl rfl rfl siz1114 rfl rfl (zlb rfl)) <| zas rfl (hd 6 rfl) <| zas rfl (hd 7 rfl) <| jo_nil <| jc_seq <| zsr <| zmv rfl (hd 15 rfl) ?_; refine jo_l (ly_not rfl) (hd 16 rfl) <| zmv rfl (hd 17 rfl) <| jo_s 17 rfl rfl rfl (hd 18 rfl) <| jo_s 17 rfl rfl rfl (hd 19 rfl) <| jo_s 17 rfl rfl rfl (hd 20 rfl) <| jo_l (ly_pick_t rfl rfl) (hd 21 rfl) <| zmv rfl (hd 22 rfl) <| jo_s 22 rfl rfl rfl (hd 23 rfl) <| jo_s 22 rfl rfl rfl (hd 24 rfl) <| jo_s 22 rfl rfl rfl (hd 25 rfl) <| jo_s 22 rfl rfl rfl (hd 26 rfl) <| jo_l (ly_pick_t rfl rfl) (hd 27 rfl) <| zmv rfl (hd 28 rfl) ?_; refine jo_s 28 rfl rfl rfl (hd 29 rfl) <| jo_s 28 rfl rfl rfl (hd 30 rfl) <| jo_s 28 rfl rfl rfl (hd 31 rfl) <| jo_l (ly_pick_t rfl rfl) (hd 32 rfl) <| jo_nil <| jc_litt rfl <| zsr <| jo_l (ly_build (is := []) (xs := []) (pls := []) zero1028 pls1028_ rfl ovL_nil rfl trivial (all_of rfl) rfl) (hd 33 rfl) <| jo_st (sy_store rfl rfl rfl siz1028 rfl rfl (zlb rfl)) <| zas rfl (hd 3 rfl) <| jo_nil <| jc_ret ?_
  refine ⟨_, _, (.cons (ResV.cell agg1028 rfl rfl rfl rfl) (.cons rfl .nil)), (.t1 (.a1 .b (.a1 (.nil (fr := false) (k := .u64)) (.a1 (.nil (fr := false) (k := .u64)) .a0))) (.t1 .i .t0)), ?_⟩
  rfl

theorem Value_e2 (s : ByteArray) (hs : s.size ≤ 1048576) (k : Int) (t : ByteArray) (pl e : Nat) (hn : lx_nx s 0 = (k, t, pl, e, true)) (hno : ¬ (k = 0 ∧ e = s.size ∧ pl = 0)) : Spec Try.prog 35 [.s s] (fun o => o = .ret (.t [(.a [.b false, .n false .u64 [], .n false .u64 []]), .i .i64 141])) := by
  refine spec_of' [(0, .s s)] rfl Try.func35 rfl (zlb rfl) fun Γ hN hds hL hR => ?_
  have hd := hdOf 38 hN
  have hNx : Spec Try.prog 90 [.q lx_tbl, .s s, .i .i64 0] (fun o => o = .ret (.t [.a [.i .i64 k, .s t, .i .i64 (pl : Int)], .i .i64 (e : Int), .b true])) := by have h9 := lx_next_s s 0 (Nat.zero_le _) (by omega); rw [hn] at h9; exact h9
  refine zsr <| jo_h (hy_alloc (id := 0) zero1028 (by decide) rfl (by decide) rfl) (hd 2 rfl) <| zas rfl (hd 3 rfl) <| jo_nil <| jc_seq <| jc_region ?_
  refine jo_call Try.f89 (lx_classes_s) rfl Try.func89 rfl rfl ovL_nil .nil (hd 8 rfl) ?_ (fun ch hp => by simp at hp)
  rintro _ ⟨⟩; refine jo_h (hy_alloc (id := 1) zero1110 (by kernel_rfl) List.length_replicate (by decide) rfl) (hd 4 rfl) <| jo_st (sy_store rfl rfl rfl siz1110 lx_tbl_len ints_one lx_tbl_fit) <| jo_nil <| jc_seq <| lx_jc_tbl 4 rfl rfl hL <| jc_region <| zmv rfl (hd 10 rfl) ?_
  refine jo_call Try.f90 (hNx) rfl Try.func90 rfl rfl (ovL_cons rfl (ovL_cons rfl (ovL_cons rfl ovL_nil))) (.cons .q (.cons .s (.cons .i .nil))) (hd 11 rfl) ?_ (fun ch hp => by simp at hp)
  rintro _ ⟨⟩; refine zmv rfl (hd 9 rfl) <| jo_l (ly_ext rfl rfl) (hd 12 rfl) <| jo_l (ly_ext rfl rfl) (hd 13 rfl) <| jo_l (ly_ext rfl rfl) (hd 14 rfl) <| jo_h (hy_alloc (id := 2) zero1114 (by decide) rfl (by decide) rfl) (hd 5 rfl) <| jo_st (sy_store rfl rfl rfl siz1114 rfl rfl (zlb rfl)) <| zas rfl (hd 6 rfl) <| zas rfl (hd 7 rfl) <| jo_nil <| jc_seq <| zsr <| zmv rfl (hd 15 rfl) ?_; refine jo_l (ly_not rfl) (hd 16 rfl) <| zmv rfl (hd 17 rfl) <| jo_g 17 rfl rfl (ly_fa fld1114_0 rfl rfl rfl) (hd 18 rfl) <| jo_g 17 rfl rfl (ly_ld one1112 rfl rfl rfl) (hd 19 rfl) <| jo_g 17 rfl rfl (ly_ne rfl rfl) (hd 20 rfl) <| jo_l (ly_pick_f rfl rfl) (hd 21 rfl) <| zmv rfl (hd 22 rfl) ?_
  refine jo_ifp 22 rfl (fun h1 => ?_) (fun h1 => ?_)
  · refine jo_s 22 rfl rfl rfl (hd 23 rfl) <| jo_s 22 rfl rfl rfl (hd 24 rfl) <| jo_s 22 rfl rfl rfl (hd 25 rfl) <| jo_s 22 rfl rfl rfl (hd 26 rfl) <| jo_l (ly_pick_t rfl rfl) (hd 27 rfl) <| zmv rfl (hd 28 rfl) <| jo_s 28 rfl rfl rfl (hd 29 rfl) <| jo_s 28 rfl rfl rfl (hd 30 rfl) <| jo_s 28 rfl rfl rfl (hd 31 rfl) <| jo_l (ly_pick_t rfl rfl) (hd 32 rfl) <| jo_nil <| jc_litt rfl <| jc_seq ?_; refine jc_region <| jo_l (ly_build (is := []) (xs := []) (pls := []) zero1028 pls1028_ rfl ovL_nil rfl trivial (all_of rfl) rfl) (hd 33 rfl) <| jo_st (sy_store rfl rfl rfl siz1028 rfl rfl (zlb rfl)) <| zas rfl (hd 3 rfl) <| jo_nil <| jc_ret ?_
    refine ⟨_, _, (.cons (ResV.cell agg1028 rfl rfl rfl rfl) (.cons rfl .nil)), (.t1 (.a1 .b (.a1 (.nil (fr := false) (k := .u64)) (.a1 (.nil (fr := false) (k := .u64)) .a0))) (.t1 .i .t0)), ?_⟩
    rfl
  · refine jo_g 22 rfl rfl (ly_mv rfl) (hd 23 rfl) <| jo_g 22 rfl rfl (ly_mv rfl) (hd 24 rfl) <| jo_g 22 rfl rfl (ly_lens und9 rfl) (hd 25 rfl) <| jo_g 22 rfl rfl (ly_ne rfl rfl) (hd 26 rfl) <| jo_l (ly_pick_f rfl rfl) (hd 27 rfl) <| zmv rfl (hd 28 rfl) ?_
    refine jo_ifp 28 rfl (fun h3 => ?_) (fun h3 => ?_)
    · refine jo_s 28 rfl rfl rfl (hd 29 rfl) <| jo_s 28 rfl rfl rfl (hd 30 rfl) <| jo_s 28 rfl rfl rfl (hd 31 rfl) <| jo_l (ly_pick_t rfl rfl) (hd 32 rfl) <| jo_nil <| jc_litt rfl <| zsr <| jo_l (ly_build (is := []) (xs := []) (pls := []) zero1028 pls1028_ rfl ovL_nil rfl trivial (all_of rfl) rfl) (hd 33 rfl) <| jo_st (sy_store rfl rfl rfl siz1028 rfl rfl (zlb rfl)) <| zas rfl (hd 3 rfl) <| jo_nil <| jc_ret ?_
      refine ⟨_, _, (.cons (ResV.cell agg1028 rfl rfl rfl rfl) (.cons rfl .nil)), (.t1 (.a1 .b (.a1 (.nil (fr := false) (k := .u64)) (.a1 (.nil (fr := false) (k := .u64)) .a0))) (.t1 .i .t0)), ?_⟩
      rfl
    · refine jo_g 28 rfl rfl (ly_fa fld1114_2 rfl rfl rfl) (hd 29 rfl) <| jo_g 28 rfl rfl (ly_ld one3 rfl rfl rfl) (hd 30 rfl) <| jo_g 28 rfl rfl (ly_ne rfl rfl) (hd 31 rfl) <| jo_l (ly_pick_f rfl rfl) (hd 32 rfl) <| jo_nil ?_
      refine jc_if rfl (fun h5 => ?_) (fun h5 => ?_)
      · refine zsr <| jo_l (ly_build (is := []) (xs := []) (pls := []) zero1028 pls1028_ rfl ovL_nil rfl trivial (all_of rfl) rfl) (hd 33 rfl) <| jo_st (sy_store rfl rfl rfl siz1028 rfl rfl (zlb rfl)) <| zas rfl (hd 3 rfl) <| jo_nil <| jc_ret ?_
        refine ⟨_, _, (.cons (ResV.cell agg1028 rfl rfl rfl rfl) (.cons rfl .nil)), (.t1 (.a1 .b (.a1 (.nil (fr := false) (k := .u64)) (.a1 (.nil (fr := false) (k := .u64)) .a0))) (.t1 .i .t0)), ?_⟩
        rfl
      · exfalso; omega

theorem LexValues_e (s : ByteArray) (hs : s.size ≤ 1048576) (hV : Spec Try.prog 35 [.s s] (fun o => o = .ret (.t [(.a [.b false, .n false .u64 [], .n false .u64 []]), .i .i64 141]))) (hRf : Spec Try.prog 36 [.s s] (fun o => o = .ret (.t [.n false .u64 [], .n false .u64 [], .i .i64 141]))) : Spec Try.prog 7 [.s s] (fun o => o = .ret (.b true)) := by
  refine spec_of' [(0, .s s)] rfl Try.func7 rfl (zlb rfl) fun Γ hN hds hL hR => ?_
  have hd := hdOf 81 hN
  refine zsr <| zas rfl (hd 2 rfl) <| jo_nil <| zsr <| zmv rfl (hd 9 rfl) ?_
  refine jo_call Try.f35 (hV) rfl Try.func35 rfl rfl (ovL_cons rfl ovL_nil) (.cons .s .nil) (hd 10 rfl) ?_ (fun ch hp => by simp at hp)
  rintro _ ⟨⟩; refine zmv rfl (hd 8 rfl) <| jo_l (ly_ext rfl rfl) (hd 11 rfl) <| jo_l (ly_ext rfl rfl) (hd 12 rfl) <| jo_h (hy_alloc (id := 0) zero1028 (by decide) rfl (by decide) rfl) (hd 3 rfl) <| jo_st (sy_store rfl rfl rfl siz1028 rfl rfl (zlb rfl)) <| zas rfl (hd 4 rfl) <| jo_nil <| zsr <| zmv rfl (hd 14 rfl) ?_
  refine jo_call Try.f36 (hRf) rfl Try.func36 rfl rfl (ovL_cons rfl ovL_nil) (.cons .s .nil) (hd 15 rfl) ?_ (fun ch hp => by simp at hp)
  rintro _ ⟨⟩; refine zmv rfl (hd 13 rfl) <| jo_l (ly_ext rfl rfl) (hd 16 rfl) <| jo_l (ly_ext rfl rfl) (hd 17 rfl) <| jo_l (ly_ext rfl rfl) (hd 18 rfl) <| zas rfl (hd 5 rfl) <| zas rfl (hd 6 rfl) <| zas rfl (hd 7 rfl) <| jo_nil <| jc_seq <| zsr <| zmv rfl (hd 19 rfl) <| jo_l (ly_tt (ly_ne rfl rfl) (by decide)) (hd 20 rfl) ?_; refine jo_nil <| jc_litt rfl <| zsr <| zmv rfl (hd 21 rfl) ?_
  refine jo_call Try.f37 (lx_num_s 141) rfl Try.func37 rfl rfl (ovL_cons rfl ovL_nil) (.cons .i .nil) (hd 22 rfl) ?_ (fun ch hp => by simp at hp)
  rintro _ ⟨⟩; refine zmv rfl (hd 23 rfl) <| jo_l (ly_tt (ly_eq rfl rfl) rfl) (hd 24 rfl) <| zmv rfl (hd 25 rfl) <| jo_g 25 rfl rfl (ly_fa fld1028_0 rfl rfl rfl) (hd 26 rfl) <| jo_g 25 rfl rfl (ly_fa fld30_0 rfl rfl rfl) (hd 27 rfl) <| jo_g 25 rfl rfl (ly_ld one4 rfl rfl rfl) (hd 28 rfl) <| jo_g 25 rfl rfl (ly_not rfl) (hd 29 rfl) <| jo_l (ly_pick_t rfl rfl) (hd 30 rfl) <| zmv rfl (hd 31 rfl) <| jo_g 31 rfl rfl (ly_fa fld1028_0 rfl rfl rfl) (hd 32 rfl) <| jo_g 31 rfl rfl (ly_fa fld30_1 rfl rfl rfl) (hd 33 rfl) <| jo_g 31 rfl rfl (ly_ld one28 rfl rfl rfl) (hd 34 rfl) <| jo_g 31 rfl rfl (ly_lenn sl28 rfl) (hd 35 rfl) ?_; refine jo_g 31 rfl rfl (ly_tt (ly_eq rfl rfl) rfl) (hd 36 rfl) <| jo_l (ly_pick_t rfl rfl) (hd 37 rfl) <| zmv rfl (hd 38 rfl) <| jo_g 38 rfl rfl (ly_fa fld1028_1 rfl rfl rfl) (hd 39 rfl) <| jo_g 38 rfl rfl (ly_ld one28 rfl rfl rfl) (hd 40 rfl) <| jo_g 38 rfl rfl (ly_lenn sl28 rfl) (hd 41 rfl) <| jo_g 38 rfl rfl (ly_tt (ly_eq rfl rfl) rfl) (hd 42 rfl) <| jo_l (ly_pick_t rfl rfl) (hd 43 rfl) <| zmv rfl (hd 44 rfl) ?_
  refine jo_callg Try.f38 44 rfl rfl (lx_awake_s) rfl Try.func38 rfl rfl ovL_nil .nil (hd 45 rfl) ?_ (fun ch hp => by simp at hp)
  rintro _ ⟨⟩; refine jo_l (ly_pick_t rfl rfl) (hd 46 rfl) <| zas rfl (hd 2 rfl) <| jo_nil <| jc_ret ?_
  refine ⟨_, _, (.cons rfl .nil), .b, ?_⟩
  exact rfl

theorem LexValues_y (s : ByteArray) (hs : s.size ≤ 1048576) (X W : Nat) (bX : lenV (X : Int) ≤ 67108864) (bW : lenV (W : Int) ≤ 67108864) (hV : SpecM Try.prog 35 [.s s] [] (fun o G => o = .ret (.t [.a [.b false, .o 0 0 0 (lm (X : Int)).length, .o 1 0 0 (lm (W : Int)).length], .i .i64 0]) ∧ G = [⟨67, 1, 0, true, ints .u64 (lm (X : Int))⟩, ⟨67, 1, 0, true, ints .u64 (lm (W : Int))⟩])) (hRf : Spec Try.prog 36 [.s s] (fun o => o = .ret (.t [.n false .u64 (digs B32 X), .n false .u64 (digs B32 W), .i .i64 0]))) : Spec Try.prog 7 [.s s] (fun o => o = .ret (.b true)) := by
  refine spec_of' [(0, .s s)] rfl Try.func7 rfl (zlb rfl) fun Γ hN hds hL hR => ?_
  have hd := hdOf 81 hN
  have hdx := dl_of bX
  have hdy := dl_of bW
  have hlX := (Rw.of bX).l
  have hlW := (Rw.of bW).l
  have hIx : Spec Try.prog 39 [.n false .u64 (digs B32 X), .n false .u64 (lm (X : Int))] (fun o => o = .ret (.b true)) := by have h := Is_s (digs B32 X) (by omega); rwa [lims_nt] at h
  have hIy : Spec Try.prog 39 [.n false .u64 (digs B32 W), .n false .u64 (lm (W : Int))] (fun o => o = .ret (.b true)) := by have h := Is_s (digs B32 W) (by omega); rwa [lims_nt] at h
  refine zsr <| zas rfl (hd 2 rfl) <| jo_nil <| zsr <| zmv rfl (hd 9 rfl) ?_
  refine jo_callN Try.f35 (hV) (fun o G ⟨_, h⟩ => h ▸ idless_cons ints_id (idless_cons ints_id idless_nil)) rfl Try.func35 rfl rfl (ovL_cons rfl ovL_nil) (.cons .s .nil) (hd 10 rfl) ?_ (fun ch G hp => by simp at hp)
  rintro y G ⟨hy, rfl⟩; injection hy with hy; subst hy
  show JO _ _ _ _ ((10, .t [.a [.b false, .o 0 0 0 (lm (X : Int)).length, .o 1 0 0 (lm (W : Int)).length], .i .i64 0]) :: _) _ _
  refine zmv rfl (hd 8 rfl) <| jo_l (ly_ext rfl rfl) (hd 11 rfl) <| jo_l (ly_ext rfl rfl) (hd 12 rfl) <| jo_h (hy_alloc (id := 2) zero1028 (by decide) rfl (by decide) rfl) (hd 3 rfl) <| jo_st (sy_store rfl rfl rfl siz1028 rfl rfl (zlb rfl)) <| zas rfl (hd 4 rfl) <| jo_nil <| zsr <| zmv rfl (hd 14 rfl) ?_
  refine jo_call Try.f36 (hRf) rfl Try.func36 rfl rfl (ovL_cons rfl ovL_nil) (.cons .s .nil) (hd 15 rfl) ?_ (fun ch hp => by simp at hp)
  rintro _ ⟨⟩; refine zmv rfl (hd 13 rfl) <| jo_l (ly_ext rfl rfl) (hd 16 rfl) <| jo_l (ly_ext rfl rfl) (hd 17 rfl) <| jo_l (ly_ext rfl rfl) (hd 18 rfl) <| zas rfl (hd 5 rfl) <| zas rfl (hd 6 rfl) <| zas rfl (hd 7 rfl) <| jo_nil <| jc_seq <| zsr <| zmv rfl (hd 19 rfl) <| jo_l (ly_ff (ly_ne rfl rfl) (fun h => h rfl)) (hd 20 rfl) ?_; refine jo_nil <| jc_litf rfl <| jc_skip <| zsr <| zmv rfl (hd 47 rfl) ?_
  refine jo_call Try.f37 (lx_num_s 0) rfl Try.func37 rfl rfl (ovL_cons rfl ovL_nil) (.cons .i .nil) (hd 48 rfl) ?_ (fun ch hp => by simp at hp)
  rintro _ ⟨⟩; refine jo_l (ly_tt (ly_eq rfl rfl) rfl) (hd 49 rfl) <| zmv rfl (hd 50 rfl) <| jo_g 50 rfl rfl (ly_fa fld1028_0 rfl rfl rfl) (hd 51 rfl) <| jo_g 50 rfl rfl (ly_fa fld30_0 rfl rfl rfl) (hd 52 rfl) <| jo_g 50 rfl rfl (ly_ld one4 rfl rfl rfl) (hd 53 rfl) <| jo_g 50 rfl rfl (ly_not rfl) (hd 54 rfl) <| jo_l (ly_pick_t rfl rfl) (hd 55 rfl) <| zmv rfl (hd 56 rfl) <| jo_g 56 rfl rfl (ly_mv rfl) (hd 57 rfl) <| jo_g 56 rfl rfl (ly_fa fld1028_0 rfl rfl rfl) (hd 58 rfl) <| jo_g 56 rfl rfl (ly_fa fld30_1 rfl rfl rfl) (hd 59 rfl) <| jo_g 56 rfl rfl (ly_ld one28 rfl rfl rfl) (hd 60 rfl) ?_
  refine jo_callLg Try.f39 56 rfl rfl (hIx) rfl Try.func39 rfl rfl (ovL_cons rfl (ovL_cons rfl ovL_nil)) (.a1 .n (.a1 (.o rfl (by simp) (by rw [List.drop_zero, List.take_length])) .a0)) (.cons .n (.cons .n .nil)) hL (fun y hy => by injection hy with hy; subst hy; rfl) (hd 61 rfl) ?_ (fun ch hp => by simp at hp)
  rintro _ ⟨⟩; refine jo_l (ly_pick_t rfl rfl) (hd 62 rfl) <| zmv rfl (hd 63 rfl) <| jo_g 63 rfl rfl (ly_mv rfl) (hd 64 rfl) <| jo_g 63 rfl rfl (ly_fa fld1028_1 rfl rfl rfl) (hd 65 rfl) <| jo_g 63 rfl rfl (ly_ld one28 rfl rfl rfl) (hd 66 rfl) ?_
  refine jo_callLg Try.f39 63 rfl rfl (hIy) rfl Try.func39 rfl rfl (ovL_cons rfl (ovL_cons rfl ovL_nil)) (.a1 .n (.a1 (.o rfl (by simp) (by rw [List.drop_zero, List.take_length])) .a0)) (.cons .n (.cons .n .nil)) hL (fun y hy => by injection hy with hy; subst hy; rfl) (hd 67 rfl) ?_ (fun ch hp => by simp at hp)
  rintro _ ⟨⟩; refine jo_l (ly_pick_t rfl rfl) (hd 68 rfl) <| zmv rfl (hd 69 rfl) <| jo_g 69 rfl rfl (ly_fa fld1028_0 rfl rfl rfl) (hd 70 rfl) <| jo_g 69 rfl rfl (ly_fa fld30_1 rfl rfl rfl) (hd 71 rfl) <| jo_g 69 rfl rfl (ly_ld one28 rfl rfl rfl) (hd 72 rfl) <| jo_g 69 rfl rfl (ly_fa fld1028_1 rfl rfl rfl) (hd 73 rfl) <| jo_g 69 rfl rfl (ly_ld one28 rfl rfl rfl) (hd 74 rfl) <| jo_hg 69 rfl rfl (hy_lit (id := 3) (xs := [.tmp 72, .tmp 74]) el81 rfl (ovL_cons rfl (ovL_cons rfl ovL_nil)) rfl (all2_of rfl) (by decide) rfl) (hd 75 rfl) ?_
  refine jo_callGg Try.f40 69 rfl rfl (sel := [3, 0, 1]) (Own_s 2 (by decide) (rsOf [(lm (X : Int)), (lm (W : Int))]) (fun j _ => rsOf_len (by simp <;> omega) (by decide) j)) rfl Try.func40 rfl rfl (ovL_cons rfl ovL_nil) rfl rfl (.cons rfl rfl (.cons rfl (renL_ints _ _ _) (.cons rfl (renL_ints _ _ _) .nil))) (by decide) ow_ids ow_fresh (fun y G h => by cases h; rfl) (hd 76 rfl) ?_ (fun ch G hp => by cases hp)
  rintro y G hy; injection hy with hy; subst hy; refine jo_l (ly_pick_t rfl rfl) (hd 77 rfl) <| zmv rfl (hd 78 rfl) ?_
  refine jo_callg Try.f38 78 rfl rfl (lx_awake_s) rfl Try.func38 rfl rfl ovL_nil .nil (hd 79 rfl) ?_ (fun ch hp => by simp at hp)
  rintro _ ⟨⟩; refine jo_l (ly_pick_t rfl rfl) (hd 80 rfl) <| zas rfl (hd 2 rfl) <| jo_nil <| jc_ret ?_
  refine ⟨_, _, (.cons rfl .nil), .b, ?_⟩
  exact rfl

theorem Value_e (s : ByteArray) (hs : s.size ≤ 1048576) (h1 : ¬ isNi s) (h2 : ¬ isNf s) : Spec Try.prog 35 [.s s] (fun o => o = .ret (.t [(.a [.b false, .n false .u64 [], .n false .u64 []]), .i .i64 141])) := by
  have hno := nx_no h1 h2
  obtain ⟨⟨k, t, pl, e, ok⟩, hn⟩ : ∃ x, lx_nx s 0 = x := ⟨_, rfl⟩
  rw [hn] at hno
  cases ok
  · exact Value_e1 s hs k t pl e hn
  · exact Value_e2 s hs k t pl e hn (fun h => hno ⟨rfl, h.1, h.2.1, h.2.2⟩)
theorem LexValues_s (s : ByteArray) (hs : s.size ≤ 1048576) : Spec Try.prog 7 [.s s] (fun o => o = .ret (.b true)) := by
  by_cases h1 : isNi s
  · have hd9 := h1.isD
    have hx9 : lenV ((dv s : Nat) : Int) ≤ 67108864 := Nat.le_trans (hd9.fit (by omega)) (by decide)
    have hy9 : lenV ((1 : Nat) : Int) ≤ 67108864 := by decide +kernel
    have hP := QParse_i s h1.1 hs hd9
    rw [decide_eq_false (by omega)] at hP
    exact LexValues_y s hs (rn0 (dv s) 1) (rd0 (dv s) 1) (rn0_b hx9) (rd0_b hy9) (Value_y s hs _ _ (nx_I h1) hP) (rVal_i s h1 hs)
  · by_cases h2 : isNf s
    · obtain ⟨n, hn⟩ : ∃ n, nd s 0 = n := ⟨_, rfl⟩
      have hp9 := h2.p
      have hq9 := h2.q
      have hn0 := h2.1
      have hn1 := h2.2.1
      have h46 := h2.2.2.1
      rw [hn] at hp9 hq9 hn0 hn1 h46
      have hpz : (s.extract 0 n).size = n := by rw [ex_sz (by omega)]; omega
      have hqz : (s.extract (n + 1) s.size).size = s.size - n - 1 := by rw [ex_sz (Nat.le_refl _)]; omega
      have hrz : (s.extract n s.size).size = s.size - n := by rw [ex_sz (Nat.le_refl _)]
      have hR := rVal_f s (s.extract 0 n) (s.extract (n + 1) s.size) n hn h2 hs rfl rfl hp9 hq9 hqz hpz
      have hP := QParse_d s (s.extract 0 n) (s.extract (n + 1) s.size) (s.extract n s.size) (by rw [hn]) (by rw [hn]) (by omega) (by rw [bA_ext (Nat.le_refl _) (by omega)]; exact h46) (by rw [hrz, ex_ex (by omega), show n + (s.size - n) = s.size by omega]) hp9 (by omega) hq9 (by omega) (by rw [bA_ext (by omega) (by omega)]) hs (by omega) (by omega)
      rw [decide_eq_false (by omega)] at hP
      have hpq : (s.extract 0 n ++ s.extract (n + 1) s.size).size = n + (s.size - n - 1) := by rw [ByteArray.size_append, hpz, hqz]
      have hx9 : lenV ((dv (s.extract 0 n ++ s.extract (n + 1) s.size) : Nat) : Int) ≤ 67108864 := Nat.le_trans ((hp9.app hq9).fit (by omega)) (by decide)
      have hy9 : lenV ((10 ^ (s.extract (n + 1) s.size).size : Nat) : Int) ≤ 67108864 := Nat.le_trans (PW_fit (b := 10) (by decide) (by decide) (by omega)) (by decide)
      exact LexValues_y s hs _ _ (rn0_b hx9) (rd0_b hy9) (Value_y s hs _ _ (nx_F h2) hP) hR
    · exact LexValues_e s hs (Value_e s hs h1 h2) (rVal_e s h1 h2 hs)
end Go.Proofs.Ytpldmajdiljoaaa.Vc

namespace Go.Proofs.Ytpldmajdiljoaaa.lexValues
open Go Go.ChangeShapes Go.WideShapes Go.ChangeAt Go.RowKit
open Go.ChangeMaps (open_string shut_string)

theorem own : ownKnob Try.prog.godebug = none := by kernel_rfl
set_option maxRecDepth 100000 in
theorem lifted (os : Os) (started : os.Started) (H : Type) (enc : TypeId × Value → H) (F : Stop.Interp) :
    ReturnsInHanded {} Try.checked os 7 .any ((Rows.OpenSpec.upto Rows.lexValuesSpec).pre6 enc Try.prog Try.f7 Rows.lexValuesUptoRow.domain false) (((Rows.OpenSpec.upto Rows.lexValuesSpec).at F).post enc Try.prog Try.f7 false true false false) := by
  refine returnsInHanded_of_cond (C := Try.checked) (s := Rows.OpenSpec.upto Rows.lexValuesSpec) (k := Rows.uptoSmall) rfl own started (by kernel_rfl) Try.func7
    (OpenSpec.witness (enc := enc) (C := Try.checked) (s := Rows.OpenSpec.upto Rows.lexValuesSpec) (k := Rows.uptoSmall) rfl false ⟨#[], #[.string .empty], []⟩ 8 (by kernel_rfl) (by kernel_rfl) (by kernel_rfl)
      (x := ([.lit (.string [])], [], [])) (by kernel_rfl) rfl (by kernel_rfl)) ?_
  intro W base args ds gs before hval0 hW _ hk _
  have hval : ∀ (j : Nat) t v, Try.f7.params[j]? = some t → args[j]? = some v → Value.okWide Try.prog W .any base t v := hval0
  have hW' := hW
  obtain ⟨p, q, hA0, hV, rfl, hfz, hnd⟩ := hW
  have hA : DataW.TrodAll enc Try.prog W 0 (fun _ => true) true Try.f7.params.toList args.toList ds p := hA0
  rw [Try.params7] at hA hval
  obtain ⟨v0, vs0, d0, ds0, p0, q0, hargs, rfl, rfl, h0, r0⟩ := trodAll_cons hA
  obtain ⟨rfl, rfl, rfl⟩ := trodAll_nil r0
  obtain rfl : args = #[v0] := by cases args; simp_all
  obtain ⟨rfl, rfl⟩ := trodVars_none hV
  obtain ⟨a0, rfl, rfl, rfl, m0⟩ := open_string Try.underlying9 (hval 0 9 v0 rfl rfl) h0
  clear hA0 hval0
  simp only [List.append_nil] at hW' hk
  refine (Vc.spec_calls (vals := [.string a0]) (Vc.LexValues_s a0 (Vc.short1 hk)) W (⟨_, _, rfl, rfl, rfl⟩)).mono fun e W' ⟨he, hb⟩ => ?_; subst he
  exact ⟨_, rfl, Vc.post_of_below (pa := []) (pv := []) hW' (fun _ _ _ => (trodAll_cons_mk (shut_bool Try.underlying4 _) trodAll_mk0)) (fun sp _ => (trodAll_cons_mk (shut_string Try.underlying9 m0) trodAll_mk0)) (fun _ _ => rfl) rfl hb⟩

theorem proved : Rows.LexValuesUptoSaid :=
  OpenClaim.holds_of_cond 7 Try.f7 rfl rfl rfl rfl rfl rfl rfl ⟨rfl, rfl, rfl, rfl, rfl⟩ rfl rfl rfl rfl rfl (by kernel_rfl) Try.func7 (by kernel_rfl)
    (of_decide_eq_true (by kernel_rfl)) (by unfold Func.isWrapper; first | (rw [if_pos (by decide +kernel)]; kernel_rfl) | (rw [if_neg (by decide +kernel)]; exact ⟨rfl, rfl⟩))
    (fun os started H enc _ F => lifted os started H enc F)
end Go.Proofs.Ytpldmajdiljoaaa.lexValues
