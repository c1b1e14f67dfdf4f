-- Lean text written by the kit's print program, over this seat's translation: not trusted, Lean checks it
import Derived.Test.YtmimhnmaggkmmaaPAllx0
import Derived.Test.YtmimhnmaggkmmaaPAllx1
namespace Go.Proofs.Ytmimhnmaggkmmaa.PAll
open Go.RowKit Go.Proofs.YtmimhnmaggkmmaaW.PrintWords Go.Proofs.YtmimhnmaggkmmaaW.PrintLast Go.Proofs.YtmimhnmaggkmmaaW.PrintMore
attribute [local go_sem] max2_int min2_int max_two min_two max_three min_three max_four min_four   -- for this text's walks alone
set_option linter.unusedVariables false
set_option linter.unusedSimpArgs false

/-! ### spec_DrawBinomial: function 36 -/
def spec_DrawBinomial.f (k : Nat) (l0 : List Int) : Option (Int × Int) := (spec_l01From.f k l0).bind fun bt107 => ((spec_l01Next.f bt107.1 bt107.2.1 bt107.2.2 12).bind fun bt111 => (if bt111.1 = 0 then ((some (([(-1), 53, 52] : List Int) : List Int)).bind fun y114 => ((spec_l01Next.f bt107.1 bt111.2.1 bt111.2.2 3).bind fun bt117 => (if 0 ≤ bt117.1 then (if bt117.1 < (y114.length : Int) then ((spec_l01Next.f bt107.1 bt117.2.1 bt117.2.2 4).bind fun bt121 => (some (rd y114 bt117.1, bt121.1))) else (none)) else (none)))) else (if bt111.1 = 1 then ((spec_l01Next.f bt107.1 bt111.2.1 bt111.2.2 53).bind fun bt124 => ((some (([(-1), 53, (-9223372036854775808), 9223372036854775807] : List Int) : List Int)).bind fun y127 => ((spec_l01Next.f bt107.1 bt124.2.1 bt124.2.2 4).bind fun bt130 => (if 0 ≤ bt130.1 then (if bt130.1 < (y127.length : Int) then (some (bt124.1, rd y127 bt130.1)) else (none)) else (none))))) else ((spec_l01Next.f bt107.1 bt111.2.1 bt111.2.2 53).bind fun bt134 => ((spec_l01Next.f bt107.1 bt134.2.1 bt134.2.2 (wrap64 (bt134.1 + 2))).bind fun bt137 => (some (bt134.1, bt137.1)))))))
theorem spec_DrawBinomial.mono : ∀ a0 k, LeO (spec_DrawBinomial.f k a0) (spec_DrawBinomial.f (k + 1) a0) := by
  intro a0 k
  unfold spec_DrawBinomial.f
  repeat' first
      | (with_reducible exact spec_l01From.mono _ _)
      | (with_reducible exact LeO.refl _)
      | (with_reducible exact LeO.none _)
      | (with_reducible refine LeO.ite ?_ ?_)
      | (with_reducible refine LeO.bind ?_ (fun _ => ?_))
      | exact spec_l01From.mono _ _
      | exact LeO.none _
      | refine LeO.ite ?_ ?_
      | refine LeO.bind ?_ (fun _ => ?_)
def spec_DrawBinomial.T4 : Bool × List (List Nat × List Nat) := (true, [([], []), ([], []), ([1], [1]), ([0, 2], [0, 2]), ([3], [3]), ([], []), ([5, 2], [5]), ([4, 6, 0, 1, 2, 3, 4], [4]), ([6, 7, 0, 1, 2, 3, 4, 5, 6, 7], [6])])
def spec_DrawBinomial.B4 : List Nat := [0, 0, 2, 7, 15, 0, 38, 127, 255]
theorem spec_DrawBinomial.tab4 : rtab .any (opsOf Try.f36 4) = spec_DrawBinomial.T4 := by kernel_rfl
theorem spec_DrawBinomial.bits4 : waitsOk spec_DrawBinomial.T4.2 spec_DrawBinomial.B4 = true := by kernel_rfl
def spec_DrawBinomial.T6 : Bool × List (List Nat × List Nat) := (true, [([], []), ([0], [0]), ([], []), ([], []), ([3, 1], [3]), ([2, 4], [2, 4]), ([5], [5]), ([1, 4, 0, 1], [1]), ([6, 7, 0, 1, 2, 3, 4, 5, 6, 7], [6])])
def spec_DrawBinomial.B6 : List Nat := [0, 1, 0, 0, 11, 31, 63, 27, 255]
theorem spec_DrawBinomial.tab6 : rtab .any (opsOf Try.f36 6) = spec_DrawBinomial.T6 := by kernel_rfl
theorem spec_DrawBinomial.bits6 : waitsOk spec_DrawBinomial.T6.2 spec_DrawBinomial.B6 = true := by kernel_rfl
set_option maxHeartbeats 8000000 in
set_option maxRecDepth 100000 in
theorem spec_DrawBinomial.calls (k : Nat) (A0 : Option Addr) (c0 : Nat) (l0 : List Int) (r1 : Int) (r2 : Int) (w : World) (hr0 : Kd.C (Kd.int .u8) w A0 l0.length l0) (hc0 : l0.length ≤ c0) (h : spec_DrawBinomial.f k l0 = some (r1, r2)) :
    Calls Try.prog 36 #[.slice A0 l0.length c0] w fun e w' => e = .returned (.tuple #[.int .i64 r1, .int .i64 r2]) ∧ Below w.heap.size w w' := by
  have HR0 := Aside0.mk hr0
  have HC0 := Aside0.mk hc0
  clear hr0 hc0
  have HB := Aside0.mk (Below.refl w.heap.size w)
  have H : ((spec_l01From.f k l0).bind fun bt107 => ((spec_l01Next.f bt107.1 bt107.2.1 bt107.2.2 12).bind fun bt111 => (if bt111.1 = 0 then ((some (([(-1), 53, 52] : List Int) : List Int)).bind fun y114 => ((spec_l01Next.f bt107.1 bt111.2.1 bt111.2.2 3).bind fun bt117 => (if 0 ≤ bt117.1 then (if bt117.1 < (y114.length : Int) then ((spec_l01Next.f bt107.1 bt117.2.1 bt117.2.2 4).bind fun bt121 => (some (rd y114 bt117.1, bt121.1))) else (none)) else (none)))) else (if bt111.1 = 1 then ((spec_l01Next.f bt107.1 bt111.2.1 bt111.2.2 53).bind fun bt124 => ((some (([(-1), 53, (-9223372036854775808), 9223372036854775807] : List Int) : List Int)).bind fun y127 => ((spec_l01Next.f bt107.1 bt124.2.1 bt124.2.2 4).bind fun bt130 => (if 0 ≤ bt130.1 then (if bt130.1 < (y127.length : Int) then (some (bt124.1, rd y127 bt130.1)) else (none)) else (none))))) else ((spec_l01Next.f bt107.1 bt111.2.1 bt111.2.2 53).bind fun bt134 => ((spec_l01Next.f bt107.1 bt134.2.1 bt134.2.2 (wrap64 (bt134.1 + 2))).bind fun bt137 => (some (bt134.1, bt137.1)))))))) = some (r1, r2) := h
  clear h
  replace H := Option.bind_eq_some_iff.mp H
  obtain ⟨⟨t107, t108, t109⟩, A20, H⟩ := H
  replace H : ((spec_l01Next.f t107 t108 t109 12).bind fun bt111 => (if bt111.1 = 0 then ((some (([(-1), 53, 52] : List Int) : List Int)).bind fun y114 => ((spec_l01Next.f t107 bt111.2.1 bt111.2.2 3).bind fun bt117 => (if 0 ≤ bt117.1 then (if bt117.1 < (y114.length : Int) then ((spec_l01Next.f t107 bt117.2.1 bt117.2.2 4).bind fun bt121 => (some (rd y114 bt117.1, bt121.1))) else (none)) else (none)))) else (if bt111.1 = 1 then ((spec_l01Next.f t107 bt111.2.1 bt111.2.2 53).bind fun bt124 => ((some (([(-1), 53, (-9223372036854775808), 9223372036854775807] : List Int) : List Int)).bind fun y127 => ((spec_l01Next.f t107 bt124.2.1 bt124.2.2 4).bind fun bt130 => (if 0 ≤ bt130.1 then (if bt130.1 < (y127.length : Int) then (some (bt124.1, rd y127 bt130.1)) else (none)) else (none))))) else ((spec_l01Next.f t107 bt111.2.1 bt111.2.2 53).bind fun bt134 => ((spec_l01Next.f t107 bt134.2.1 bt134.2.2 (wrap64 (bt134.1 + 2))).bind fun bt137 => (some (bt134.1, bt137.1))))))) = some (r1, r2) := H
  have A2 := Aside0.mk A20
  clear A20
  replace H := Option.bind_eq_some_iff.mp H
  obtain ⟨⟨t111, t112, t113⟩, A30, H⟩ := H
  replace H : (if t111 = 0 then ((some (([(-1), 53, 52] : List Int) : List Int)).bind fun y114 => ((spec_l01Next.f t107 t112 t113 3).bind fun bt117 => (if 0 ≤ bt117.1 then (if bt117.1 < (y114.length : Int) then ((spec_l01Next.f t107 bt117.2.1 bt117.2.2 4).bind fun bt121 => (some (rd y114 bt117.1, bt121.1))) else (none)) else (none)))) else (if t111 = 1 then ((spec_l01Next.f t107 t112 t113 53).bind fun bt124 => ((some (([(-1), 53, (-9223372036854775808), 9223372036854775807] : List Int) : List Int)).bind fun y127 => ((spec_l01Next.f t107 bt124.2.1 bt124.2.2 4).bind fun bt130 => (if 0 ≤ bt130.1 then (if bt130.1 < (y127.length : Int) then (some (bt124.1, rd y127 bt130.1)) else (none)) else (none))))) else ((spec_l01Next.f t107 t112 t113 53).bind fun bt134 => ((spec_l01Next.f t107 bt134.2.1 bt134.2.2 (wrap64 (bt134.1 + 2))).bind fun bt137 => (some (bt134.1, bt137.1)))))) = some (r1, r2) := H
  have A3 := Aside0.mk A30
  clear A30
  by_cases c4 : t111 = 0
  · rw [if_pos c4] at H
    have c4b0 : (t111 == 0) = true := beq_iff_eq.mpr c4
    have c4b1 : (t111 != 0) = false := bne_eq_false_iff_eq.mpr c4
    clear c4
    obtain ⟨y114, hy114⟩ : ∃ y_ : List Int, y_ = (([(-1), 53, 52] : List Int)) := ⟨_, rfl⟩
    replace H : ((spec_l01Next.f t107 t112 t113 3).bind fun bt117 => (if 0 ≤ bt117.1 then (if bt117.1 < (y114.length : Int) then ((spec_l01Next.f t107 bt117.2.1 bt117.2.2 4).bind fun bt121 => (some (rd y114 bt117.1, bt121.1))) else (none)) else (none))) = some (r1, r2) := by first | (rw [hy114]; with_reducible exact H) | (have H2_ := (Option.bind_some _ _).symm.trans H; rw [hy114]; with_reducible exact H2_) | (have H2_ := (Option.bind_some _ _).symm.trans H; with_reducible exact H2_) | with_reducible exact H | (rw [hy114]; exact H) | exact H
    have Ny114 := Aside0.mk hy114
    clear hy114
    replace H := Option.bind_eq_some_iff.mp H
    obtain ⟨⟨t117, t118, t119⟩, A50, H⟩ := H
    replace H : (if 0 ≤ t117 then (if t117 < (y114.length : Int) then ((spec_l01Next.f t107 t118 t119 4).bind fun bt121 => (some (rd y114 t117, bt121.1))) else (none)) else (none)) = some (r1, r2) := H
    have A5 := Aside0.mk A50
    clear A50
    by_cases c6 : 0 ≤ t117
    · rw [if_pos c6] at H
      have c6b0 : decide (0 ≤ t117) = true := decide_eq_true c6
      clear c6
      by_cases c7 : t117 < (y114.length : Int)
      · rw [if_pos c7] at H
        have c7b0 : decide (t117 < (y114.length : Int)) = true := decide_eq_true c7
        clear c7
        replace H := Option.bind_eq_some_iff.mp H
        obtain ⟨⟨t121, t122, t123⟩, A80, H⟩ := H
        replace H : (some (rd y114 t117, t121)) = some (r1, r2) := H
        have A8 := Aside0.mk A80
        clear A80
        simp only [Option.some.injEq, Prod.mk.injEq] at H
        obtain ⟨rfl, rfl⟩ := H
        go_enter Try.func36, Try.ntmps36
        try go_wp2_with (first | ((with_reducible refine gate_callee (f := 56) rfl ?_); refine goesL_ (some 7) rfl rfl Try.func56 (by kernel_rfl) rfl #[.slice A0 l0.length c0] rfl (by (try simp only [List.map_toArray, List.map_cons, List.map_nil]); first | done | rfl | (simp only [List.length_drop, List.length_take]; rfl)) ?_; (with_reducible refine (spec_l01From.calls k _ _ l0 t107 t108 t109 w _ ?side1 ?side2 ?side3 A2.out).mono ?_); (case side1 => repeat (first | (with_reducible first | exact HB.out | apply below_alloc | apply pw_below_drewN | apply below_drew1) | exact HB.out)); (case side2 => exact HR0.out); (case side3 => exact HC0.out); rintro e w9 ⟨g110, rfl, hi, hb, hb2⟩; refine ⟨_, rfl, ?_⟩; have n0_ := Aside0.mk (hb); have n1_ := Aside0.mk (hi); clear HB; have HB := n0_; have HI110 := n1_; clear n0_ n1_; (try clear hb); (try clear hb2); (try clear hk); (try clear hi)) | ((with_reducible refine gate_callee (f := 57) rfl ?_); refine goesL_ (some 9) rfl rfl Try.func57 (by kernel_rfl) rfl #[.pointer (some ⟨g110, 0, none⟩), .int .i64 12] rfl (by (try simp only [List.map_toArray, List.map_cons, List.map_nil]); first | done | rfl | (simp only [List.length_drop, List.length_take]; rfl)) ?_; (with_reducible refine (spec_l01Next.calls g110 t107 t108 t109 12 t111 t112 t113 w _ ?side1 ?side2 A3.out).mono ?_); (case side1 => repeat (first | (with_reducible first | exact HI110.out | apply IsS47.alloc | apply IsS47.drewN | apply IsS47.drew | apply IsS47.set_1 | apply IsS47.set_2) | exact HI110.out)); (case side2 => repeat (first | (with_reducible first | exact HB.out | apply below_alloc | apply pw_below_drewN | apply below_drew1 | refine below_set ?_ (IsS47.ge HI110.out)) | exact HB.out)); rintro e w10 ⟨rfl, hi, hb, hk⟩; refine ⟨_, rfl, ?_⟩; have n0_ := Aside0.mk (hb); have n1_ := Aside0.mk (hi); clear HB; clear HI110; have HB := n0_; have HI110 := n1_; clear n0_ n1_; (try clear hb); (try clear hb2); (try clear hk); (try clear hi)))
        have pi120 : (0 ≤ (t117 : Int)) = True := eq_true (of_decide_eq_true (by first | (with_reducible assumption) | assumption))
        have qi120 : (t117 < (y114.length : Int)) = True := eq_true (of_decide_eq_true (by first | (with_reducible assumption) | assumption))
        have n0_ := Aside0.mk (IsS47.drew HI110.out)
        have n1_ := Aside0.mk (below_drew1 HB.out)
        clear HI110
        clear HB
        have HI110 := n0_
        have HB := n1_
        clear n0_ n1_
        refine start_ (n := 9) (S := fun w' => True) (ds := []) #[false, false, false, false, false, false, false, false, false] (by kernel_rfl) rfl rfl trivial (fun hHeld => ?_); refine with_tabW spec_DrawBinomial.tab4 spec_DrawBinomial.bits4 (fun HT_ HW_ => ?_)
        generalize w10.drew = w11 at HI110 HB hHeld ⊢
        refine pure_ (i := 1) (N := some 13) (v := ?_) (a' := ?_) #[false, true, false, false, false, false, false, false, false] rfl rfl (any_of HT_.out (by kernel_rfl)) (fun _ _ _ h => h) (Or.inl ⟨by rfl, ?_⟩) ?_ ?_
        rotate_left
        · intro w'
          go_simp
          with_reducible rfl
        rotate_left
        · simp only [Act.put, List.setIfInBounds_toArray, List.set_cons_zero, List.set_cons_succ, i64_w, i32_w]
          rfl
        refine pure_ (i := 5) (N := some 17) (v := ?_) (a' := ?_) #[false, true, false, false, false, true, false, false, false] rfl rfl (any_of HT_.out (by kernel_rfl)) (fun _ _ _ h => h) (Or.inl ⟨by rfl, ?_⟩) ?_ ?_
        rotate_left
        · intro w'
          go_simp
          with_reducible rfl
        rotate_left
        · simp only [Act.put, List.setIfInBounds_toArray, List.set_cons_zero, List.set_cons_succ, i64_w, i32_w]
          rfl
        refine inv_at [0, 2, 3, 4, 6, 7, 8] (fun a0_ b a w' => ∃ (v115 : Value) (adz_v115 : Addr) (m3_ : Value), a = putSel a0_ b [(0, 12, v115), (2, 14, .int .i64 t117), (3, 15, m3_), (4, 16, .int .i64 (rd y114 t117)), (6, 18, .int .i64 t121), (7, 2, .int .i64 (rd y114 t117)), (8, 3, .int .i64 t121)] ∧ (b 2 = false → IsS47 w w' g110 t107 t112 t113) ∧ (Below w.heap.size w w') ∧ (b 0 = true → Kd.R (Kd.int .i64) 2 w' w.heap.size (fun _ => True) v115 y114) ∧ (b 0 = true → ∃ c_, (v115 : Value) = .slice (some adz_v115) y114.length c_) ∧ (b 2 = true → b 6 = false → IsS47 w w' g110 t107 t118 t119) ∧ (b 6 = true → IsS47 w w' g110 t107 t122 t123) ∧ (b 3 = true → (m3_ : Value) = .pointer (some (adz_v115.add (t117).toNat)))) HT_.out HW_.out (by kernel_rfl) (by kernel_rfl) ?_ ?_ ?_
        · exact ⟨.bool false, ⟨0, 0, none⟩, .bool false, by simp only [putSel, Bool.false_eq_true, if_false], fun _ => HI110.out, HB.out, fun h_ => absurd h_ (by decide), fun h_ => absurd h_ (by decide), fun h_ => absurd h_ (by decide), fun h_ => absurd h_ (by decide), fun h_ => absurd h_ (by decide)⟩
        · skip
          clear HB HI110
          refine steps_cons ?_ ?_
          · rintro b a w' ⟨v115, adz_v115, m3_, ha, Q_HI110, Q_HB, Q_HO116, Q_HA_HO116, Q_HI110_e2, Q_HI110_e6, Q_X3_⟩ hb_ hon hoff
            refine ⟨_, rfl, fun K hK => ?_⟩
            replace ha := Aside0.mk ha
            have HB := Aside0.mk Q_HB
            refine Kd.R_lit_step (Kd.int .i64) _ 2 ?hg (N := 12) ?hd (xs := ([(-1), 53, 52] : List Int)) (inner := [.int .i64 (-1), .int .i64 53, .int .i64 52]) (ok := fun _ => True) (okp := fun _ => True) ?hr ?hp (fun _ hk => hk) trivial (Below.refl _ _) (Nat.le_refl _) (by simp) ?_; (case hd => rfl); (case hg => rfl); (case hr => first | (go_simp; done) | (go_simp; rfl)); (case hp => exact (Reps.one (show Kd.M (Kd.int .i64) _ _ _ (-1) [.int .i64 (-1)] from rfl) (Reps.one (show Kd.M (Kd.int .i64) _ _ _ 53 [.int .i64 53] from rfl) (Reps.one (show Kd.M (Kd.int .i64) _ _ _ 52 [.int .i64 52] from rfl) (Reps.none _ _)))))
            intro v115 w12 ho13 hb hg_ hnew_
            clear hg_ hnew_
            (first | rw [← Ny114.out] at ho13 | (simp only [Int.reduceToNat] at ho13; rw [← Ny114.out] at ho13))
            have n0_ := Aside0.mk (Kd.R_lower ho13 (below_size (by repeat (first | (with_reducible first | exact HB.out | apply below_alloc | apply pw_below_drewN | apply below_drew1) | exact HB.out))))
            have n2_ := Aside0.mk (below_step (by repeat (first | (with_reducible first | exact HB.out | apply below_alloc | apply pw_below_drewN | apply below_drew1) | exact HB.out)) hb)
            have z_HI110 := fun (h0_ : b 2 = false) => (show IsS47 w w12 g110 t107 t112 t113 from by first | exact (IsS47.below (by repeat (first | (with_reducible first | exact (Q_HI110 h0_) | apply IsS47.alloc | apply IsS47.drewN | apply IsS47.drew | apply IsS47.set_1 | apply IsS47.set_2) | exact (Q_HI110 h0_))) hb))
            have z_HI110_e2 := fun (h0_ : b 2 = true) (h1_ : b 6 = false) => (show IsS47 w w12 g110 t107 t118 t119 from by first | exact (IsS47.below (by repeat (first | (with_reducible first | exact (Q_HI110_e2 h0_ h1_) | apply IsS47.alloc | apply IsS47.drewN | apply IsS47.drew | apply IsS47.set_1 | apply IsS47.set_2) | exact (Q_HI110_e2 h0_ h1_))) hb))
            have z_HI110_e6 := fun (h0_ : b 6 = true) => (show IsS47 w w12 g110 t107 t122 t123 from by first | exact (IsS47.below (by repeat (first | (with_reducible first | exact (Q_HI110_e6 h0_) | apply IsS47.alloc | apply IsS47.drewN | apply IsS47.drew | apply IsS47.set_1 | apply IsS47.set_2) | exact (Q_HI110_e6 h0_))) hb))
            clear HB
            have HO116 := n0_
            have HB := n2_
            clear n0_ n2_
            clear hb ho13
            obtain ⟨Ao14, co14, eo14⟩ := Kd.R_slice HO116.out
            subst eo14
            obtain ⟨ado14, fo14, _⟩ := Kd.at_int (Kd.R_reads' HO116.out).2.2 0 (by decide) (by rw [Ny114.out]; simp)
            cases fo14
            refine hK.out _ _ ⟨.slice (some ado14) y114.length co14, ado14, m3_, (by rw [ha.out]; exact putSel_upk 0 hb_ rfl rfl rfl), z_HI110, (by repeat (first | (with_reducible first | exact HB.out | apply below_alloc | apply pw_below_drewN | apply below_drew1) | exact HB.out)), fun _ => (by (with_reducible repeat (first | apply Kd.R_alloc | apply Kd.R_drewN | apply Kd.R_drew)); exact HO116.out), fun _ => ⟨_, rfl⟩, z_HI110_e2, z_HI110_e6, fun h0_ => absurd ((hoff 3 (by kernel_rfl)).symm.trans h0_) (by decide)⟩
          refine steps_cons ?_ ?_
          · rintro b a w' ⟨v115, adz_v115, m3_, ha, Q_HI110, Q_HB, Q_HO116, Q_HA_HO116, Q_HI110_e2, Q_HI110_e6, Q_X3_⟩ hb_ hon hoff
            refine ⟨_, rfl, fun K hK => ?_⟩
            have e13 : a.tmps[13]? = some (.pointer (some ⟨g110, 0, none⟩)) := by rw [ha]; exact (putSel_off rfl).trans rfl
            replace ha := Aside0.mk ha
            have HI110 := Aside0.mk (Q_HI110 hb_)
            have HB := Aside0.mk Q_HB
            refine goes_ Try.func57 (by kernel_rfl) rfl #[.pointer (some ⟨g110, 0, none⟩), .int .i64 3] (by rfl) rfl rfl (by first | (simp only [List.map_toArray, List.map_cons, List.map_nil, Act.eval, Array.getD_eq_getD_getElem?, Option.getD_some, e13]; done) | (simp only [List.map_toArray, List.map_cons, List.map_nil, Act.eval, Array.getD_eq_getD_getElem?, Option.getD_some, e13]; rfl)) ?_
            with_reducible refine (spec_l01Next.calls g110 t107 t112 t113 3 t117 t118 t119 w _ ?side1 ?side2 A5.out).mono ?_
            (case side1 => repeat (first | (with_reducible first | exact HI110.out | apply IsS47.alloc | apply IsS47.drewN | apply IsS47.drew | apply IsS47.set_1 | apply IsS47.set_2) | exact HI110.out))
            (case side2 => repeat (first | (with_reducible first | exact HB.out | apply below_alloc | apply pw_below_drewN | apply below_drew1 | refine below_set ?_ (IsS47.ge HI110.out)) | exact HB.out))
            rintro e w12 ⟨rfl, hi, hb, hk⟩
            refine ⟨_, rfl, ?_⟩
            have n0_ := Aside0.mk (hb)
            have n1_ := Aside0.mk (hi)
            have z_HO116 := fun (h0_ : b 0 = true) => (show Kd.R (Kd.int .i64) 2 w12 w.heap.size (fun _ => True) v115 y114 from by first | exact (Kd.R_mono (Kd.R_keep (IsS47.apart (show IsS47 w _ g110 t107 t112 t113 from by repeat (first | (with_reducible first | exact HI110.out | apply IsS47.alloc | apply IsS47.drewN | apply IsS47.drew | apply IsS47.set_1 | apply IsS47.set_2) | exact HI110.out)) (by (with_reducible repeat (first | apply Kd.R_alloc | apply Kd.R_drewN | apply Kd.R_drew)); exact (Q_HO116 h0_)) (by decide)) hk (fun _ h => h.2)) (fun _ h => h.1)) | exact Kd.R_mono (Kd.R_mono (Kd.R_keep (IsS47.apart (show IsS47 w _ g110 t107 t112 t113 from by repeat (first | (with_reducible first | exact HI110.out | apply IsS47.alloc | apply IsS47.drewN | apply IsS47.drew | apply IsS47.set_1 | apply IsS47.set_2) | exact HI110.out)) (by (with_reducible repeat (first | apply Kd.R_alloc | apply Kd.R_drewN | apply Kd.R_drew)); exact (Q_HO116 h0_)) (by decide)) hk (fun _ h => h.2)) (fun _ h => h.1)) (fun _ h_ => by first | trivial | exact h_ | exact h_.1))
            clear HB
            clear HI110
            have HB := n0_
            have HI110 := n1_
            clear n0_ n1_
            (try clear hb)
            (try clear hb2)
            (try clear hk)
            (try clear hi)
            refine hK.out _ _ ⟨v115, adz_v115, m3_, (by rw [ha.out]; exact putSel_upk 1 hb_ rfl rfl rfl), fun h0_ => absurd ((up_self b 2).symm.trans h0_) (by decide), (by repeat (first | (with_reducible first | exact HB.out | apply below_alloc | apply pw_below_drewN | apply below_drew1 | refine below_set ?_ (IsS47.ge HI110.out)) | exact HB.out)), z_HO116, Q_HA_HO116, fun _ _ => (by repeat (first | (with_reducible first | exact HI110.out | apply IsS47.alloc | apply IsS47.drewN | apply IsS47.drew | apply IsS47.set_1 | apply IsS47.set_2) | exact HI110.out)), fun h0_ => absurd ((hoff 6 (by kernel_rfl)).symm.trans h0_) (by decide), fun h0_ => absurd ((hoff 3 (by kernel_rfl)).symm.trans h0_) (by decide)⟩
          refine steps_cons ?_ ?_
          · rintro b a w' ⟨v115, adz_v115, m3_, ha, Q_HI110, Q_HB, Q_HO116, Q_HA_HO116, Q_HI110_e2, Q_HI110_e6, Q_X3_⟩ hb_ hon hoff
            refine ⟨_, rfl, fun K hK => ?_⟩
            have e12 : a.tmps[12]? = some (v115) := by rw [ha]; exact putSel_on (e := (0, 12, v115)) 0 rfl rfl (hon 0 (by kernel_rfl)) rfl
            have e14 : a.tmps[14]? = some (.int .i64 t117) := by rw [ha]; exact putSel_on (e := (2, 14, .int .i64 t117)) 1 rfl rfl (hon 2 (by kernel_rfl)) rfl
            replace ha := Aside0.mk ha
            have HB := Aside0.mk Q_HB
            have HO116 := Aside0.mk (Q_HO116 (hon 0 (by kernel_rfl)))
            have HA_HO116 := Aside0.mk (Q_HA_HO116 (hon 0 (by kernel_rfl)))
            obtain ⟨c_, hv_⟩ := HA_HO116.out
            rw [hv_] at e12
            refine value_ (w1 := w') (v := .pointer (some (adz_v115.add (t117).toNat))) (by rfl) rfl ?_ ?_
            · go_simp
              (try simp only [i64_w])
              try rfl
            refine hK.out _ _ ⟨v115, adz_v115, (.pointer (some (adz_v115.add (t117).toNat))), (by rw [ha.out]; exact putSel_upk 2 hb_ rfl rfl rfl), fun h0_ => absurd ((hon 2 (by kernel_rfl)).symm.trans h0_) (by decide), Q_HB, Q_HO116, Q_HA_HO116, Q_HI110_e2, Q_HI110_e6, fun _ => rfl⟩
          refine steps_cons ?_ ?_
          · rintro b a w' ⟨v115, adz_v115, m3_, ha, Q_HI110, Q_HB, Q_HO116, Q_HA_HO116, Q_HI110_e2, Q_HI110_e6, Q_X3_⟩ hb_ hon hoff
            refine ⟨_, rfl, fun K hK => ?_⟩
            have e15 : a.tmps[15]? = some (m3_) := by rw [ha]; exact putSel_on (e := (3, 15, m3_)) 2 rfl rfl (hon 3 (by kernel_rfl)) rfl
            rw [Q_X3_ (hon 3 (by kernel_rfl))] at e15
            replace ha := Aside0.mk ha
            have HB := Aside0.mk Q_HB
            have HO116 := Aside0.mk (Q_HO116 (hon 0 (by kernel_rfl)))
            have HA_HO116 := Aside0.mk (Q_HA_HO116 (hon 0 (by kernel_rfl)))
            obtain ⟨c_, hv_⟩ := HA_HO116.out
            have hF_ := HO116.out
            rw [hv_] at hF_
            obtain ⟨ad_, ea_, hx_⟩ := Kd.at_int (Kd.R_reads' hF_).2.2 t117 (of_eq_true pi120) (of_eq_true qi120)
            cases ea_
            refine value_ (w1 := w') (v := .int .i64 (rd y114 t117)) (by rfl) rfl ?_ ?_
            · go_simp
              (try simp only [i64_w])
              try rfl
            refine hK.out _ _ ⟨v115, adz_v115, m3_, (by rw [ha.out]; exact putSel_upk 3 hb_ rfl rfl rfl), fun h0_ => absurd ((hon 2 (by kernel_rfl)).symm.trans h0_) (by decide), Q_HB, Q_HO116, Q_HA_HO116, Q_HI110_e2, Q_HI110_e6, Q_X3_⟩
          refine steps_cons ?_ ?_
          · rintro b a w' ⟨v115, adz_v115, m3_, ha, Q_HI110, Q_HB, Q_HO116, Q_HA_HO116, Q_HI110_e2, Q_HI110_e6, Q_X3_⟩ hb_ hon hoff
            refine ⟨_, rfl, fun K hK => ?_⟩
            have e17 : a.tmps[17]? = some (.pointer (some ⟨g110, 0, none⟩)) := by rw [ha]; exact (putSel_off rfl).trans rfl
            replace ha := Aside0.mk ha
            have HB := Aside0.mk Q_HB
            have HI110 := Aside0.mk (Q_HI110_e2 (hon 2 (by kernel_rfl)) hb_)
            refine goes_ Try.func57 (by kernel_rfl) rfl #[.pointer (some ⟨g110, 0, none⟩), .int .i64 4] (by rfl) rfl rfl (by first | (simp only [List.map_toArray, List.map_cons, List.map_nil, Act.eval, Array.getD_eq_getD_getElem?, Option.getD_some, e17]; done) | (simp only [List.map_toArray, List.map_cons, List.map_nil, Act.eval, Array.getD_eq_getD_getElem?, Option.getD_some, e17]; rfl)) ?_
            with_reducible refine (spec_l01Next.calls g110 t107 t118 t119 4 t121 t122 t123 w _ ?side1 ?side2 A8.out).mono ?_
            (case side1 => repeat (first | (with_reducible first | exact HI110.out | apply IsS47.alloc | apply IsS47.drewN | apply IsS47.drew | apply IsS47.set_1 | apply IsS47.set_2) | exact HI110.out))
            (case side2 => repeat (first | (with_reducible first | exact HB.out | apply below_alloc | apply pw_below_drewN | apply below_drew1 | refine below_set ?_ (IsS47.ge HI110.out)) | exact HB.out))
            rintro e w14 ⟨rfl, hi, hb, hk⟩
            refine ⟨_, rfl, ?_⟩
            have n0_ := Aside0.mk (hb)
            have n1_ := Aside0.mk (hi)
            have z_HO116 := fun (h0_ : b 0 = true) => (show Kd.R (Kd.int .i64) 2 w14 w.heap.size (fun _ => True) v115 y114 from by first | exact (Kd.R_mono (Kd.R_keep (IsS47.apart (show IsS47 w _ g110 t107 t118 t119 from by repeat (first | (with_reducible first | exact HI110.out | apply IsS47.alloc | apply IsS47.drewN | apply IsS47.drew | apply IsS47.set_1 | apply IsS47.set_2) | exact HI110.out)) (by (with_reducible repeat (first | apply Kd.R_alloc | apply Kd.R_drewN | apply Kd.R_drew)); exact (Q_HO116 h0_)) (by decide)) hk (fun _ h => h.2)) (fun _ h => h.1)) | exact Kd.R_mono (Kd.R_mono (Kd.R_keep (IsS47.apart (show IsS47 w _ g110 t107 t118 t119 from by repeat (first | (with_reducible first | exact HI110.out | apply IsS47.alloc | apply IsS47.drewN | apply IsS47.drew | apply IsS47.set_1 | apply IsS47.set_2) | exact HI110.out)) (by (with_reducible repeat (first | apply Kd.R_alloc | apply Kd.R_drewN | apply Kd.R_drew)); exact (Q_HO116 h0_)) (by decide)) hk (fun _ h => h.2)) (fun _ h => h.1)) (fun _ h_ => by first | trivial | exact h_ | exact h_.1))
            clear HB
            clear HI110
            have HB := n0_
            have HI110 := n1_
            clear n0_ n1_
            (try clear hb)
            (try clear hb2)
            (try clear hk)
            (try clear hi)
            refine hK.out _ _ ⟨v115, adz_v115, m3_, (by rw [ha.out]; exact putSel_upk 4 hb_ rfl rfl rfl), fun h0_ => absurd ((hon 2 (by kernel_rfl)).symm.trans h0_) (by decide), (by repeat (first | (with_reducible first | exact HB.out | apply below_alloc | apply pw_below_drewN | apply below_drew1 | refine below_set ?_ (IsS47.ge HI110.out)) | exact HB.out)), z_HO116, Q_HA_HO116, fun _ h1_ => absurd ((up_self b 6).symm.trans h1_) (by decide), fun _ => (by repeat (first | (with_reducible first | exact HI110.out | apply IsS47.alloc | apply IsS47.drewN | apply IsS47.drew | apply IsS47.set_1 | apply IsS47.set_2) | exact HI110.out)), Q_X3_⟩
          refine steps_cons ?_ ?_
          · rintro b a w' ⟨v115, adz_v115, m3_, ha, Q_HI110, Q_HB, Q_HO116, Q_HA_HO116, Q_HI110_e2, Q_HI110_e6, Q_X3_⟩ hb_ hon hoff
            refine ⟨_, rfl, fun K hK => ?_⟩
            have e16 : a.tmps[16]? = some (.int .i64 (rd y114 t117)) := by rw [ha]; exact putSel_on (e := (4, 16, .int .i64 (rd y114 t117))) 3 rfl rfl (hon 4 (by kernel_rfl)) rfl
            replace ha := Aside0.mk ha
            have HB := Aside0.mk Q_HB
            have HO116 := Aside0.mk (Q_HO116 (hon 0 (by kernel_rfl)))
            have HA_HO116 := Aside0.mk (Q_HA_HO116 (hon 0 (by kernel_rfl)))
            have HI110 := Aside0.mk (Q_HI110_e6 (hon 6 (by kernel_rfl)))
            refine value_ (w1 := w') (v := .int .i64 (rd y114 t117)) (by rfl) rfl ?_ ?_
            · go_simp
              (try simp only [i64_w])
              try rfl
            refine hK.out _ _ ⟨v115, adz_v115, m3_, (by rw [ha.out]; exact putSel_upk 5 hb_ rfl rfl rfl), fun h0_ => absurd ((hon 2 (by kernel_rfl)).symm.trans h0_) (by decide), Q_HB, Q_HO116, Q_HA_HO116, fun _ h1_ => absurd ((hon 6 (by kernel_rfl)).symm.trans h1_) (by decide), Q_HI110_e6, Q_X3_⟩
          refine steps_cons ?_ ?_
          · rintro b a w' ⟨v115, adz_v115, m3_, ha, Q_HI110, Q_HB, Q_HO116, Q_HA_HO116, Q_HI110_e2, Q_HI110_e6, Q_X3_⟩ hb_ hon hoff
            refine ⟨_, rfl, fun K hK => ?_⟩
            have e18 : a.tmps[18]? = some (.int .i64 t121) := by rw [ha]; exact putSel_on (e := (6, 18, .int .i64 t121)) 4 rfl rfl (hon 6 (by kernel_rfl)) rfl
            replace ha := Aside0.mk ha
            have HB := Aside0.mk Q_HB
            have HO116 := Aside0.mk (Q_HO116 (hon 0 (by kernel_rfl)))
            have HA_HO116 := Aside0.mk (Q_HA_HO116 (hon 0 (by kernel_rfl)))
            have HI110 := Aside0.mk (Q_HI110_e6 (hon 6 (by kernel_rfl)))
            refine value_ (w1 := w') (v := .int .i64 t121) (by rfl) rfl ?_ ?_
            · go_simp
              (try simp only [i64_w])
              try rfl
            refine hK.out _ _ ⟨v115, adz_v115, m3_, (by rw [ha.out]; exact putSel_upk 6 hb_ rfl rfl rfl), fun h0_ => absurd ((hon 2 (by kernel_rfl)).symm.trans h0_) (by decide), Q_HB, Q_HO116, Q_HA_HO116, fun _ h1_ => absurd ((hon 6 (by kernel_rfl)).symm.trans h1_) (by decide), Q_HI110_e6, Q_X3_⟩
          exact steps_nil
        rintro b a w17 hall ⟨v115, adz_v115, m3_, ha, Q_HI110, Q_HB, Q_HO116, Q_HA_HO116, Q_HI110_e2, Q_HI110_e6, Q_X3_⟩
        clear HB HI110
        have hb0_ := hall 0 (by kernel_rfl)
        have hb2_ := hall 2 (by kernel_rfl)
        have hb3_ := hall 3 (by kernel_rfl)
        have hb4_ := hall 4 (by kernel_rfl)
        have hb6_ := hall 6 (by kernel_rfl)
        have hb7_ := hall 7 (by kernel_rfl)
        have hb8_ := hall 8 (by kernel_rfl)
        subst ha
        obtain rfl := Q_X3_ hb3_
        simp only [putSel, hb0_, hb2_, hb3_, hb4_, hb6_, hb7_, hb8_, if_true, Act.put, List.setIfInBounds_toArray, List.set_cons_zero, List.set_cons_succ]
        clear Q_HI110
        have HB := Aside0.mk Q_HB
        clear Q_HB
        have HO116 := Aside0.mk (Q_HO116 hb0_)
        clear Q_HO116
        have HA_HO116 := Aside0.mk (Q_HA_HO116 hb0_)
        clear Q_HA_HO116
        clear Q_HI110_e2
        have HI110 := Aside0.mk (Q_HI110_e6 hb6_)
        clear Q_HI110_e6
        clear hall hb0_ hb2_ hb3_ hb4_ hb6_ hb7_ hb8_
        obtain ⟨co18, eo18⟩ := HA_HO116.out
        clear HA_HO116
        subst eo18
        try go_wp2
        go_ret2
        exact ⟨by first | rfl | (simp [errW_none, errW_some] <;> rfl) | (simp [*, errW_none, errW_some] <;> rfl), by repeat (first | (with_reducible first | exact HB.out | apply below_alloc | apply pw_below_drewN | apply below_drew1 | refine below_set ?_ (IsS47.ge HI110.out)) | exact HB.out)⟩
      · rw [if_neg c7] at H
        exact absurd H (by simp)
    · rw [if_neg c6] at H
      exact absurd H (by simp)
  · rw [if_neg c4] at H
    have c4b0 : (t111 == 0) = false := beq_eq_false_iff_ne.mpr c4
    have c4b1 : (t111 != 0) = true := bne_iff_ne.mpr c4
    by_cases c19 : t111 = 1
    · rw [if_pos c19] at H
      have c19b0 : (t111 == 1) = true := beq_iff_eq.mpr c19
      have c19b1 : (t111 != 1) = false := bne_eq_false_iff_eq.mpr c19
      clear c19
      replace H := Option.bind_eq_some_iff.mp H
      obtain ⟨⟨t124, t125, t126⟩, A200, H⟩ := H
      replace H : ((some (([(-1), 53, (-9223372036854775808), 9223372036854775807] : List Int) : List Int)).bind fun y127 => ((spec_l01Next.f t107 t125 t126 4).bind fun bt130 => (if 0 ≤ bt130.1 then (if bt130.1 < (y127.length : Int) then (some (t124, rd y127 bt130.1)) else (none)) else (none)))) = some (r1, r2) := H
      have A20 := Aside0.mk A200
      clear A200
      obtain ⟨y127, hy127⟩ : ∃ y_ : List Int, y_ = (([(-1), 53, (-9223372036854775808), 9223372036854775807] : List Int)) := ⟨_, rfl⟩
      replace H : ((spec_l01Next.f t107 t125 t126 4).bind fun bt130 => (if 0 ≤ bt130.1 then (if bt130.1 < (y127.length : Int) then (some (t124, rd y127 bt130.1)) else (none)) else (none))) = some (r1, r2) := by first | (rw [hy127]; with_reducible exact H) | (have H2_ := (Option.bind_some _ _).symm.trans H; rw [hy127]; with_reducible exact H2_) | (have H2_ := (Option.bind_some _ _).symm.trans H; with_reducible exact H2_) | with_reducible exact H | (rw [hy127]; exact H) | exact H
      have Ny127 := Aside0.mk hy127
      clear hy127
      replace H := Option.bind_eq_some_iff.mp H
      obtain ⟨⟨t130, t131, t132⟩, A210, H⟩ := H
      replace H : (if 0 ≤ t130 then (if t130 < (y127.length : Int) then (some (t124, rd y127 t130)) else (none)) else (none)) = some (r1, r2) := H
      have A21 := Aside0.mk A210
      clear A210
      by_cases c22 : 0 ≤ t130
      · rw [if_pos c22] at H
        have c22b0 : decide (0 ≤ t130) = true := decide_eq_true c22
        clear c22
        by_cases c23 : t130 < (y127.length : Int)
        · rw [if_pos c23] at H
          have c23b0 : decide (t130 < (y127.length : Int)) = true := decide_eq_true c23
          clear c23
          simp only [Option.some.injEq, Prod.mk.injEq] at H
          obtain ⟨rfl, rfl⟩ := H
          go_enter Try.func36, Try.ntmps36
          try go_wp2_with (first | ((with_reducible refine gate_callee (f := 56) rfl ?_); refine goesL_ (some 7) rfl rfl Try.func56 (by kernel_rfl) rfl #[.slice A0 l0.length c0] rfl (by (try simp only [List.map_toArray, List.map_cons, List.map_nil]); first | done | rfl | (simp only [List.length_drop, List.length_take]; rfl)) ?_; (with_reducible refine (spec_l01From.calls k _ _ l0 t107 t108 t109 w _ ?side1 ?side2 ?side3 A2.out).mono ?_); (case side1 => repeat (first | (with_reducible first | exact HB.out | apply below_alloc | apply pw_below_drewN | apply below_drew1) | exact HB.out)); (case side2 => exact HR0.out); (case side3 => exact HC0.out); rintro e w24 ⟨g110, rfl, hi, hb, hb2⟩; refine ⟨_, rfl, ?_⟩; have n0_ := Aside0.mk (hb); have n1_ := Aside0.mk (hi); clear HB; have HB := n0_; have HI110 := n1_; clear n0_ n1_; (try clear hb); (try clear hb2); (try clear hk); (try clear hi)) | ((with_reducible refine gate_callee (f := 57) rfl ?_); refine goesL_ (some 9) rfl rfl Try.func57 (by kernel_rfl) rfl #[.pointer (some ⟨g110, 0, none⟩), .int .i64 12] rfl (by (try simp only [List.map_toArray, List.map_cons, List.map_nil]); first | done | rfl | (simp only [List.length_drop, List.length_take]; rfl)) ?_; (with_reducible refine (spec_l01Next.calls g110 t107 t108 t109 12 t111 t112 t113 w _ ?side1 ?side2 A3.out).mono ?_); (case side1 => repeat (first | (with_reducible first | exact HI110.out | apply IsS47.alloc | apply IsS47.drewN | apply IsS47.drew | apply IsS47.set_1 | apply IsS47.set_2) | exact HI110.out)); (case side2 => repeat (first | (with_reducible first | exact HB.out | apply below_alloc | apply pw_below_drewN | apply below_drew1 | refine below_set ?_ (IsS47.ge HI110.out)) | exact HB.out)); rintro e w25 ⟨rfl, hi, hb, hk⟩; refine ⟨_, rfl, ?_⟩; have n0_ := Aside0.mk (hb); have n1_ := Aside0.mk (hi); clear HB; clear HI110; have HB := n0_; have HI110 := n1_; clear n0_ n1_; (try clear hb); (try clear hb2); (try clear hk); (try clear hi)))
          have pi133 : (0 ≤ (t130 : Int)) = True := eq_true (of_decide_eq_true (by first | (with_reducible assumption) | assumption))
          have qi133 : (t130 < (y127.length : Int)) = True := eq_true (of_decide_eq_true (by first | (with_reducible assumption) | assumption))
          have n0_ := Aside0.mk (IsS47.drew HI110.out)
          have n1_ := Aside0.mk (below_drew1 HB.out)
          clear HI110
          clear HB
          have HI110 := n0_
          have HB := n1_
          clear n0_ n1_
          refine start_ (n := 9) (S := fun w' => True) (ds := []) #[false, false, false, false, false, false, false, false, false] (by kernel_rfl) rfl rfl trivial (fun hHeld => ?_); refine with_tabW spec_DrawBinomial.tab6 spec_DrawBinomial.bits6 (fun HT_ HW_ => ?_)
          generalize w25.drew = w26 at HI110 HB hHeld ⊢
          refine pure_ (i := 0) (N := some 21) (v := ?_) (a' := ?_) #[true, false, false, false, false, false, false, false, false] rfl rfl (any_of HT_.out (by kernel_rfl)) (fun _ _ _ h => h) (Or.inl ⟨by rfl, ?_⟩) ?_ ?_
          rotate_left
          · intro w'
            go_simp
            with_reducible rfl
          rotate_left
          · simp only [Act.put, List.setIfInBounds_toArray, List.set_cons_zero, List.set_cons_succ, i64_w, i32_w]
            rfl
          refine pure_ (i := 3) (N := some 24) (v := ?_) (a' := ?_) #[true, false, false, true, false, false, false, false, false] rfl rfl (any_of HT_.out (by kernel_rfl)) (fun _ _ _ h => h) (Or.inl ⟨by rfl, ?_⟩) ?_ ?_
          rotate_left
          · intro w'
            go_simp
            with_reducible rfl
          rotate_left
          · simp only [Act.put, List.setIfInBounds_toArray, List.set_cons_zero, List.set_cons_succ, i64_w, i32_w]
            rfl
          refine inv_at [1, 2, 4, 5, 6, 7, 8] (fun a0_ b a w' => ∃ (v128 : Value) (adz_v128 : Addr) (m5_ : Value), a = putSel a0_ b [(1, 22, .int .i64 t124), (2, 23, v128), (4, 25, .int .i64 t130), (5, 26, m5_), (6, 27, .int .i64 (rd y127 t130)), (7, 2, .int .i64 t124), (8, 3, .int .i64 (rd y127 t130))] ∧ (b 1 = false → IsS47 w w' g110 t107 t112 t113) ∧ (Below w.heap.size w w') ∧ (b 1 = true → b 4 = false → IsS47 w w' g110 t107 t125 t126) ∧ (b 2 = true → Kd.R (Kd.int .i64) 2 w' w.heap.size (fun _ => True) v128 y127) ∧ (b 2 = true → ∃ c_, (v128 : Value) = .slice (some adz_v128) y127.length c_) ∧ (b 4 = true → IsS47 w w' g110 t107 t131 t132) ∧ (b 5 = true → (m5_ : Value) = .pointer (some (adz_v128.add (t130).toNat)))) HT_.out HW_.out (by kernel_rfl) (by kernel_rfl) ?_ ?_ ?_
          · exact ⟨.bool false, ⟨0, 0, none⟩, .bool false, by simp only [putSel, Bool.false_eq_true, if_false], fun _ => HI110.out, HB.out, fun h_ => absurd h_ (by decide), fun h_ => absurd h_ (by decide), fun h_ => absurd h_ (by decide), fun h_ => absurd h_ (by decide), fun h_ => absurd h_ (by decide)⟩
          · skip
            clear HB HI110
            refine steps_cons ?_ ?_
            · rintro b a w' ⟨v128, adz_v128, m5_, ha, Q_HI110, Q_HB, Q_HI110_e1, Q_HO129, Q_HA_HO129, Q_HI110_e4, Q_X5_⟩ hb_ hon hoff
              refine ⟨_, rfl, fun K hK => ?_⟩
              have e21 : a.tmps[21]? = some (.pointer (some ⟨g110, 0, none⟩)) := by rw [ha]; exact (putSel_off rfl).trans rfl
              replace ha := Aside0.mk ha
              have HI110 := Aside0.mk (Q_HI110 hb_)
              have HB := Aside0.mk Q_HB
              refine goes_ Try.func57 (by kernel_rfl) rfl #[.pointer (some ⟨g110, 0, none⟩), .int .i64 53] (by rfl) rfl rfl (by first | (simp only [List.map_toArray, List.map_cons, List.map_nil, Act.eval, Array.getD_eq_getD_getElem?, Option.getD_some, e21]; done) | (simp only [List.map_toArray, List.map_cons, List.map_nil, Act.eval, Array.getD_eq_getD_getElem?, Option.getD_some, e21]; rfl)) ?_
              with_reducible refine (spec_l01Next.calls g110 t107 t112 t113 53 t124 t125 t126 w _ ?side1 ?side2 A20.out).mono ?_
              (case side1 => repeat (first | (with_reducible first | exact HI110.out | apply IsS47.alloc | apply IsS47.drewN | apply IsS47.drew | apply IsS47.set_1 | apply IsS47.set_2) | exact HI110.out))
              (case side2 => repeat (first | (with_reducible first | exact HB.out | apply below_alloc | apply pw_below_drewN | apply below_drew1 | refine below_set ?_ (IsS47.ge HI110.out)) | exact HB.out))
              rintro e w27 ⟨rfl, hi, hb, hk⟩
              refine ⟨_, rfl, ?_⟩
              have n0_ := Aside0.mk (hb)
              have n1_ := Aside0.mk (hi)
              have z_HO129 := fun (h0_ : b 2 = true) => (show Kd.R (Kd.int .i64) 2 w27 w.heap.size (fun _ => True) v128 y127 from by first | exact (Kd.R_mono (Kd.R_keep (IsS47.apart (show IsS47 w _ g110 t107 t112 t113 from by repeat (first | (with_reducible first | exact HI110.out | apply IsS47.alloc | apply IsS47.drewN | apply IsS47.drew | apply IsS47.set_1 | apply IsS47.set_2) | exact HI110.out)) (by (with_reducible repeat (first | apply Kd.R_alloc | apply Kd.R_drewN | apply Kd.R_drew)); exact (Q_HO129 h0_)) (by decide)) hk (fun _ h => h.2)) (fun _ h => h.1)) | exact Kd.R_mono (Kd.R_mono (Kd.R_keep (IsS47.apart (show IsS47 w _ g110 t107 t112 t113 from by repeat (first | (with_reducible first | exact HI110.out | apply IsS47.alloc | apply IsS47.drewN | apply IsS47.drew | apply IsS47.set_1 | apply IsS47.set_2) | exact HI110.out)) (by (with_reducible repeat (first | apply Kd.R_alloc | apply Kd.R_drewN | apply Kd.R_drew)); exact (Q_HO129 h0_)) (by decide)) hk (fun _ h => h.2)) (fun _ h => h.1)) (fun _ h_ => by first | trivial | exact h_ | exact h_.1))
              clear HB
              clear HI110
              have HB := n0_
              have HI110 := n1_
              clear n0_ n1_
              (try clear hb)
              (try clear hb2)
              (try clear hk)
              (try clear hi)
              refine hK.out _ _ ⟨v128, adz_v128, m5_, (by rw [ha.out]; exact putSel_upk 0 hb_ rfl rfl rfl), fun h0_ => absurd ((up_self b 1).symm.trans h0_) (by decide), (by repeat (first | (with_reducible first | exact HB.out | apply below_alloc | apply pw_below_drewN | apply below_drew1 | refine below_set ?_ (IsS47.ge HI110.out)) | exact HB.out)), fun _ _ => (by repeat (first | (with_reducible first | exact HI110.out | apply IsS47.alloc | apply IsS47.drewN | apply IsS47.drew | apply IsS47.set_1 | apply IsS47.set_2) | exact HI110.out)), z_HO129, Q_HA_HO129, fun h0_ => absurd ((hoff 4 (by kernel_rfl)).symm.trans h0_) (by decide), fun h0_ => absurd ((hoff 5 (by kernel_rfl)).symm.trans h0_) (by decide)⟩
            refine steps_cons ?_ ?_
            · rintro b a w' ⟨v128, adz_v128, m5_, ha, Q_HI110, Q_HB, Q_HI110_e1, Q_HO129, Q_HA_HO129, Q_HI110_e4, Q_X5_⟩ hb_ hon hoff
              refine ⟨_, rfl, fun K hK => ?_⟩
              replace ha := Aside0.mk ha
              have HB := Aside0.mk Q_HB
              refine Kd.R_lit_step (Kd.int .i64) _ 2 ?hg (N := 23) ?hd (xs := ([(-1), 53, (-9223372036854775808), 9223372036854775807] : List Int)) (inner := [.int .i64 (-1), .int .i64 53, .int .i64 (-9223372036854775808), .int .i64 9223372036854775807]) (ok := fun _ => True) (okp := fun _ => True) ?hr ?hp (fun _ hk => hk) trivial (Below.refl _ _) (Nat.le_refl _) (by simp) ?_; (case hd => rfl); (case hg => rfl); (case hr => first | (go_simp; done) | (go_simp; rfl)); (case hp => exact (Reps.one (show Kd.M (Kd.int .i64) _ _ _ (-1) [.int .i64 (-1)] from rfl) (Reps.one (show Kd.M (Kd.int .i64) _ _ _ 53 [.int .i64 53] from rfl) (Reps.one (show Kd.M (Kd.int .i64) _ _ _ (-9223372036854775808) [.int .i64 (-9223372036854775808)] from rfl) (Reps.one (show Kd.M (Kd.int .i64) _ _ _ 9223372036854775807 [.int .i64 9223372036854775807] from rfl) (Reps.none _ _))))))
              intro v128 w27 ho28 hb hg_ hnew_
              clear hg_ hnew_
              (first | rw [← Ny127.out] at ho28 | (simp only [Int.reduceToNat] at ho28; rw [← Ny127.out] at ho28))
              have n0_ := Aside0.mk (Kd.R_lower ho28 (below_size (by repeat (first | (with_reducible first | exact HB.out | apply below_alloc | apply pw_below_drewN | apply below_drew1) | exact HB.out))))
              have n2_ := Aside0.mk (below_step (by repeat (first | (with_reducible first | exact HB.out | apply below_alloc | apply pw_below_drewN | apply below_drew1) | exact HB.out)) hb)
              have z_HI110 := fun (h0_ : b 1 = false) => (show IsS47 w w27 g110 t107 t112 t113 from by first | exact (IsS47.below (by repeat (first | (with_reducible first | exact (Q_HI110 h0_) | apply IsS47.alloc | apply IsS47.drewN | apply IsS47.drew | apply IsS47.set_1 | apply IsS47.set_2) | exact (Q_HI110 h0_))) hb))
              have z_HI110_e1 := fun (h0_ : b 1 = true) (h1_ : b 4 = false) => (show IsS47 w w27 g110 t107 t125 t126 from by first | exact (IsS47.below (by repeat (first | (with_reducible first | exact (Q_HI110_e1 h0_ h1_) | apply IsS47.alloc | apply IsS47.drewN | apply IsS47.drew | apply IsS47.set_1 | apply IsS47.set_2) | exact (Q_HI110_e1 h0_ h1_))) hb))
              have z_HI110_e4 := fun (h0_ : b 4 = true) => (show IsS47 w w27 g110 t107 t131 t132 from by first | exact (IsS47.below (by repeat (first | (with_reducible first | exact (Q_HI110_e4 h0_) | apply IsS47.alloc | apply IsS47.drewN | apply IsS47.drew | apply IsS47.set_1 | apply IsS47.set_2) | exact (Q_HI110_e4 h0_))) hb))
              clear HB
              have HO129 := n0_
              have HB := n2_
              clear n0_ n2_
              clear hb ho28
              obtain ⟨Ao29, co29, eo29⟩ := Kd.R_slice HO129.out
              subst eo29
              obtain ⟨ado29, fo29, _⟩ := Kd.at_int (Kd.R_reads' HO129.out).2.2 0 (by decide) (by rw [Ny127.out]; simp)
              cases fo29
              refine hK.out _ _ ⟨.slice (some ado29) y127.length co29, ado29, m5_, (by rw [ha.out]; exact putSel_upk 1 hb_ rfl rfl rfl), z_HI110, (by repeat (first | (with_reducible first | exact HB.out | apply below_alloc | apply pw_below_drewN | apply below_drew1) | exact HB.out)), z_HI110_e1, fun _ => (by (with_reducible repeat (first | apply Kd.R_alloc | apply Kd.R_drewN | apply Kd.R_drew)); exact HO129.out), fun _ => ⟨_, rfl⟩, z_HI110_e4, fun h0_ => absurd ((hoff 5 (by kernel_rfl)).symm.trans h0_) (by decide)⟩
            refine steps_cons ?_ ?_
            · rintro b a w' ⟨v128, adz_v128, m5_, ha, Q_HI110, Q_HB, Q_HI110_e1, Q_HO129, Q_HA_HO129, Q_HI110_e4, Q_X5_⟩ hb_ hon hoff
              refine ⟨_, rfl, fun K hK => ?_⟩
              have e24 : a.tmps[24]? = some (.pointer (some ⟨g110, 0, none⟩)) := by rw [ha]; exact (putSel_off rfl).trans rfl
              replace ha := Aside0.mk ha
              have HB := Aside0.mk Q_HB
              have HI110 := Aside0.mk (Q_HI110_e1 (hon 1 (by kernel_rfl)) hb_)
              refine goes_ Try.func57 (by kernel_rfl) rfl #[.pointer (some ⟨g110, 0, none⟩), .int .i64 4] (by rfl) rfl rfl (by first | (simp only [List.map_toArray, List.map_cons, List.map_nil, Act.eval, Array.getD_eq_getD_getElem?, Option.getD_some, e24]; done) | (simp only [List.map_toArray, List.map_cons, List.map_nil, Act.eval, Array.getD_eq_getD_getElem?, Option.getD_some, e24]; rfl)) ?_
              with_reducible refine (spec_l01Next.calls g110 t107 t125 t126 4 t130 t131 t132 w _ ?side1 ?side2 A21.out).mono ?_
              (case side1 => repeat (first | (with_reducible first | exact HI110.out | apply IsS47.alloc | apply IsS47.drewN | apply IsS47.drew | apply IsS47.set_1 | apply IsS47.set_2) | exact HI110.out))
              (case side2 => repeat (first | (with_reducible first | exact HB.out | apply below_alloc | apply pw_below_drewN | apply below_drew1 | refine below_set ?_ (IsS47.ge HI110.out)) | exact HB.out))
              rintro e w29 ⟨rfl, hi, hb, hk⟩
              refine ⟨_, rfl, ?_⟩
              have n0_ := Aside0.mk (hb)
              have n1_ := Aside0.mk (hi)
              have z_HO129 := fun (h0_ : b 2 = true) => (show Kd.R (Kd.int .i64) 2 w29 w.heap.size (fun _ => True) v128 y127 from by first | exact (Kd.R_mono (Kd.R_keep (IsS47.apart (show IsS47 w _ g110 t107 t125 t126 from by repeat (first | (with_reducible first | exact HI110.out | apply IsS47.alloc | apply IsS47.drewN | apply IsS47.drew | apply IsS47.set_1 | apply IsS47.set_2) | exact HI110.out)) (by (with_reducible repeat (first | apply Kd.R_alloc | apply Kd.R_drewN | apply Kd.R_drew)); exact (Q_HO129 h0_)) (by decide)) hk (fun _ h => h.2)) (fun _ h => h.1)) | exact Kd.R_mono (Kd.R_mono (Kd.R_keep (IsS47.apart (show IsS47 w _ g110 t107 t125 t126 from by repeat (first | (with_reducible first | exact HI110.out | apply IsS47.alloc | apply IsS47.drewN | apply IsS47.drew | apply IsS47.set_1 | apply IsS47.set_2) | exact HI110.out)) (by (with_reducible repeat (first | apply Kd.R_alloc | apply Kd.R_drewN | apply Kd.R_drew)); exact (Q_HO129 h0_)) (by decide)) hk (fun _ h => h.2)) (fun _ h => h.1)) (fun _ h_ => by first | trivial | exact h_ | exact h_.1))
              clear HB
              clear HI110
              have HB := n0_
              have HI110 := n1_
              clear n0_ n1_
              (try clear hb)
              (try clear hb2)
              (try clear hk)
              (try clear hi)
              refine hK.out _ _ ⟨v128, adz_v128, m5_, (by rw [ha.out]; exact putSel_upk 2 hb_ rfl rfl rfl), fun h0_ => absurd ((hon 1 (by kernel_rfl)).symm.trans h0_) (by decide), (by repeat (first | (with_reducible first | exact HB.out | apply below_alloc | apply pw_below_drewN | apply below_drew1 | refine below_set ?_ (IsS47.ge HI110.out)) | exact HB.out)), fun _ h1_ => absurd ((up_self b 4).symm.trans h1_) (by decide), z_HO129, Q_HA_HO129, fun _ => (by repeat (first | (with_reducible first | exact HI110.out | apply IsS47.alloc | apply IsS47.drewN | apply IsS47.drew | apply IsS47.set_1 | apply IsS47.set_2) | exact HI110.out)), fun h0_ => absurd ((hoff 5 (by kernel_rfl)).symm.trans h0_) (by decide)⟩
            refine steps_cons ?_ ?_
            · rintro b a w' ⟨v128, adz_v128, m5_, ha, Q_HI110, Q_HB, Q_HI110_e1, Q_HO129, Q_HA_HO129, Q_HI110_e4, Q_X5_⟩ hb_ hon hoff
              refine ⟨_, rfl, fun K hK => ?_⟩
              have e23 : a.tmps[23]? = some (v128) := by rw [ha]; exact putSel_on (e := (2, 23, v128)) 1 rfl rfl (hon 2 (by kernel_rfl)) rfl
              have e25 : a.tmps[25]? = some (.int .i64 t130) := by rw [ha]; exact putSel_on (e := (4, 25, .int .i64 t130)) 2 rfl rfl (hon 4 (by kernel_rfl)) rfl
              replace ha := Aside0.mk ha
              have HB := Aside0.mk Q_HB
              have HO129 := Aside0.mk (Q_HO129 (hon 2 (by kernel_rfl)))
              have HA_HO129 := Aside0.mk (Q_HA_HO129 (hon 2 (by kernel_rfl)))
              have HI110 := Aside0.mk (Q_HI110_e4 (hon 4 (by kernel_rfl)))
              obtain ⟨c_, hv_⟩ := HA_HO129.out
              rw [hv_] at e23
              refine value_ (w1 := w') (v := .pointer (some (adz_v128.add (t130).toNat))) (by rfl) rfl ?_ ?_
              · go_simp
                (try simp only [i64_w])
                try rfl
              refine hK.out _ _ ⟨v128, adz_v128, (.pointer (some (adz_v128.add (t130).toNat))), (by rw [ha.out]; exact putSel_upk 3 hb_ rfl rfl rfl), fun h0_ => absurd ((hon 1 (by kernel_rfl)).symm.trans h0_) (by decide), Q_HB, fun _ h1_ => absurd ((hon 4 (by kernel_rfl)).symm.trans h1_) (by decide), Q_HO129, Q_HA_HO129, Q_HI110_e4, fun _ => rfl⟩
            refine steps_cons ?_ ?_
            · rintro b a w' ⟨v128, adz_v128, m5_, ha, Q_HI110, Q_HB, Q_HI110_e1, Q_HO129, Q_HA_HO129, Q_HI110_e4, Q_X5_⟩ hb_ hon hoff
              refine ⟨_, rfl, fun K hK => ?_⟩
              have e26 : a.tmps[26]? = some (m5_) := by rw [ha]; exact putSel_on (e := (5, 26, m5_)) 3 rfl rfl (hon 5 (by kernel_rfl)) rfl
              rw [Q_X5_ (hon 5 (by kernel_rfl))] at e26
              replace ha := Aside0.mk ha
              have HB := Aside0.mk Q_HB
              have HO129 := Aside0.mk (Q_HO129 (hon 2 (by kernel_rfl)))
              have HA_HO129 := Aside0.mk (Q_HA_HO129 (hon 2 (by kernel_rfl)))
              have HI110 := Aside0.mk (Q_HI110_e4 (hon 4 (by kernel_rfl)))
              obtain ⟨c_, hv_⟩ := HA_HO129.out
              have hF_ := HO129.out
              rw [hv_] at hF_
              obtain ⟨ad_, ea_, hx_⟩ := Kd.at_int (Kd.R_reads' hF_).2.2 t130 (of_eq_true pi133) (of_eq_true qi133)
              cases ea_
              refine value_ (w1 := w') (v := .int .i64 (rd y127 t130)) (by rfl) rfl ?_ ?_
              · go_simp
                (try simp only [i64_w])
                try rfl
              refine hK.out _ _ ⟨v128, adz_v128, m5_, (by rw [ha.out]; exact putSel_upk 4 hb_ rfl rfl rfl), fun h0_ => absurd ((hon 1 (by kernel_rfl)).symm.trans h0_) (by decide), Q_HB, fun _ h1_ => absurd ((hon 4 (by kernel_rfl)).symm.trans h1_) (by decide), Q_HO129, Q_HA_HO129, Q_HI110_e4, Q_X5_⟩
            refine steps_cons ?_ ?_
            · rintro b a w' ⟨v128, adz_v128, m5_, ha, Q_HI110, Q_HB, Q_HI110_e1, Q_HO129, Q_HA_HO129, Q_HI110_e4, Q_X5_⟩ hb_ hon hoff
              refine ⟨_, rfl, fun K hK => ?_⟩
              have e22 : a.tmps[22]? = some (.int .i64 t124) := by rw [ha]; exact putSel_on (e := (1, 22, .int .i64 t124)) 0 rfl rfl (hon 1 (by kernel_rfl)) rfl
              replace ha := Aside0.mk ha
              have HB := Aside0.mk Q_HB
              have HI110 := Aside0.mk (Q_HI110_e4 (hon 4 (by kernel_rfl)))
              refine value_ (w1 := w') (v := .int .i64 t124) (by rfl) rfl ?_ ?_
              · go_simp
                (try simp only [i64_w])
                try rfl
              refine hK.out _ _ ⟨v128, adz_v128, m5_, (by rw [ha.out]; exact putSel_upk 5 hb_ rfl rfl rfl), fun h0_ => absurd ((hon 1 (by kernel_rfl)).symm.trans h0_) (by decide), Q_HB, fun _ h1_ => absurd ((hon 4 (by kernel_rfl)).symm.trans h1_) (by decide), Q_HO129, Q_HA_HO129, Q_HI110_e4, Q_X5_⟩
            refine steps_cons ?_ ?_
            · rintro b a w' ⟨v128, adz_v128, m5_, ha, Q_HI110, Q_HB, Q_HI110_e1, Q_HO129, Q_HA_HO129, Q_HI110_e4, Q_X5_⟩ hb_ hon hoff
              refine ⟨_, rfl, fun K hK => ?_⟩
              have e27 : a.tmps[27]? = some (.int .i64 (rd y127 t130)) := by rw [ha]; exact putSel_on (e := (6, 27, .int .i64 (rd y127 t130))) 4 rfl rfl (hon 6 (by kernel_rfl)) rfl
              replace ha := Aside0.mk ha
              have HB := Aside0.mk Q_HB
              have HO129 := Aside0.mk (Q_HO129 (hon 2 (by kernel_rfl)))
              have HA_HO129 := Aside0.mk (Q_HA_HO129 (hon 2 (by kernel_rfl)))
              have HI110 := Aside0.mk (Q_HI110_e4 (hon 4 (by kernel_rfl)))
              refine value_ (w1 := w') (v := .int .i64 (rd y127 t130)) (by rfl) rfl ?_ ?_
              · go_simp
                (try simp only [i64_w])
                try rfl
              refine hK.out _ _ ⟨v128, adz_v128, m5_, (by rw [ha.out]; exact putSel_upk 6 hb_ rfl rfl rfl), fun h0_ => absurd ((hon 1 (by kernel_rfl)).symm.trans h0_) (by decide), Q_HB, fun _ h1_ => absurd ((hon 4 (by kernel_rfl)).symm.trans h1_) (by decide), Q_HO129, Q_HA_HO129, Q_HI110_e4, Q_X5_⟩
            exact steps_nil
          rintro b a w32 hall ⟨v128, adz_v128, m5_, ha, Q_HI110, Q_HB, Q_HI110_e1, Q_HO129, Q_HA_HO129, Q_HI110_e4, Q_X5_⟩
          clear HB HI110
          have hb1_ := hall 1 (by kernel_rfl)
          have hb2_ := hall 2 (by kernel_rfl)
          have hb4_ := hall 4 (by kernel_rfl)
          have hb5_ := hall 5 (by kernel_rfl)
          have hb6_ := hall 6 (by kernel_rfl)
          have hb7_ := hall 7 (by kernel_rfl)
          have hb8_ := hall 8 (by kernel_rfl)
          subst ha
          obtain rfl := Q_X5_ hb5_
          simp only [putSel, hb1_, hb2_, hb4_, hb5_, hb6_, hb7_, hb8_, if_true, Act.put, List.setIfInBounds_toArray, List.set_cons_zero, List.set_cons_succ]
          clear Q_HI110
          have HB := Aside0.mk Q_HB
          clear Q_HB
          clear Q_HI110_e1
          have HO129 := Aside0.mk (Q_HO129 hb2_)
          clear Q_HO129
          have HA_HO129 := Aside0.mk (Q_HA_HO129 hb2_)
          clear Q_HA_HO129
          have HI110 := Aside0.mk (Q_HI110_e4 hb4_)
          clear Q_HI110_e4
          clear hall hb1_ hb2_ hb4_ hb5_ hb6_ hb7_ hb8_
          obtain ⟨co33, eo33⟩ := HA_HO129.out
          clear HA_HO129
          subst eo33
          try go_wp2
          go_ret2
          exact ⟨by first | rfl | (simp [errW_none, errW_some] <;> rfl) | (simp [*, errW_none, errW_some] <;> rfl), by repeat (first | (with_reducible first | exact HB.out | apply below_alloc | apply pw_below_drewN | apply below_drew1 | refine below_set ?_ (IsS47.ge HI110.out)) | exact HB.out)⟩
        · rw [if_neg c23] at H
          exact absurd H (by simp)
      · rw [if_neg c22] at H
        exact absurd H (by simp)
    · rw [if_neg c19] at H
      have c19b0 : (t111 == 1) = false := beq_eq_false_iff_ne.mpr c19
      have c19b1 : (t111 != 1) = true := bne_iff_ne.mpr c19
      replace H := Option.bind_eq_some_iff.mp H
      obtain ⟨⟨t134, t135, t136⟩, A340, H⟩ := H
      replace H : ((spec_l01Next.f t107 t135 t136 (wrap64 (t134 + 2))).bind fun bt137 => (some (t134, bt137.1))) = some (r1, r2) := H
      have A34 := Aside0.mk A340
      clear A340
      replace H := Option.bind_eq_some_iff.mp H
      obtain ⟨⟨t137, t138, t139⟩, A350, H⟩ := H
      replace H : (some (t134, t137)) = some (r1, r2) := H
      have A35 := Aside0.mk A350
      clear A350
      simp only [Option.some.injEq, Prod.mk.injEq] at H
      obtain ⟨rfl, rfl⟩ := H
      go_enter Try.func36, Try.ntmps36
      go_wp2_with (first | ((with_reducible refine gate_callee (f := 56) rfl ?_); refine goesL_ (some 7) rfl rfl Try.func56 (by kernel_rfl) rfl #[.slice A0 l0.length c0] rfl (by (try simp only [List.map_toArray, List.map_cons, List.map_nil]); first | done | rfl | (simp only [List.length_drop, List.length_take]; rfl)) ?_; (with_reducible refine (spec_l01From.calls k _ _ l0 t107 t108 t109 w _ ?side1 ?side2 ?side3 A2.out).mono ?_); (case side1 => repeat (first | (with_reducible first | exact HB.out | apply below_alloc | apply pw_below_drewN | apply below_drew1) | exact HB.out)); (case side2 => exact HR0.out); (case side3 => exact HC0.out); rintro e w36 ⟨g110, rfl, hi, hb, hb2⟩; refine ⟨_, rfl, ?_⟩; have n0_ := Aside0.mk (hb); have n1_ := Aside0.mk (hi); clear HB; have HB := n0_; have HI110 := n1_; clear n0_ n1_; (try clear hb); (try clear hb2); (try clear hk); (try clear hi)) | ((with_reducible refine gate_callee (f := 57) rfl ?_); refine goesL_ (some 9) rfl rfl Try.func57 (by kernel_rfl) rfl #[.pointer (some ⟨g110, 0, none⟩), .int .i64 12] rfl (by (try simp only [List.map_toArray, List.map_cons, List.map_nil]); first | done | rfl | (simp only [List.length_drop, List.length_take]; rfl)) ?_; (with_reducible refine (spec_l01Next.calls g110 t107 t108 t109 12 t111 t112 t113 w _ ?side1 ?side2 A3.out).mono ?_); (case side1 => repeat (first | (with_reducible first | exact HI110.out | apply IsS47.alloc | apply IsS47.drewN | apply IsS47.drew | apply IsS47.set_1 | apply IsS47.set_2) | exact HI110.out)); (case side2 => repeat (first | (with_reducible first | exact HB.out | apply below_alloc | apply pw_below_drewN | apply below_drew1 | refine below_set ?_ (IsS47.ge HI110.out)) | exact HB.out)); rintro e w37 ⟨rfl, hi, hb, hk⟩; refine ⟨_, rfl, ?_⟩; have n0_ := Aside0.mk (hb); have n1_ := Aside0.mk (hi); clear HB; clear HI110; have HB := n0_; have HI110 := n1_; clear n0_ n1_; (try clear hb); (try clear hb2); (try clear hk); (try clear hi)) | ((with_reducible refine gate_callee (f := 57) rfl ?_); refine goesL_ (some 29) rfl rfl Try.func57 (by kernel_rfl) rfl #[.pointer (some ⟨g110, 0, none⟩), .int .i64 53] rfl (by (try simp only [List.map_toArray, List.map_cons, List.map_nil]); first | done | rfl | (simp only [List.length_drop, List.length_take]; rfl)) ?_; (with_reducible refine (spec_l01Next.calls g110 t107 t112 t113 53 t134 t135 t136 w _ ?side1 ?side2 A34.out).mono ?_); (case side1 => repeat (first | (with_reducible first | exact HI110.out | apply IsS47.alloc | apply IsS47.drewN | apply IsS47.drew | apply IsS47.set_1 | apply IsS47.set_2) | exact HI110.out)); (case side2 => repeat (first | (with_reducible first | exact HB.out | apply below_alloc | apply pw_below_drewN | apply below_drew1 | refine below_set ?_ (IsS47.ge HI110.out)) | exact HB.out)); rintro e w38 ⟨rfl, hi, hb, hk⟩; refine ⟨_, rfl, ?_⟩; have n0_ := Aside0.mk (hb); have n1_ := Aside0.mk (hi); clear HB; clear HI110; have HB := n0_; have HI110 := n1_; clear n0_ n1_; (try clear hb); (try clear hb2); (try clear hk); (try clear hi)) | ((with_reducible refine gate_callee (f := 57) rfl ?_); refine goesL_ (some 34) rfl rfl Try.func57 (by kernel_rfl) rfl #[.pointer (some ⟨g110, 0, none⟩), .int .i64 (wrap64 (t134 + 2))] rfl (by (try simp only [List.map_toArray, List.map_cons, List.map_nil]); first | done | rfl | (simp only [List.length_drop, List.length_take]; rfl)) ?_; (with_reducible refine (spec_l01Next.calls g110 t107 t135 t136 (wrap64 (t134 + 2)) t137 t138 t139 w _ ?side1 ?side2 A35.out).mono ?_); (case side1 => repeat (first | (with_reducible first | exact HI110.out | apply IsS47.alloc | apply IsS47.drewN | apply IsS47.drew | apply IsS47.set_1 | apply IsS47.set_2) | exact HI110.out)); (case side2 => repeat (first | (with_reducible first | exact HB.out | apply below_alloc | apply pw_below_drewN | apply below_drew1 | refine below_set ?_ (IsS47.ge HI110.out)) | exact HB.out)); rintro e w39 ⟨rfl, hi, hb, hk⟩; refine ⟨_, rfl, ?_⟩; have n0_ := Aside0.mk (hb); have n1_ := Aside0.mk (hi); clear HB; clear HI110; have HB := n0_; have HI110 := n1_; clear n0_ n1_; (try clear hb); (try clear hb2); (try clear hk); (try clear hi)))
      go_ret2
      exact ⟨by first | rfl | (simp [errW_none, errW_some] <;> rfl) | (simp [*, errW_none, errW_some] <;> rfl), by repeat (first | (with_reducible first | exact HB.out | apply below_alloc | apply pw_below_drewN | apply below_drew1 | refine below_set ?_ (IsS47.ge HI110.out)) | exact HB.out)⟩

end Go.Proofs.Ytmimhnmaggkmmaa.PAll
