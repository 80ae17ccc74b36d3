/- Written by a program of this work out of the translation; Lean checks it. -/
import Derived.Test.YtpeinbibaceheaaX0
import Derived.Test.YtpeinbibaceheaaX1
import Derived.Test.YtpeinbibaceheaaX5
import Derived.Test.YtpeinbibaceheaaGHead07
import Derived.Test.YtpeinbibaceheaaGJoin
import Derived.Test.YtpeinbibaceheaaGSplit
namespace Go.Proofs.Ytpeinbibaceheaa.X
open Go.RowKit Go.Proofs.YtpeinbibaceheaaW.PrintWords Go.Proofs.YtpeinbibaceheaaW.PrintLast Go.Proofs.YtpeinbibaceheaaW.PrintMore
attribute [local go_sem] max2_int min2_int max_two min_two max_three min_three max_four min_four   -- for this text's walks alone
set_option linter.unusedVariables false
set_option linter.unusedSimpArgs false

attribute [local go_sem high] eqA54
/-! ### observatorylaw07_SharesRecover: function 10 -/
def observatorylaw07_SharesRecover.j0 : Nat → Int → Int → Bool → Int → List (S54) → Bool → Option (Bool)
  | 0, _, _, _, _, _, _ => none
  | k + 1, x0, x4, x11, x12, x15, x45 => if x45 = true then (some false) else ((observatorylaw07_chosen.f k x15 x4).bind fun t357 => ((shares_Join.f t357 x12).bind fun bt360 => (if (t357.length : Int) < x12 then (if x11 = true then (some (bt360.2 == 25)) else (some false)) else (if x11 = true then (if bt360.2 = 0 then ((observatorylaw07_element.f x0).bind fun t362 => (some (bt360.1 == t362))) else (some false)) else (some false)))))
def observatorylaw07_SharesRecover.f (k : Nat) (a0 : Int) (l1 : List Int) (a2 : Int) (a3 : Int) (a4 : Int) : Option (Bool) := (observatorylaw07_head.f).bind fun t346 => ((observatorylaw07_made.f k l1 a2 a3).bind fun bt347 => ((observatorylaw07_element.f a0).bind fun t352 => ((shares_Split.f t352 bt347.1 bt347.2.1 bt347.2.2).bind fun bt353 => (if bt353.2 = 0 then (observatorylaw07_SharesRecover.j0 k a0 a4 t346 bt347.1 bt353.1 ((bt353.1.length : Int) != bt347.2.1)) else (observatorylaw07_SharesRecover.j0 k a0 a4 t346 bt347.1 bt353.1 true)))))
theorem observatorylaw07_SharesRecover.mono_l : ∀ k, (∀ y0 y1 y2 y3 y4 y5, LeO (observatorylaw07_SharesRecover.j0 k y0 y1 y2 y3 y4 y5) (observatorylaw07_SharesRecover.j0 (k + 1) y0 y1 y2 y3 y4 y5))
  | 0 => fun _ _ _ _ _ _ r h => by simp [observatorylaw07_SharesRecover.j0] at h
  | k + 1 => by
    have ih0 := observatorylaw07_SharesRecover.mono_l k
    · intro y0 y1 y2 y3 y4 y5
      unfold observatorylaw07_SharesRecover.j0
      repeat' first
      | (with_reducible exact ih0 _ _ _ _ _ _)
      | (with_reducible exact observatorylaw07_chosen.mono _ _ _)
      | (with_reducible exact observatorylaw07_made.mono _ _ _ _)
      | (with_reducible exact LeO.refl _)
      | (with_reducible exact LeO.none _)
      | (with_reducible refine LeO.ite ?_ ?_)
      | (with_reducible refine LeO.bind ?_ (fun _ => ?_))
      | exact ih0 _ _ _ _ _ _
      | exact observatorylaw07_chosen.mono _ _ _
      | exact observatorylaw07_made.mono _ _ _ _
      | exact LeO.none _
      | refine LeO.ite ?_ ?_
      | refine LeO.bind ?_ (fun _ => ?_)
theorem observatorylaw07_SharesRecover.mono : ∀ a0 a1 a2 a3 a4 k, LeO (observatorylaw07_SharesRecover.f k a0 a1 a2 a3 a4) (observatorylaw07_SharesRecover.f (k + 1) a0 a1 a2 a3 a4) := by
  intro a0 a1 a2 a3 a4 k
  have ih0 := observatorylaw07_SharesRecover.mono_l k
  unfold observatorylaw07_SharesRecover.f
  repeat' first
      | (with_reducible exact ih0 _ _ _ _ _ _)
      | (with_reducible exact observatorylaw07_chosen.mono _ _ _)
      | (with_reducible exact observatorylaw07_made.mono _ _ _ _)
      | (with_reducible exact LeO.refl _)
      | (with_reducible exact LeO.none _)
      | (with_reducible refine LeO.ite ?_ ?_)
      | (with_reducible refine LeO.bind ?_ (fun _ => ?_))
      | exact ih0 _ _ _ _ _ _
      | exact observatorylaw07_chosen.mono _ _ _
      | exact observatorylaw07_made.mono _ _ _ _
      | exact LeO.none _
      | refine LeO.ite ?_ ?_
      | refine LeO.bind ?_ (fun _ => ?_)
set_option maxHeartbeats 8000000 in
set_option maxRecDepth 100000 in
theorem observatorylaw07_SharesRecover.calls (k : Nat) (a0 : Int) (A1 : Option Addr) (c1 : Nat) (l1 : List Int) (a2 : Int) (a3 : Int) (a4 : Int) (r : Bool) (w : World) (hr1 : Kd.C (Kd.int .i64) w A1 l1.length l1) (hc1 : l1.length ≤ c1) (h : observatorylaw07_SharesRecover.f k a0 l1 a2 a3 a4 = some r) :
    Calls Try.prog 10 #[.int .i64 a0, .slice A1 l1.length c1, .int .u8 a2, .int .u8 a3, .int .u8 a4] w fun e w' => e = .returned (.bool r) ∧ Below w.heap.size w w' := by
  have HR1 := Aside0.mk hr1
  have HC1 := Aside0.mk hc1
  clear hr1 hc1
  have HB := Aside0.mk (Below.refl w.heap.size w)
  have H : ((observatorylaw07_head.f).bind fun t346 => ((observatorylaw07_made.f k l1 a2 a3).bind fun bt347 => ((observatorylaw07_element.f a0).bind fun t352 => ((shares_Split.f t352 bt347.1 bt347.2.1 bt347.2.2).bind fun bt353 => (if bt353.2 = 0 then (observatorylaw07_SharesRecover.j0 k a0 a4 t346 bt347.1 bt353.1 ((bt353.1.length : Int) != bt347.2.1)) else (observatorylaw07_SharesRecover.j0 k a0 a4 t346 bt347.1 bt353.1 true)))))) = some r := h
  clear h
  replace H := Option.bind_eq_some_iff.mp H
  obtain ⟨t346, A60, H⟩ := H
  replace H : ((observatorylaw07_made.f k l1 a2 a3).bind fun bt347 => ((observatorylaw07_element.f a0).bind fun t352 => ((shares_Split.f t352 bt347.1 bt347.2.1 bt347.2.2).bind fun bt353 => (if bt353.2 = 0 then (observatorylaw07_SharesRecover.j0 k a0 a4 t346 bt347.1 bt353.1 ((bt353.1.length : Int) != bt347.2.1)) else (observatorylaw07_SharesRecover.j0 k a0 a4 t346 bt347.1 bt353.1 true))))) = some r := H
  have A6 := Aside0.mk A60
  clear A60
  replace H := Option.bind_eq_some_iff.mp H
  obtain ⟨⟨t347, t348, t349⟩, A70, H⟩ := H
  replace H : ((observatorylaw07_element.f a0).bind fun t352 => ((shares_Split.f t352 t347 t348 t349).bind fun bt353 => (if bt353.2 = 0 then (observatorylaw07_SharesRecover.j0 k a0 a4 t346 t347 bt353.1 ((bt353.1.length : Int) != t348)) else (observatorylaw07_SharesRecover.j0 k a0 a4 t346 t347 bt353.1 true)))) = some r := H
  have A7 := Aside0.mk A70
  clear A70
  replace H := Option.bind_eq_some_iff.mp H
  obtain ⟨t352, A80, H⟩ := H
  replace H : ((shares_Split.f t352 t347 t348 t349).bind fun bt353 => (if bt353.2 = 0 then (observatorylaw07_SharesRecover.j0 k a0 a4 t346 t347 bt353.1 ((bt353.1.length : Int) != t348)) else (observatorylaw07_SharesRecover.j0 k a0 a4 t346 t347 bt353.1 true))) = some r := H
  have A8 := Aside0.mk A80
  clear A80
  replace H := Option.bind_eq_some_iff.mp H
  obtain ⟨⟨t353, t354⟩, A90, H⟩ := H
  replace H : (if t354 = 0 then (observatorylaw07_SharesRecover.j0 k a0 a4 t346 t347 t353 ((t353.length : Int) != t348)) else (observatorylaw07_SharesRecover.j0 k a0 a4 t346 t347 t353 true)) = some r := H
  have A9 := Aside0.mk A90
  clear A90
  have HC10 := Aside0.mk H
  clear H
  go_enter Try.func10, Try.ntmps10
  go_upto_region 4 with (first | ((with_reducible refine gate_callee (f := 31) rfl ?_); refine goesL_ (some 20) rfl rfl Try.func31 (by kernel_rfl) rfl #[] rfl (by (try simp only [List.map_toArray, List.map_cons, List.map_nil]); first | done | rfl | (simp only [List.length_drop, List.length_take]; rfl)) ?_; (with_reducible refine (observatorylaw07_head.calls  t346 _ A6.out).mono ?_); rintro e w11 ⟨rfl, hb⟩; refine ⟨_, rfl, ?_⟩; have n0_ := Aside0.mk (below_step (by repeat (first | (with_reducible first | exact HB.out | apply below_alloc | apply pw_below_drewN | apply below_drew1) | exact HB.out)) hb); clear HB; have HB := n0_; clear n0_; (try clear hb); (try clear hb2); (try clear hk); (try clear hi)) | ((with_reducible refine gate_callee (f := 32) rfl ?_); refine goesL_ (some 25) rfl rfl Try.func32 (by kernel_rfl) rfl #[.slice A1 l1.length c1, .int .u8 a2, .int .u8 a3] rfl (by (try simp only [List.map_toArray, List.map_cons, List.map_nil]); first | done | rfl | (simp only [List.length_drop, List.length_take]; rfl)) ?_; (with_reducible refine (observatorylaw07_made.calls k _ _ l1 a2 a3 t347 t348 t349 _ ?side1 ?side2 A7.out).mono ?_); (case side1 => repeat (first | exact (Kd.C_below HR1.out HB.out) | (with_reducible refine Kd.C_alloc ?_ _) | (with_reducible refine Kd.C_drewN ?_ _) | (with_reducible refine Kd.C_drew ?_))); (case side2 => exact HC1.out); rintro e w12 ⟨v350, rfl, ho0, hb⟩; refine ⟨_, rfl, ?_⟩; have n0_ := Aside0.mk (Kd.R_lower ho0 (below_size (by repeat (first | (with_reducible first | exact HB.out | apply below_alloc | apply pw_below_drewN | apply below_drew1) | exact HB.out)))); have n1_ := Aside0.mk (below_step (by repeat (first | (with_reducible first | exact HB.out | apply below_alloc | apply pw_below_drewN | apply below_drew1) | exact HB.out)) hb); clear HB; have HO351 := n0_; have HB := n1_; clear n0_ n1_; (try clear hb); (try clear hb2); (try clear hk); (try clear hi); (try clear ho0)) | ((with_reducible refine gate_callee (f := 34) rfl ?_); refine goesL_ (some 31) rfl rfl Try.func34 (by kernel_rfl) rfl #[.int .i64 a0] rfl (by (try simp only [List.map_toArray, List.map_cons, List.map_nil]); first | done | rfl | (simp only [List.length_drop, List.length_take]; rfl)) ?_; (with_reducible refine (observatorylaw07_element.calls a0 t352 _ A8.out).mono ?_); rintro e w' ⟨rfl, ⟨nd, rfl⟩⟩; refine ⟨_, rfl, ?_⟩; obtain ⟨Ao13, co13, eo13⟩ := Kd.R_slice HO351.out; subst eo13) | ((with_reducible refine gate_callee (f := 33) rfl ?_); refine goesL_ (some 35) rfl rfl Try.func33 (by kernel_rfl) rfl #[.int .i64 t352, .int .i64 t347, .int .i64 t348, .slice Ao13 t349.length co13] rfl (by (try simp only [List.map_toArray, List.map_cons, List.map_nil]); first | done | rfl | (simp only [List.length_drop, List.length_take]; rfl)) ?_; (with_reducible refine (shares_Split.calls t352 t347 t348 _ _ t349 t353 t354 _ ?side1 ?side2 A9.out).mono ?_); (case side1 => repeat (first | exact (Kd.R_reads' HO351.out).2.2 | (with_reducible refine Kd.C_alloc ?_ _) | (with_reducible refine Kd.C_drewN ?_ _) | (with_reducible refine Kd.C_drew ?_))); (case side2 => exact (Kd.R_reads' HO351.out).2.1); rintro e w14 ⟨v355, rfl, ho0, hb⟩; refine ⟨_, rfl, ?_⟩; have n0_ := Aside0.mk (Kd.R_below (by (with_reducible repeat (first | apply Kd.R_alloc | apply Kd.R_drewN | apply Kd.R_drew)); exact HO351.out) hb); have n1_ := Aside0.mk (Kd.R_lower ho0 (below_size (by repeat (first | (with_reducible first | exact HB.out | apply below_alloc | apply pw_below_drewN | apply below_drew1) | exact HB.out)))); have n2_ := Aside0.mk (below_step (by repeat (first | (with_reducible first | exact HB.out | apply below_alloc | apply pw_below_drewN | apply below_drew1) | exact HB.out)) hb); clear HO351; clear HB; have HO351 := n0_; have HO356 := n1_; have HB := n2_; clear n0_ n1_ n2_; (try clear hb); (try clear hb2); (try clear hk); (try clear hi); (try clear ho0)))
  (try simp only [Act.put, List.setIfInBounds_toArray, List.set_cons_zero, List.set_cons_succ])
  go_cut [45] (fun v45 wc => ∃ (kq : Nat) (x45_9 : Bool), v45 = .bool x45_9 ∧ Aside0 (observatorylaw07_SharesRecover.j0 kq a0 a4 t346 t347 t353 x45_9 = some r) ∧ Aside0 (kq ≤ k) ∧ Aside0 (Kd.R k54 54 wc w.heap.size (fun _ => True) v355 t353) ∧ Aside0 (Below w.heap.size w wc))
  case first =>
    have H := HC10.out
    clear HC10
    by_cases c15 : t354 = 0
    · rw [if_pos c15] at H
      have c15b0 : (t354 == 0) = true := beq_iff_eq.mpr c15
      have c15b1 : (t354 != 0) = false := bne_eq_false_iff_eq.mpr c15
      clear c15
      (first | rw [c15b0] | (simp only [i64_w, i32_w]; rw [c15b0]) | skip)
      have H' := Aside0.mk H
      clear H
      obtain ⟨Ao16, co16, eo16⟩ := Kd.R_slice HO356.out
      subst eo16
      go_wp2
      go_meet
      case rel => exact ⟨_, (((t353.length : Int) != t348)), (by first | rfl | (simp; done) | (simp [*]; done)), H', ⟨by first | omega | exact Nat.le_refl _⟩, ⟨by (with_reducible repeat (first | apply Kd.R_alloc | apply Kd.R_drewN | apply Kd.R_drew)); exact HO356.out⟩, ⟨by repeat (first | (with_reducible first | exact HB.out | apply below_alloc | apply pw_below_drewN | apply below_drew1) | exact HB.out)⟩⟩
    · rw [if_neg c15] at H
      have c15b0 : (t354 == 0) = false := beq_eq_false_iff_ne.mpr c15
      have c15b1 : (t354 != 0) = true := bne_iff_ne.mpr c15
      (first | rw [c15b0] | (simp only [i64_w, i32_w]; rw [c15b0]) | skip)
      have H' := Aside0.mk H
      clear H
      go_wp2
      go_meet
      case rel => exact ⟨_, (true), (by first | rfl | (simp; done) | (simp [*]; done)), H', ⟨by first | omega | exact Nat.le_refl _⟩, ⟨by (with_reducible repeat (first | apply Kd.R_alloc | apply Kd.R_drewN | apply Kd.R_drew)); exact HO356.out⟩, ⟨by repeat (first | (with_reducible first | exact HB.out | apply below_alloc | apply pw_below_drewN | apply below_drew1) | exact HB.out)⟩⟩
  case rest =>
    clear HC10
    try clear c1
    try clear p2
    try clear c3
    try clear c10
    try clear c15
    try clear c15b0
    try clear c15b1
    obtain ⟨kq, x45_9, rfl, HA, HJ9, HO_15, HB⟩ := hcut
    cases kq with
    | zero => exact absurd HA.out (by simp [observatorylaw07_SharesRecover.j0])
    | succ kj9 =>
      have H := HA.out
      clear HA
      simp only [observatorylaw07_SharesRecover.j0] at H
      by_cases c17 : x45_9 = true
      · subst c17
        have H1 : (some false) = some r := by rw [if_pos rfl] at H; exact H
        clear H
        have H := H1
        clear H1
        obtain rfl := Option.some.inj H
        go_wp2
        go_ret
        exact ⟨by first | rfl | (simp [errW_none, errW_some] <;> rfl) | (simp [*, errW_none, errW_some] <;> rfl), by repeat (first | (with_reducible first | exact HB.out | apply below_alloc | apply pw_below_drewN | apply below_drew1) | exact HB.out)⟩
      · replace c17 := Bool.eq_false_iff.mpr c17
        subst c17
        have H1 : ((observatorylaw07_chosen.f kj9 t353 a4).bind fun t357 => ((shares_Join.f t357 t347).bind fun bt360 => (if (t357.length : Int) < t347 then (if t346 = true then (some (bt360.2 == 25)) else (some false)) else (if t346 = true then (if bt360.2 = 0 then ((observatorylaw07_element.f a0).bind fun t362 => (some (bt360.1 == t362))) else (some false)) else (some false))))) = some r := by rw [if_neg (show ¬ (false = true) by decide)] at H; exact H
        clear H
        have H := H1
        clear H1
        replace H := Option.bind_eq_some_iff.mp H
        obtain ⟨t357, A180, H⟩ := H
        replace H : ((shares_Join.f t357 t347).bind fun bt360 => (if (t357.length : Int) < t347 then (if t346 = true then (some (bt360.2 == 25)) else (some false)) else (if t346 = true then (if bt360.2 = 0 then ((observatorylaw07_element.f a0).bind fun t362 => (some (bt360.1 == t362))) else (some false)) else (some false)))) = some r := H
        have A18 := Aside0.mk A180
        clear A180
        replace H := Option.bind_eq_some_iff.mp H
        obtain ⟨⟨t360, t361⟩, A190, H⟩ := H
        replace H : (if (t357.length : Int) < t347 then (if t346 = true then (some (t361 == 25)) else (some false)) else (if t346 = true then (if t361 = 0 then ((observatorylaw07_element.f a0).bind fun t362 => (some (t360 == t362))) else (some false)) else (some false))) = some r := H
        have A19 := Aside0.mk A190
        clear A190
        by_cases c20 : (t357.length : Int) < t347
        · rw [if_pos c20] at H
          have c20b0 : decide ((t357.length : Int) < t347) = true := decide_eq_true c20
          clear c20
          by_cases c21 : t346 = true
          · subst c21
            have H1 : (some (t361 == 25)) = some r := by rw [if_pos rfl] at H; exact H
            clear H
            have H := H1
            clear H1
            obtain rfl := Option.some.inj H
            obtain ⟨Ao22, co22, eo22⟩ := Kd.R_slice HO_15.out
            subst eo22
            go_wp2_with (first | ((with_reducible refine gate_callee (f := 35) rfl ?_); refine goesL_ (some 48) rfl rfl Try.func35 (by kernel_rfl) rfl #[.slice Ao22 t353.length co22, .int .u8 a4] rfl (by (try simp only [List.map_toArray, List.map_cons, List.map_nil]); first | done | rfl | (simp only [List.length_drop, List.length_take]; rfl)) ?_; (with_reducible refine (observatorylaw07_chosen.calls kj9 _ _ t353 a4 t357 _ ?side1 ?side2 A18.out).mono ?_); (case side1 => repeat (first | exact (Kd.R_reads' HO_15.out).2.2 | (with_reducible refine Kd.C_alloc ?_ _) | (with_reducible refine Kd.C_drewN ?_ _) | (with_reducible refine Kd.C_drew ?_))); (case side2 => exact (Kd.R_reads' HO_15.out).2.1); rintro e w23 ⟨v358, rfl, ho0, hb⟩; refine ⟨_, rfl, ?_⟩; have n0_ := Aside0.mk (Kd.R_elder' (by (with_reducible repeat (first | apply Kd.R_alloc | apply Kd.R_drewN | apply Kd.R_drew)); exact HO_15.out) (Kd.R_base ho0) hb); have n1_ := Aside0.mk (Kd.R_lower (Kd.R_new' ho0 (Kd.R_lt (by (with_reducible repeat (first | apply Kd.R_alloc | apply Kd.R_drewN | apply Kd.R_drew)); exact HO_15.out))) (below_size (by repeat (first | (with_reducible first | exact HB.out | apply below_alloc | apply pw_below_drewN | apply below_drew1) | exact HB.out)))); have n2_ := Aside0.mk (below_step (by repeat (first | (with_reducible first | exact HB.out | apply below_alloc | apply pw_below_drewN | apply below_drew1) | exact HB.out)) hb); clear HO_15; clear HB; have HO_15 := n0_; have HO359 := n1_; have HB := n2_; clear n0_ n1_ n2_; (try clear hb); (try clear hb2); (try clear hk); (try clear hi); (try clear ho0); obtain ⟨Ao24, co24, eo24⟩ := Kd.R_slice HO359.out; subst eo24) | ((with_reducible refine gate_callee (f := 36) rfl ?_); refine goesL_ (some 52) rfl rfl Try.func36 (by kernel_rfl) rfl #[.slice Ao24 t357.length co24, .int .i64 t347] rfl (by (try simp only [List.map_toArray, List.map_cons, List.map_nil]); first | done | rfl | (simp only [List.length_drop, List.length_take]; rfl)) ?_; (with_reducible refine (shares_Join.calls _ _ t357 t347 t360 t361 _ ?side1 ?side2 A19.out).mono ?_); (case side1 => repeat (first | exact (Kd.R_reads' HO359.out).2.2 | (with_reducible refine Kd.C_alloc ?_ _) | (with_reducible refine Kd.C_drewN ?_ _) | (with_reducible refine Kd.C_drew ?_))); (case side2 => exact (Kd.R_reads' HO359.out).2.1); rintro e w25 ⟨rfl, hb⟩; refine ⟨_, rfl, ?_⟩; have n0_ := Aside0.mk (Kd.R_below (by (with_reducible repeat (first | apply Kd.R_alloc | apply Kd.R_drewN | apply Kd.R_drew)); exact HO_15.out) hb); have n1_ := Aside0.mk (Kd.R_below (by (with_reducible repeat (first | apply Kd.R_alloc | apply Kd.R_drewN | apply Kd.R_drew)); exact HO359.out) hb); have n2_ := Aside0.mk (below_step (by repeat (first | (with_reducible first | exact HB.out | apply below_alloc | apply pw_below_drewN | apply below_drew1) | exact HB.out)) hb); clear HO_15; clear HO359; clear HB; have HO_15 := n0_; have HO359 := n1_; have HB := n2_; clear n0_ n1_ n2_; (try clear hb); (try clear hb2); (try clear hk); (try clear hi)))
            go_ret
            exact ⟨by first | rfl | (simp [errW_none, errW_some] <;> rfl) | (simp [*, errW_none, errW_some] <;> rfl), by repeat (first | (with_reducible first | exact HB.out | apply below_alloc | apply pw_below_drewN | apply below_drew1) | exact HB.out)⟩
          · replace c21 := Bool.eq_false_iff.mpr c21
            subst c21
            have H1 : (some false) = some r := by rw [if_neg (show ¬ (false = true) by decide)] at H; exact H
            clear H
            have H := H1
            clear H1
            obtain rfl := Option.some.inj H
            obtain ⟨Ao26, co26, eo26⟩ := Kd.R_slice HO_15.out
            subst eo26
            go_wp2_with (first | ((with_reducible refine gate_callee (f := 35) rfl ?_); refine goesL_ (some 48) rfl rfl Try.func35 (by kernel_rfl) rfl #[.slice Ao26 t353.length co26, .int .u8 a4] rfl (by (try simp only [List.map_toArray, List.map_cons, List.map_nil]); first | done | rfl | (simp only [List.length_drop, List.length_take]; rfl)) ?_; (with_reducible refine (observatorylaw07_chosen.calls kj9 _ _ t353 a4 t357 _ ?side1 ?side2 A18.out).mono ?_); (case side1 => repeat (first | exact (Kd.R_reads' HO_15.out).2.2 | (with_reducible refine Kd.C_alloc ?_ _) | (with_reducible refine Kd.C_drewN ?_ _) | (with_reducible refine Kd.C_drew ?_))); (case side2 => exact (Kd.R_reads' HO_15.out).2.1); rintro e w27 ⟨v358, rfl, ho0, hb⟩; refine ⟨_, rfl, ?_⟩; have n0_ := Aside0.mk (Kd.R_elder' (by (with_reducible repeat (first | apply Kd.R_alloc | apply Kd.R_drewN | apply Kd.R_drew)); exact HO_15.out) (Kd.R_base ho0) hb); have n1_ := Aside0.mk (Kd.R_lower (Kd.R_new' ho0 (Kd.R_lt (by (with_reducible repeat (first | apply Kd.R_alloc | apply Kd.R_drewN | apply Kd.R_drew)); exact HO_15.out))) (below_size (by repeat (first | (with_reducible first | exact HB.out | apply below_alloc | apply pw_below_drewN | apply below_drew1) | exact HB.out)))); have n2_ := Aside0.mk (below_step (by repeat (first | (with_reducible first | exact HB.out | apply below_alloc | apply pw_below_drewN | apply below_drew1) | exact HB.out)) hb); clear HO_15; clear HB; have HO_15 := n0_; have HO359 := n1_; have HB := n2_; clear n0_ n1_ n2_; (try clear hb); (try clear hb2); (try clear hk); (try clear hi); (try clear ho0); obtain ⟨Ao28, co28, eo28⟩ := Kd.R_slice HO359.out; subst eo28) | ((with_reducible refine gate_callee (f := 36) rfl ?_); refine goesL_ (some 52) rfl rfl Try.func36 (by kernel_rfl) rfl #[.slice Ao28 t357.length co28, .int .i64 t347] rfl (by (try simp only [List.map_toArray, List.map_cons, List.map_nil]); first | done | rfl | (simp only [List.length_drop, List.length_take]; rfl)) ?_; (with_reducible refine (shares_Join.calls _ _ t357 t347 t360 t361 _ ?side1 ?side2 A19.out).mono ?_); (case side1 => repeat (first | exact (Kd.R_reads' HO359.out).2.2 | (with_reducible refine Kd.C_alloc ?_ _) | (with_reducible refine Kd.C_drewN ?_ _) | (with_reducible refine Kd.C_drew ?_))); (case side2 => exact (Kd.R_reads' HO359.out).2.1); rintro e w29 ⟨rfl, hb⟩; refine ⟨_, rfl, ?_⟩; have n0_ := Aside0.mk (Kd.R_below (by (with_reducible repeat (first | apply Kd.R_alloc | apply Kd.R_drewN | apply Kd.R_drew)); exact HO_15.out) hb); have n1_ := Aside0.mk (Kd.R_below (by (with_reducible repeat (first | apply Kd.R_alloc | apply Kd.R_drewN | apply Kd.R_drew)); exact HO359.out) hb); have n2_ := Aside0.mk (below_step (by repeat (first | (with_reducible first | exact HB.out | apply below_alloc | apply pw_below_drewN | apply below_drew1) | exact HB.out)) hb); clear HO_15; clear HO359; clear HB; have HO_15 := n0_; have HO359 := n1_; have HB := n2_; clear n0_ n1_ n2_; (try clear hb); (try clear hb2); (try clear hk); (try clear hi)))
            go_ret
            exact ⟨by first | rfl | (simp [errW_none, errW_some] <;> rfl) | (simp [*, errW_none, errW_some] <;> rfl), by repeat (first | (with_reducible first | exact HB.out | apply below_alloc | apply pw_below_drewN | apply below_drew1) | exact HB.out)⟩
        · rw [if_neg c20] at H
          have c20b0 : decide ((t357.length : Int) < t347) = false := decide_eq_false c20
          clear c20
          by_cases c30 : t346 = true
          · subst c30
            have H1 : (if t361 = 0 then ((observatorylaw07_element.f a0).bind fun t362 => (some (t360 == t362))) else (some false)) = some r := by rw [if_pos rfl] at H; exact H
            clear H
            have H := H1
            clear H1
            by_cases c31 : t361 = 0
            · rw [if_pos c31] at H
              have c31b0 : (t361 == 0) = true := beq_iff_eq.mpr c31
              have c31b1 : (t361 != 0) = false := bne_eq_false_iff_eq.mpr c31
              clear c31
              replace H := Option.bind_eq_some_iff.mp H
              obtain ⟨t362, A320, H⟩ := H
              replace H : (some (t360 == t362)) = some r := H
              have A32 := Aside0.mk A320
              clear A320
              obtain rfl := Option.some.inj H
              obtain ⟨Ao33, co33, eo33⟩ := Kd.R_slice HO_15.out
              subst eo33
              go_wp2_with (first | ((with_reducible refine gate_callee (f := 35) rfl ?_); refine goesL_ (some 48) rfl rfl Try.func35 (by kernel_rfl) rfl #[.slice Ao33 t353.length co33, .int .u8 a4] rfl (by (try simp only [List.map_toArray, List.map_cons, List.map_nil]); first | done | rfl | (simp only [List.length_drop, List.length_take]; rfl)) ?_; (with_reducible refine (observatorylaw07_chosen.calls kj9 _ _ t353 a4 t357 _ ?side1 ?side2 A18.out).mono ?_); (case side1 => repeat (first | exact (Kd.R_reads' HO_15.out).2.2 | (with_reducible refine Kd.C_alloc ?_ _) | (with_reducible refine Kd.C_drewN ?_ _) | (with_reducible refine Kd.C_drew ?_))); (case side2 => exact (Kd.R_reads' HO_15.out).2.1); rintro e w34 ⟨v358, rfl, ho0, hb⟩; refine ⟨_, rfl, ?_⟩; have n0_ := Aside0.mk (Kd.R_elder' (by (with_reducible repeat (first | apply Kd.R_alloc | apply Kd.R_drewN | apply Kd.R_drew)); exact HO_15.out) (Kd.R_base ho0) hb); have n1_ := Aside0.mk (Kd.R_lower (Kd.R_new' ho0 (Kd.R_lt (by (with_reducible repeat (first | apply Kd.R_alloc | apply Kd.R_drewN | apply Kd.R_drew)); exact HO_15.out))) (below_size (by repeat (first | (with_reducible first | exact HB.out | apply below_alloc | apply pw_below_drewN | apply below_drew1) | exact HB.out)))); have n2_ := Aside0.mk (below_step (by repeat (first | (with_reducible first | exact HB.out | apply below_alloc | apply pw_below_drewN | apply below_drew1) | exact HB.out)) hb); clear HO_15; clear HB; have HO_15 := n0_; have HO359 := n1_; have HB := n2_; clear n0_ n1_ n2_; (try clear hb); (try clear hb2); (try clear hk); (try clear hi); (try clear ho0); obtain ⟨Ao35, co35, eo35⟩ := Kd.R_slice HO359.out; subst eo35) | ((with_reducible refine gate_callee (f := 36) rfl ?_); refine goesL_ (some 52) rfl rfl Try.func36 (by kernel_rfl) rfl #[.slice Ao35 t357.length co35, .int .i64 t347] rfl (by (try simp only [List.map_toArray, List.map_cons, List.map_nil]); first | done | rfl | (simp only [List.length_drop, List.length_take]; rfl)) ?_; (with_reducible refine (shares_Join.calls _ _ t357 t347 t360 t361 _ ?side1 ?side2 A19.out).mono ?_); (case side1 => repeat (first | exact (Kd.R_reads' HO359.out).2.2 | (with_reducible refine Kd.C_alloc ?_ _) | (with_reducible refine Kd.C_drewN ?_ _) | (with_reducible refine Kd.C_drew ?_))); (case side2 => exact (Kd.R_reads' HO359.out).2.1); rintro e w36 ⟨rfl, hb⟩; refine ⟨_, rfl, ?_⟩; have n0_ := Aside0.mk (Kd.R_below (by (with_reducible repeat (first | apply Kd.R_alloc | apply Kd.R_drewN | apply Kd.R_drew)); exact HO_15.out) hb); have n1_ := Aside0.mk (Kd.R_below (by (with_reducible repeat (first | apply Kd.R_alloc | apply Kd.R_drewN | apply Kd.R_drew)); exact HO359.out) hb); have n2_ := Aside0.mk (below_step (by repeat (first | (with_reducible first | exact HB.out | apply below_alloc | apply pw_below_drewN | apply below_drew1) | exact HB.out)) hb); clear HO_15; clear HO359; clear HB; have HO_15 := n0_; have HO359 := n1_; have HB := n2_; clear n0_ n1_ n2_; (try clear hb); (try clear hb2); (try clear hk); (try clear hi)) | (go_at_call 34; (with_reducible refine (observatorylaw07_element.calls a0 t362 _ A32.out).mono ?_); rintro e w' ⟨rfl, ⟨nd, rfl⟩⟩))
              go_ret
              exact ⟨by first | rfl | (simp [errW_none, errW_some] <;> rfl) | (simp [*, errW_none, errW_some] <;> rfl), by repeat (first | (with_reducible first | exact HB.out | apply below_alloc | apply pw_below_drewN | apply below_drew1) | exact HB.out)⟩
            · rw [if_neg c31] at H
              have c31b0 : (t361 == 0) = false := beq_eq_false_iff_ne.mpr c31
              have c31b1 : (t361 != 0) = true := bne_iff_ne.mpr c31
              obtain rfl := Option.some.inj H
              obtain ⟨Ao37, co37, eo37⟩ := Kd.R_slice HO_15.out
              subst eo37
              go_wp2_with (first | ((with_reducible refine gate_callee (f := 35) rfl ?_); refine goesL_ (some 48) rfl rfl Try.func35 (by kernel_rfl) rfl #[.slice Ao37 t353.length co37, .int .u8 a4] rfl (by (try simp only [List.map_toArray, List.map_cons, List.map_nil]); first | done | rfl | (simp only [List.length_drop, List.length_take]; rfl)) ?_; (with_reducible refine (observatorylaw07_chosen.calls kj9 _ _ t353 a4 t357 _ ?side1 ?side2 A18.out).mono ?_); (case side1 => repeat (first | exact (Kd.R_reads' HO_15.out).2.2 | (with_reducible refine Kd.C_alloc ?_ _) | (with_reducible refine Kd.C_drewN ?_ _) | (with_reducible refine Kd.C_drew ?_))); (case side2 => exact (Kd.R_reads' HO_15.out).2.1); rintro e w38 ⟨v358, rfl, ho0, hb⟩; refine ⟨_, rfl, ?_⟩; have n0_ := Aside0.mk (Kd.R_elder' (by (with_reducible repeat (first | apply Kd.R_alloc | apply Kd.R_drewN | apply Kd.R_drew)); exact HO_15.out) (Kd.R_base ho0) hb); have n1_ := Aside0.mk (Kd.R_lower (Kd.R_new' ho0 (Kd.R_lt (by (with_reducible repeat (first | apply Kd.R_alloc | apply Kd.R_drewN | apply Kd.R_drew)); exact HO_15.out))) (below_size (by repeat (first | (with_reducible first | exact HB.out | apply below_alloc | apply pw_below_drewN | apply below_drew1) | exact HB.out)))); have n2_ := Aside0.mk (below_step (by repeat (first | (with_reducible first | exact HB.out | apply below_alloc | apply pw_below_drewN | apply below_drew1) | exact HB.out)) hb); clear HO_15; clear HB; have HO_15 := n0_; have HO359 := n1_; have HB := n2_; clear n0_ n1_ n2_; (try clear hb); (try clear hb2); (try clear hk); (try clear hi); (try clear ho0); obtain ⟨Ao39, co39, eo39⟩ := Kd.R_slice HO359.out; subst eo39) | ((with_reducible refine gate_callee (f := 36) rfl ?_); refine goesL_ (some 52) rfl rfl Try.func36 (by kernel_rfl) rfl #[.slice Ao39 t357.length co39, .int .i64 t347] rfl (by (try simp only [List.map_toArray, List.map_cons, List.map_nil]); first | done | rfl | (simp only [List.length_drop, List.length_take]; rfl)) ?_; (with_reducible refine (shares_Join.calls _ _ t357 t347 t360 t361 _ ?side1 ?side2 A19.out).mono ?_); (case side1 => repeat (first | exact (Kd.R_reads' HO359.out).2.2 | (with_reducible refine Kd.C_alloc ?_ _) | (with_reducible refine Kd.C_drewN ?_ _) | (with_reducible refine Kd.C_drew ?_))); (case side2 => exact (Kd.R_reads' HO359.out).2.1); rintro e w40 ⟨rfl, hb⟩; refine ⟨_, rfl, ?_⟩; have n0_ := Aside0.mk (Kd.R_below (by (with_reducible repeat (first | apply Kd.R_alloc | apply Kd.R_drewN | apply Kd.R_drew)); exact HO_15.out) hb); have n1_ := Aside0.mk (Kd.R_below (by (with_reducible repeat (first | apply Kd.R_alloc | apply Kd.R_drewN | apply Kd.R_drew)); exact HO359.out) hb); have n2_ := Aside0.mk (below_step (by repeat (first | (with_reducible first | exact HB.out | apply below_alloc | apply pw_below_drewN | apply below_drew1) | exact HB.out)) hb); clear HO_15; clear HO359; clear HB; have HO_15 := n0_; have HO359 := n1_; have HB := n2_; clear n0_ n1_ n2_; (try clear hb); (try clear hb2); (try clear hk); (try clear hi)))
              go_ret
              exact ⟨by first | rfl | (simp [errW_none, errW_some] <;> rfl) | (simp [*, errW_none, errW_some] <;> rfl), by repeat (first | (with_reducible first | exact HB.out | apply below_alloc | apply pw_below_drewN | apply below_drew1) | exact HB.out)⟩
          · replace c30 := Bool.eq_false_iff.mpr c30
            subst c30
            have H1 : (some false) = some r := by rw [if_neg (show ¬ (false = true) by decide)] at H; exact H
            clear H
            have H := H1
            clear H1
            obtain rfl := Option.some.inj H
            obtain ⟨Ao41, co41, eo41⟩ := Kd.R_slice HO_15.out
            subst eo41
            go_wp2_with (first | ((with_reducible refine gate_callee (f := 35) rfl ?_); refine goesL_ (some 48) rfl rfl Try.func35 (by kernel_rfl) rfl #[.slice Ao41 t353.length co41, .int .u8 a4] rfl (by (try simp only [List.map_toArray, List.map_cons, List.map_nil]); first | done | rfl | (simp only [List.length_drop, List.length_take]; rfl)) ?_; (with_reducible refine (observatorylaw07_chosen.calls kj9 _ _ t353 a4 t357 _ ?side1 ?side2 A18.out).mono ?_); (case side1 => repeat (first | exact (Kd.R_reads' HO_15.out).2.2 | (with_reducible refine Kd.C_alloc ?_ _) | (with_reducible refine Kd.C_drewN ?_ _) | (with_reducible refine Kd.C_drew ?_))); (case side2 => exact (Kd.R_reads' HO_15.out).2.1); rintro e w42 ⟨v358, rfl, ho0, hb⟩; refine ⟨_, rfl, ?_⟩; have n0_ := Aside0.mk (Kd.R_elder' (by (with_reducible repeat (first | apply Kd.R_alloc | apply Kd.R_drewN | apply Kd.R_drew)); exact HO_15.out) (Kd.R_base ho0) hb); have n1_ := Aside0.mk (Kd.R_lower (Kd.R_new' ho0 (Kd.R_lt (by (with_reducible repeat (first | apply Kd.R_alloc | apply Kd.R_drewN | apply Kd.R_drew)); exact HO_15.out))) (below_size (by repeat (first | (with_reducible first | exact HB.out | apply below_alloc | apply pw_below_drewN | apply below_drew1) | exact HB.out)))); have n2_ := Aside0.mk (below_step (by repeat (first | (with_reducible first | exact HB.out | apply below_alloc | apply pw_below_drewN | apply below_drew1) | exact HB.out)) hb); clear HO_15; clear HB; have HO_15 := n0_; have HO359 := n1_; have HB := n2_; clear n0_ n1_ n2_; (try clear hb); (try clear hb2); (try clear hk); (try clear hi); (try clear ho0); obtain ⟨Ao43, co43, eo43⟩ := Kd.R_slice HO359.out; subst eo43) | ((with_reducible refine gate_callee (f := 36) rfl ?_); refine goesL_ (some 52) rfl rfl Try.func36 (by kernel_rfl) rfl #[.slice Ao43 t357.length co43, .int .i64 t347] rfl (by (try simp only [List.map_toArray, List.map_cons, List.map_nil]); first | done | rfl | (simp only [List.length_drop, List.length_take]; rfl)) ?_; (with_reducible refine (shares_Join.calls _ _ t357 t347 t360 t361 _ ?side1 ?side2 A19.out).mono ?_); (case side1 => repeat (first | exact (Kd.R_reads' HO359.out).2.2 | (with_reducible refine Kd.C_alloc ?_ _) | (with_reducible refine Kd.C_drewN ?_ _) | (with_reducible refine Kd.C_drew ?_))); (case side2 => exact (Kd.R_reads' HO359.out).2.1); rintro e w44 ⟨rfl, hb⟩; refine ⟨_, rfl, ?_⟩; have n0_ := Aside0.mk (Kd.R_below (by (with_reducible repeat (first | apply Kd.R_alloc | apply Kd.R_drewN | apply Kd.R_drew)); exact HO_15.out) hb); have n1_ := Aside0.mk (Kd.R_below (by (with_reducible repeat (first | apply Kd.R_alloc | apply Kd.R_drewN | apply Kd.R_drew)); exact HO359.out) hb); have n2_ := Aside0.mk (below_step (by repeat (first | (with_reducible first | exact HB.out | apply below_alloc | apply pw_below_drewN | apply below_drew1) | exact HB.out)) hb); clear HO_15; clear HO359; clear HB; have HO_15 := n0_; have HO359 := n1_; have HB := n2_; clear n0_ n1_ n2_; (try clear hb); (try clear hb2); (try clear hk); (try clear hi)))
            go_ret
            exact ⟨by first | rfl | (simp [errW_none, errW_some] <;> rfl) | (simp [*, errW_none, errW_some] <;> rfl), by repeat (first | (with_reducible first | exact HB.out | apply below_alloc | apply pw_below_drewN | apply below_drew1) | exact HB.out)⟩

/-- THE ONE PURE STATEMENT of observatorylaw07_SharesRecover: yours. -/
def observatorylaw07_SharesRecover.Pure : Prop := ∀ (a0 : Int) (l1 : List Int) (a2 : Int) (a3 : Int) (a4 : Int), (Lit.int .i64 a0).wf = true → l1.length ≤ maxLen → l1.length * 8 ≤ 140737488351232 → (∀ x ∈ l1, (Lit.int .i64 x).wf = true) → (Lit.int .u8 a2).wf = true → (Lit.int .u8 a3).wf = true → (Lit.int .u8 a4).wf = true → ∃ k, observatorylaw07_SharesRecover.f k a0 l1 a2 a3 a4 = some true
theorem observatorylaw07_SharesRecover.walk (P : observatorylaw07_SharesRecover.Pure) (a0 : Int) (a1 : Option Addr) (len1 cap1 : Nat) (z1 : List Int) (a2 : Int) (a3 : Int) (a4 : Int) (w : World) (w0 : (Lit.int .i64 a0).wf = true) (w1 : (a1 = none ∧ len1 = 0 ∧ cap1 = 0 ∧ z1 = []) ∨ ∃ x, a1 = some x ∧ len1 ≤ cap1 ∧ cap1 ≤ maxLen ∧ z1.length = cap1 ∧ (∀ i, i < z1.length → w.cell? (x.add i) = some (.int .i64 (z1.getD i 0))) ∧ ∀ n ∈ z1, (Lit.int .i64 n).wf = true) (y1 : len1 * 8 ≤ 140737488351232) (w2 : (Lit.int .u8 a2).wf = true) (w3 : (Lit.int .u8 a3).wf = true) (w4 : (Lit.int .u8 a4).wf = true) :
    Calls Try.prog 10 #[.int .i64 a0, .slice a1 len1 cap1, .int .u8 a2, .int .u8 a3, .int .u8 a4] w fun e w' => e = .returned (.bool true) ∧ Below w.heap.size w w' := by
  obtain ⟨l1, rfl, hr1, hm1, hw1, hc1⟩ := ReadsInt.ofRowC w1
  obtain ⟨k, h⟩ := P a0 l1 a2 a3 a4 w0 hm1 y1 hw1 w2 w3 w4
  refine (observatorylaw07_SharesRecover.calls k a0 _ _ l1 a2 a3 a4 true w (Kd.C_of_reads (d := (0 : Int)) (h1 := fun _ => rfl) hr1) hc1 h).mono ?_
  rintro e w' ⟨rfl, hd⟩
  exact ⟨rfl, hd⟩

/-! ### observatorylaw07_SharesDiffer: function 11 -/
mutual
def observatorylaw07_SharesDiffer.j0 : Nat → Int → Bool → Int → Int → List Int → List Int → List (S54) → List (S54) → Bool → Option (Bool)
  | 0, _, _, _, _, _, _, _, _, _ => none
  | k + 1, x5, x13, x14, x15, x16, x19, x20, x22, x80 => if x80 = true then (some false) else (observatorylaw07_SharesDiffer.l0 k x5 x13 x14 x15 x16 x19 x20 x22 true true 0)
def observatorylaw07_SharesDiffer.l0 : Nat → Int → Bool → Int → Int → List Int → List Int → List (S54) → List (S54) → Bool → Bool → Int → Option (Bool)
  | 0, _, _, _, _, _, _, _, _, _, _, _ => none
  | k + 1, x5, x13, x14, x15, x16, x19, x20, x22, x24, x25, x26 => if x26 < (wrap64 (x14 - 1)) then (if x15 = 0 then (none) else (if x24 = true then (if 0 ≤ x26 then (if x26 < (x16.length : Int) then (if x26 < (x19.length : Int) then (if x25 = true then (if 0 ≤ (Int.tmod (wrap64 ((wrap64 (x5)) + x26)) x15) then (if (Int.tmod (wrap64 ((wrap64 (x5)) + x26)) x15) < (x20.length : Int) then (if (Int.tmod (wrap64 ((wrap64 (x5)) + x26)) x15) < (x22.length : Int) then (observatorylaw07_SharesDiffer.l0 k x5 x13 x14 x15 x16 x19 x20 x22 ((rd x16 x26) == (rd x19 x26)) (((rd_T54 x20 (Int.tmod (wrap64 ((wrap64 (x5)) + x26)) x15)).f0) == ((rd_T54 x22 (Int.tmod (wrap64 ((wrap64 (x5)) + x26)) x15)).f0) && (((rd_T54 x20 (Int.tmod (wrap64 ((wrap64 (x5)) + x26)) x15)).f1) == ((rd_T54 x22 (Int.tmod (wrap64 ((wrap64 (x5)) + x26)) x15)).f1))) (wrap64 (x26 + 1))) else (none)) else (none)) else (none)) else (observatorylaw07_SharesDiffer.l0 k x5 x13 x14 x15 x16 x19 x20 x22 ((rd x16 x26) == (rd x19 x26)) false (wrap64 (x26 + 1)))) else (none)) else (none)) else (none)) else (if x25 = true then (if 0 ≤ (Int.tmod (wrap64 ((wrap64 (x5)) + x26)) x15) then (if (Int.tmod (wrap64 ((wrap64 (x5)) + x26)) x15) < (x20.length : Int) then (if (Int.tmod (wrap64 ((wrap64 (x5)) + x26)) x15) < (x22.length : Int) then (observatorylaw07_SharesDiffer.l0 k x5 x13 x14 x15 x16 x19 x20 x22 false (((rd_T54 x20 (Int.tmod (wrap64 ((wrap64 (x5)) + x26)) x15)).f0) == ((rd_T54 x22 (Int.tmod (wrap64 ((wrap64 (x5)) + x26)) x15)).f0) && (((rd_T54 x20 (Int.tmod (wrap64 ((wrap64 (x5)) + x26)) x15)).f1) == ((rd_T54 x22 (Int.tmod (wrap64 ((wrap64 (x5)) + x26)) x15)).f1))) (wrap64 (x26 + 1))) else (none)) else (none)) else (none)) else (observatorylaw07_SharesDiffer.l0 k x5 x13 x14 x15 x16 x19 x20 x22 false false (wrap64 (x26 + 1)))))) else (if x13 = true then (some (x24 == x25)) else (some false))
end
def observatorylaw07_SharesDiffer.f (k : Nat) (a0 : Int) (l1 : List Int) (l2 : List Int) (a3 : Int) (a4 : Int) (a5 : Int) : Option (Bool) := (observatorylaw07_head.f).bind fun t363 => ((observatorylaw07_made.f k l1 a3 a4).bind fun bt364 => ((observatorylaw07_made.f k l2 a3 a4).bind fun bt369 => ((observatorylaw07_element.f a0).bind fun t374 => ((shares_Split.f t374 bt364.1 bt364.2.1 bt364.2.2).bind fun bt375 => ((observatorylaw07_element.f a0).bind fun t379 => ((shares_Split.f t379 bt364.1 bt364.2.1 bt369.2.2).bind fun bt380 => (if bt375.2 = 0 then (if bt380.2 = 0 then (if (bt375.1.length : Int) = bt364.2.1 then (observatorylaw07_SharesDiffer.j0 k a5 t363 bt364.1 bt364.2.1 bt364.2.2 bt369.2.2 bt375.1 bt380.1 ((bt380.1.length : Int) != bt364.2.1)) else (observatorylaw07_SharesDiffer.j0 k a5 t363 bt364.1 bt364.2.1 bt364.2.2 bt369.2.2 bt375.1 bt380.1 true)) else (observatorylaw07_SharesDiffer.j0 k a5 t363 bt364.1 bt364.2.1 bt364.2.2 bt369.2.2 bt375.1 bt380.1 true)) else (observatorylaw07_SharesDiffer.j0 k a5 t363 bt364.1 bt364.2.1 bt364.2.2 bt369.2.2 bt375.1 bt380.1 true))))))))
theorem observatorylaw07_SharesDiffer.mono_l : ∀ k, (∀ y0 y1 y2 y3 y4 y5 y6 y7 y8, LeO (observatorylaw07_SharesDiffer.j0 k y0 y1 y2 y3 y4 y5 y6 y7 y8) (observatorylaw07_SharesDiffer.j0 (k + 1) y0 y1 y2 y3 y4 y5 y6 y7 y8)) ∧ (∀ y0 y1 y2 y3 y4 y5 y6 y7 y8 y9 y10, LeO (observatorylaw07_SharesDiffer.l0 k y0 y1 y2 y3 y4 y5 y6 y7 y8 y9 y10) (observatorylaw07_SharesDiffer.l0 (k + 1) y0 y1 y2 y3 y4 y5 y6 y7 y8 y9 y10))
  | 0 => ⟨fun _ _ _ _ _ _ _ _ _ r h => by simp [observatorylaw07_SharesDiffer.j0] at h, fun _ _ _ _ _ _ _ _ _ _ _ r h => by simp [observatorylaw07_SharesDiffer.l0] at h⟩
  | k + 1 => by
    obtain ⟨ih0, ih1⟩ := observatorylaw07_SharesDiffer.mono_l k
    refine ⟨?_, ?_⟩
    · intro y0 y1 y2 y3 y4 y5 y6 y7 y8
      unfold observatorylaw07_SharesDiffer.j0
      repeat' first
      | (with_reducible exact ih0 _ _ _ _ _ _ _ _ _)
      | (with_reducible exact ih1 _ _ _ _ _ _ _ _ _ _ _)
      | (with_reducible exact observatorylaw07_made.mono _ _ _ _)
      | (with_reducible exact LeO.refl _)
      | (with_reducible exact LeO.none _)
      | (with_reducible refine LeO.ite ?_ ?_)
      | (with_reducible refine LeO.bind ?_ (fun _ => ?_))
      | exact ih0 _ _ _ _ _ _ _ _ _
      | exact ih1 _ _ _ _ _ _ _ _ _ _ _
      | exact observatorylaw07_made.mono _ _ _ _
      | exact LeO.none _
      | refine LeO.ite ?_ ?_
      | refine LeO.bind ?_ (fun _ => ?_)
    · intro y0 y1 y2 y3 y4 y5 y6 y7 y8 y9 y10
      unfold observatorylaw07_SharesDiffer.l0
      repeat' first
      | (with_reducible exact ih0 _ _ _ _ _ _ _ _ _)
      | (with_reducible exact ih1 _ _ _ _ _ _ _ _ _ _ _)
      | (with_reducible exact observatorylaw07_made.mono _ _ _ _)
      | (with_reducible exact LeO.refl _)
      | (with_reducible exact LeO.none _)
      | (with_reducible refine LeO.ite ?_ ?_)
      | (with_reducible refine LeO.bind ?_ (fun _ => ?_))
      | exact ih0 _ _ _ _ _ _ _ _ _
      | exact ih1 _ _ _ _ _ _ _ _ _ _ _
      | exact observatorylaw07_made.mono _ _ _ _
      | exact LeO.none _
      | refine LeO.ite ?_ ?_
      | refine LeO.bind ?_ (fun _ => ?_)
theorem observatorylaw07_SharesDiffer.mono : ∀ a0 a1 a2 a3 a4 a5 k, LeO (observatorylaw07_SharesDiffer.f k a0 a1 a2 a3 a4 a5) (observatorylaw07_SharesDiffer.f (k + 1) a0 a1 a2 a3 a4 a5) := by
  intro a0 a1 a2 a3 a4 a5 k
  obtain ⟨ih0, ih1⟩ := observatorylaw07_SharesDiffer.mono_l k
  unfold observatorylaw07_SharesDiffer.f
  repeat' first
      | (with_reducible exact ih0 _ _ _ _ _ _ _ _ _)
      | (with_reducible exact ih1 _ _ _ _ _ _ _ _ _ _ _)
      | (with_reducible exact observatorylaw07_made.mono _ _ _ _)
      | (with_reducible exact LeO.refl _)
      | (with_reducible exact LeO.none _)
      | (with_reducible refine LeO.ite ?_ ?_)
      | (with_reducible refine LeO.bind ?_ (fun _ => ?_))
      | exact ih0 _ _ _ _ _ _ _ _ _
      | exact ih1 _ _ _ _ _ _ _ _ _ _ _
      | exact observatorylaw07_made.mono _ _ _ _
      | exact LeO.none _
      | refine LeO.ite ?_ ?_
      | refine LeO.bind ?_ (fun _ => ?_)
set_option maxHeartbeats 8000000 in
set_option maxRecDepth 100000 in
theorem observatorylaw07_SharesDiffer.calls (k : Nat) (a0 : Int) (A1 : Option Addr) (c1 : Nat) (l1 : List Int) (A2 : Option Addr) (c2 : Nat) (l2 : List Int) (a3 : Int) (a4 : Int) (a5 : Int) (r : Bool) (w : World) (hr1 : Kd.C (Kd.int .i64) w A1 l1.length l1) (hc1 : l1.length ≤ c1) (hr2 : Kd.C (Kd.int .i64) w A2 l2.length l2) (hc2 : l2.length ≤ c2) (h : observatorylaw07_SharesDiffer.f k a0 l1 l2 a3 a4 a5 = some r) :
    Calls Try.prog 11 #[.int .i64 a0, .slice A1 l1.length c1, .slice A2 l2.length c2, .int .u8 a3, .int .u8 a4, .int .u8 a5] w fun e w' => e = .returned (.bool r) ∧ Below w.heap.size w w' := by
  have hu54 := Try.underlying54
  have HR1 := Aside0.mk hr1
  have HC1 := Aside0.mk hc1
  clear hr1 hc1
  have HR2 := Aside0.mk hr2
  have HC2 := Aside0.mk hc2
  clear hr2 hc2
  have HB := Aside0.mk (Below.refl w.heap.size w)
  have H : ((observatorylaw07_head.f).bind fun t363 => ((observatorylaw07_made.f k l1 a3 a4).bind fun bt364 => ((observatorylaw07_made.f k l2 a3 a4).bind fun bt369 => ((observatorylaw07_element.f a0).bind fun t374 => ((shares_Split.f t374 bt364.1 bt364.2.1 bt364.2.2).bind fun bt375 => ((observatorylaw07_element.f a0).bind fun t379 => ((shares_Split.f t379 bt364.1 bt364.2.1 bt369.2.2).bind fun bt380 => (if bt375.2 = 0 then (if bt380.2 = 0 then (if (bt375.1.length : Int) = bt364.2.1 then (observatorylaw07_SharesDiffer.j0 k a5 t363 bt364.1 bt364.2.1 bt364.2.2 bt369.2.2 bt375.1 bt380.1 ((bt380.1.length : Int) != bt364.2.1)) else (observatorylaw07_SharesDiffer.j0 k a5 t363 bt364.1 bt364.2.1 bt364.2.2 bt369.2.2 bt375.1 bt380.1 true)) else (observatorylaw07_SharesDiffer.j0 k a5 t363 bt364.1 bt364.2.1 bt364.2.2 bt369.2.2 bt375.1 bt380.1 true)) else (observatorylaw07_SharesDiffer.j0 k a5 t363 bt364.1 bt364.2.1 bt364.2.2 bt369.2.2 bt375.1 bt380.1 true))))))))) = some r := h
  clear h
  replace H := Option.bind_eq_some_iff.mp H
  obtain ⟨t363, A70, H⟩ := H
  replace H : ((observatorylaw07_made.f k l1 a3 a4).bind fun bt364 => ((observatorylaw07_made.f k l2 a3 a4).bind fun bt369 => ((observatorylaw07_element.f a0).bind fun t374 => ((shares_Split.f t374 bt364.1 bt364.2.1 bt364.2.2).bind fun bt375 => ((observatorylaw07_element.f a0).bind fun t379 => ((shares_Split.f t379 bt364.1 bt364.2.1 bt369.2.2).bind fun bt380 => (if bt375.2 = 0 then (if bt380.2 = 0 then (if (bt375.1.length : Int) = bt364.2.1 then (observatorylaw07_SharesDiffer.j0 k a5 t363 bt364.1 bt364.2.1 bt364.2.2 bt369.2.2 bt375.1 bt380.1 ((bt380.1.length : Int) != bt364.2.1)) else (observatorylaw07_SharesDiffer.j0 k a5 t363 bt364.1 bt364.2.1 bt364.2.2 bt369.2.2 bt375.1 bt380.1 true)) else (observatorylaw07_SharesDiffer.j0 k a5 t363 bt364.1 bt364.2.1 bt364.2.2 bt369.2.2 bt375.1 bt380.1 true)) else (observatorylaw07_SharesDiffer.j0 k a5 t363 bt364.1 bt364.2.1 bt364.2.2 bt369.2.2 bt375.1 bt380.1 true)))))))) = some r := H
  have A7 := Aside0.mk A70
  clear A70
  replace H := Option.bind_eq_some_iff.mp H
  obtain ⟨⟨t364, t365, t366⟩, A80, H⟩ := H
  replace H : ((observatorylaw07_made.f k l2 a3 a4).bind fun bt369 => ((observatorylaw07_element.f a0).bind fun t374 => ((shares_Split.f t374 t364 t365 t366).bind fun bt375 => ((observatorylaw07_element.f a0).bind fun t379 => ((shares_Split.f t379 t364 t365 bt369.2.2).bind fun bt380 => (if bt375.2 = 0 then (if bt380.2 = 0 then (if (bt375.1.length : Int) = t365 then (observatorylaw07_SharesDiffer.j0 k a5 t363 t364 t365 t366 bt369.2.2 bt375.1 bt380.1 ((bt380.1.length : Int) != t365)) else (observatorylaw07_SharesDiffer.j0 k a5 t363 t364 t365 t366 bt369.2.2 bt375.1 bt380.1 true)) else (observatorylaw07_SharesDiffer.j0 k a5 t363 t364 t365 t366 bt369.2.2 bt375.1 bt380.1 true)) else (observatorylaw07_SharesDiffer.j0 k a5 t363 t364 t365 t366 bt369.2.2 bt375.1 bt380.1 true))))))) = some r := H
  have A8 := Aside0.mk A80
  clear A80
  replace H := Option.bind_eq_some_iff.mp H
  obtain ⟨⟨t369, t370, t371⟩, A90, H⟩ := H
  replace H : ((observatorylaw07_element.f a0).bind fun t374 => ((shares_Split.f t374 t364 t365 t366).bind fun bt375 => ((observatorylaw07_element.f a0).bind fun t379 => ((shares_Split.f t379 t364 t365 t371).bind fun bt380 => (if bt375.2 = 0 then (if bt380.2 = 0 then (if (bt375.1.length : Int) = t365 then (observatorylaw07_SharesDiffer.j0 k a5 t363 t364 t365 t366 t371 bt375.1 bt380.1 ((bt380.1.length : Int) != t365)) else (observatorylaw07_SharesDiffer.j0 k a5 t363 t364 t365 t366 t371 bt375.1 bt380.1 true)) else (observatorylaw07_SharesDiffer.j0 k a5 t363 t364 t365 t366 t371 bt375.1 bt380.1 true)) else (observatorylaw07_SharesDiffer.j0 k a5 t363 t364 t365 t366 t371 bt375.1 bt380.1 true)))))) = some r := H
  have A9 := Aside0.mk A90
  clear A90
  replace H := Option.bind_eq_some_iff.mp H
  obtain ⟨t374, A100, H⟩ := H
  replace H : ((shares_Split.f t374 t364 t365 t366).bind fun bt375 => ((observatorylaw07_element.f a0).bind fun t379 => ((shares_Split.f t379 t364 t365 t371).bind fun bt380 => (if bt375.2 = 0 then (if bt380.2 = 0 then (if (bt375.1.length : Int) = t365 then (observatorylaw07_SharesDiffer.j0 k a5 t363 t364 t365 t366 t371 bt375.1 bt380.1 ((bt380.1.length : Int) != t365)) else (observatorylaw07_SharesDiffer.j0 k a5 t363 t364 t365 t366 t371 bt375.1 bt380.1 true)) else (observatorylaw07_SharesDiffer.j0 k a5 t363 t364 t365 t366 t371 bt375.1 bt380.1 true)) else (observatorylaw07_SharesDiffer.j0 k a5 t363 t364 t365 t366 t371 bt375.1 bt380.1 true))))) = some r := H
  have A10 := Aside0.mk A100
  clear A100
  replace H := Option.bind_eq_some_iff.mp H
  obtain ⟨⟨t375, t376⟩, A110, H⟩ := H
  replace H : ((observatorylaw07_element.f a0).bind fun t379 => ((shares_Split.f t379 t364 t365 t371).bind fun bt380 => (if t376 = 0 then (if bt380.2 = 0 then (if (t375.length : Int) = t365 then (observatorylaw07_SharesDiffer.j0 k a5 t363 t364 t365 t366 t371 t375 bt380.1 ((bt380.1.length : Int) != t365)) else (observatorylaw07_SharesDiffer.j0 k a5 t363 t364 t365 t366 t371 t375 bt380.1 true)) else (observatorylaw07_SharesDiffer.j0 k a5 t363 t364 t365 t366 t371 t375 bt380.1 true)) else (observatorylaw07_SharesDiffer.j0 k a5 t363 t364 t365 t366 t371 t375 bt380.1 true)))) = some r := H
  have A11 := Aside0.mk A110
  clear A110
  replace H := Option.bind_eq_some_iff.mp H
  obtain ⟨t379, A120, H⟩ := H
  replace H : ((shares_Split.f t379 t364 t365 t371).bind fun bt380 => (if t376 = 0 then (if bt380.2 = 0 then (if (t375.length : Int) = t365 then (observatorylaw07_SharesDiffer.j0 k a5 t363 t364 t365 t366 t371 t375 bt380.1 ((bt380.1.length : Int) != t365)) else (observatorylaw07_SharesDiffer.j0 k a5 t363 t364 t365 t366 t371 t375 bt380.1 true)) else (observatorylaw07_SharesDiffer.j0 k a5 t363 t364 t365 t366 t371 t375 bt380.1 true)) else (observatorylaw07_SharesDiffer.j0 k a5 t363 t364 t365 t366 t371 t375 bt380.1 true))) = some r := H
  have A12 := Aside0.mk A120
  clear A120
  replace H := Option.bind_eq_some_iff.mp H
  obtain ⟨⟨t380, t381⟩, A130, H⟩ := H
  replace H : (if t376 = 0 then (if t381 = 0 then (if (t375.length : Int) = t365 then (observatorylaw07_SharesDiffer.j0 k a5 t363 t364 t365 t366 t371 t375 t380 ((t380.length : Int) != t365)) else (observatorylaw07_SharesDiffer.j0 k a5 t363 t364 t365 t366 t371 t375 t380 true)) else (observatorylaw07_SharesDiffer.j0 k a5 t363 t364 t365 t366 t371 t375 t380 true)) else (observatorylaw07_SharesDiffer.j0 k a5 t363 t364 t365 t366 t371 t375 t380 true)) = some r := H
  have A13 := Aside0.mk A130
  clear A130
  have HC14 := Aside0.mk H
  clear H
  go_enter Try.func11, Try.ntmps11
  go_upto_region 6 with (first | (go_at_call 31; (with_reducible refine (observatorylaw07_head.calls  t363 _ A7.out).mono ?_); rintro e w15 ⟨rfl, hb⟩; have n0_ := Aside0.mk (below_step (by repeat (first | (with_reducible first | exact HB.out | apply below_alloc | apply pw_below_drewN | apply below_drew1) | exact HB.out)) hb); clear HB; have HB := n0_; clear n0_; (try clear hb); (try clear hb2); (try clear hk); (try clear hi)) | (go_at_call 32; (with_reducible refine (observatorylaw07_made.calls k _ _ l1 a3 a4 t364 t365 t366 _ ?side1 ?side2 A8.out).mono ?_); (case side1 => repeat (first | exact (Kd.C_below HR1.out HB.out) | (with_reducible refine Kd.C_alloc ?_ _) | (with_reducible refine Kd.C_drewN ?_ _) | (with_reducible refine Kd.C_drew ?_))); (case side2 => exact HC1.out); rintro e w16 ⟨v367, rfl, ho0, hb⟩; have n0_ := Aside0.mk (Kd.R_lower ho0 (below_size (by repeat (first | (with_reducible first | exact HB.out | apply below_alloc | apply pw_below_drewN | apply below_drew1) | exact HB.out)))); have n1_ := Aside0.mk (below_step (by repeat (first | (with_reducible first | exact HB.out | apply below_alloc | apply pw_below_drewN | apply below_drew1) | exact HB.out)) hb); clear HB; have HO368 := n0_; have HB := n1_; clear n0_ n1_; (try clear hb); (try clear hb2); (try clear hk); (try clear hi); (try clear ho0)) | (go_at_call 32; (with_reducible refine (observatorylaw07_made.calls k _ _ l2 a3 a4 t369 t370 t371 _ ?side1 ?side2 A9.out).mono ?_); (case side1 => repeat (first | exact (Kd.C_below HR2.out HB.out) | (with_reducible refine Kd.C_alloc ?_ _) | (with_reducible refine Kd.C_drewN ?_ _) | (with_reducible refine Kd.C_drew ?_))); (case side2 => exact HC2.out); rintro e w17 ⟨v372, rfl, ho0, hb⟩; have n0_ := Aside0.mk (Kd.R_elder' (by (with_reducible repeat (first | apply Kd.R_alloc | apply Kd.R_drewN | apply Kd.R_drew)); exact HO368.out) (Kd.R_base ho0) hb); have n1_ := Aside0.mk (Kd.R_lower (Kd.R_new' ho0 (Kd.R_lt (by (with_reducible repeat (first | apply Kd.R_alloc | apply Kd.R_drewN | apply Kd.R_drew)); exact HO368.out))) (below_size (by repeat (first | (with_reducible first | exact HB.out | apply below_alloc | apply pw_below_drewN | apply below_drew1) | exact HB.out)))); have n2_ := Aside0.mk (below_step (by repeat (first | (with_reducible first | exact HB.out | apply below_alloc | apply pw_below_drewN | apply below_drew1) | exact HB.out)) hb); clear HO368; clear HB; have HO368 := n0_; have HO373 := n1_; have HB := n2_; clear n0_ n1_ n2_; (try clear hb); (try clear hb2); (try clear hk); (try clear hi); (try clear ho0)) | (go_at_call 34; (with_reducible refine (observatorylaw07_element.calls a0 t374 _ A10.out).mono ?_); rintro e w' ⟨rfl, ⟨nd, rfl⟩⟩; (try first | exact ⟨rfl, _, World.drewN_drewN _ _ _⟩ | exact ⟨rfl, _, Eq.trans (World.drewN_drewN _ _ _) (congrArg (World.drewN _) (Nat.add_assoc _ _ _))⟩); obtain ⟨Ao18, co18, eo18⟩ := Kd.R_slice HO368.out; subst eo18) | (go_at_call 33; (with_reducible refine (shares_Split.calls t374 t364 t365 _ _ t366 t375 t376 _ ?side1 ?side2 A11.out).mono ?_); (case side1 => repeat (first | exact (Kd.R_reads' HO368.out).2.2 | (with_reducible refine Kd.C_alloc ?_ _) | (with_reducible refine Kd.C_drewN ?_ _) | (with_reducible refine Kd.C_drew ?_))); (case side2 => exact (Kd.R_reads' HO368.out).2.1); rintro e w19 ⟨v377, rfl, ho0, hb⟩; have n0_ := Aside0.mk (Kd.R_below (by (with_reducible repeat (first | apply Kd.R_alloc | apply Kd.R_drewN | apply Kd.R_drew)); exact HO368.out) hb); have n1_ := Aside0.mk (Kd.R_below (by (with_reducible repeat (first | apply Kd.R_alloc | apply Kd.R_drewN | apply Kd.R_drew)); exact HO373.out) hb); have n2_ := Aside0.mk (Kd.R_lower ho0 (below_size (by repeat (first | (with_reducible first | exact HB.out | apply below_alloc | apply pw_below_drewN | apply below_drew1) | exact HB.out)))); have n3_ := Aside0.mk (below_step (by repeat (first | (with_reducible first | exact HB.out | apply below_alloc | apply pw_below_drewN | apply below_drew1) | exact HB.out)) hb); clear HO368; clear HO373; clear HB; have HO368 := n0_; have HO373 := n1_; have HO378 := n2_; have HB := n3_; clear n0_ n1_ n2_ n3_; (try clear hb); (try clear hb2); (try clear hk); (try clear hi); (try clear ho0)) | (go_at_call 34; (with_reducible refine (observatorylaw07_element.calls a0 t379 _ A12.out).mono ?_); rintro e w' ⟨rfl, ⟨nd, rfl⟩⟩; (try first | exact ⟨rfl, _, World.drewN_drewN _ _ _⟩ | exact ⟨rfl, _, Eq.trans (World.drewN_drewN _ _ _) (congrArg (World.drewN _) (Nat.add_assoc _ _ _))⟩); obtain ⟨Ao20, co20, eo20⟩ := Kd.R_slice HO373.out; subst eo20) | (go_at_call 33; (with_reducible refine (shares_Split.calls t379 t364 t365 _ _ t371 t380 t381 _ ?side1 ?side2 A13.out).mono ?_); (case side1 => repeat (first | exact (Kd.R_reads' HO373.out).2.2 | (with_reducible refine Kd.C_alloc ?_ _) | (with_reducible refine Kd.C_drewN ?_ _) | (with_reducible refine Kd.C_drew ?_))); (case side2 => exact (Kd.R_reads' HO373.out).2.1); rintro e w21 ⟨v382, rfl, ho0, hb⟩; have n0_ := Aside0.mk (Kd.R_below (by (with_reducible repeat (first | apply Kd.R_alloc | apply Kd.R_drewN | apply Kd.R_drew)); exact HO368.out) hb); have n1_ := Aside0.mk (Kd.R_below (by (with_reducible repeat (first | apply Kd.R_alloc | apply Kd.R_drewN | apply Kd.R_drew)); exact HO373.out) hb); have n2_ := Aside0.mk (Kd.R_elder' (by (with_reducible repeat (first | apply Kd.R_alloc | apply Kd.R_drewN | apply Kd.R_drew)); exact HO378.out) (Kd.R_base ho0) hb); have n3_ := Aside0.mk (Kd.R_lower (Kd.R_new' ho0 (Kd.R_lt (by (with_reducible repeat (first | apply Kd.R_alloc | apply Kd.R_drewN | apply Kd.R_drew)); exact HO378.out))) (below_size (by repeat (first | (with_reducible first | exact HB.out | apply below_alloc | apply pw_below_drewN | apply below_drew1) | exact HB.out)))); have n4_ := Aside0.mk (below_step (by repeat (first | (with_reducible first | exact HB.out | apply below_alloc | apply pw_below_drewN | apply below_drew1) | exact HB.out)) hb); clear HO368; clear HO373; clear HO378; clear HB; have HO368 := n0_; have HO373 := n1_; have HO378 := n2_; have HO383 := n3_; have HB := n4_; clear n0_ n1_ n2_ n3_ n4_; (try clear hb); (try clear hb2); (try clear hk); (try clear hi); (try clear ho0)))
  repeat (go_quiet (first | (go_at_call 31; (with_reducible refine (observatorylaw07_head.calls  t363 _ A7.out).mono ?_); rintro e w15 ⟨rfl, hb⟩; have n0_ := Aside0.mk (below_step (by repeat (first | (with_reducible first | exact HB.out | apply below_alloc | apply pw_below_drewN | apply below_drew1) | exact HB.out)) hb); clear HB; have HB := n0_; clear n0_; (try clear hb); (try clear hb2); (try clear hk); (try clear hi)) | (go_at_call 32; (with_reducible refine (observatorylaw07_made.calls k _ _ l1 a3 a4 t364 t365 t366 _ ?side1 ?side2 A8.out).mono ?_); (case side1 => repeat (first | exact (Kd.C_below HR1.out HB.out) | (with_reducible refine Kd.C_alloc ?_ _) | (with_reducible refine Kd.C_drewN ?_ _) | (with_reducible refine Kd.C_drew ?_))); (case side2 => exact HC1.out); rintro e w16 ⟨v367, rfl, ho0, hb⟩; have n0_ := Aside0.mk (Kd.R_lower ho0 (below_size (by repeat (first | (with_reducible first | exact HB.out | apply below_alloc | apply pw_below_drewN | apply below_drew1) | exact HB.out)))); have n1_ := Aside0.mk (below_step (by repeat (first | (with_reducible first | exact HB.out | apply below_alloc | apply pw_below_drewN | apply below_drew1) | exact HB.out)) hb); clear HB; have HO368 := n0_; have HB := n1_; clear n0_ n1_; (try clear hb); (try clear hb2); (try clear hk); (try clear hi); (try clear ho0)) | (go_at_call 32; (with_reducible refine (observatorylaw07_made.calls k _ _ l2 a3 a4 t369 t370 t371 _ ?side1 ?side2 A9.out).mono ?_); (case side1 => repeat (first | exact (Kd.C_below HR2.out HB.out) | (with_reducible refine Kd.C_alloc ?_ _) | (with_reducible refine Kd.C_drewN ?_ _) | (with_reducible refine Kd.C_drew ?_))); (case side2 => exact HC2.out); rintro e w17 ⟨v372, rfl, ho0, hb⟩; have n0_ := Aside0.mk (Kd.R_elder' (by (with_reducible repeat (first | apply Kd.R_alloc | apply Kd.R_drewN | apply Kd.R_drew)); exact HO368.out) (Kd.R_base ho0) hb); have n1_ := Aside0.mk (Kd.R_lower (Kd.R_new' ho0 (Kd.R_lt (by (with_reducible repeat (first | apply Kd.R_alloc | apply Kd.R_drewN | apply Kd.R_drew)); exact HO368.out))) (below_size (by repeat (first | (with_reducible first | exact HB.out | apply below_alloc | apply pw_below_drewN | apply below_drew1) | exact HB.out)))); have n2_ := Aside0.mk (below_step (by repeat (first | (with_reducible first | exact HB.out | apply below_alloc | apply pw_below_drewN | apply below_drew1) | exact HB.out)) hb); clear HO368; clear HB; have HO368 := n0_; have HO373 := n1_; have HB := n2_; clear n0_ n1_ n2_; (try clear hb); (try clear hb2); (try clear hk); (try clear hi); (try clear ho0)) | (go_at_call 34; (with_reducible refine (observatorylaw07_element.calls a0 t374 _ A10.out).mono ?_); rintro e w' ⟨rfl, ⟨nd, rfl⟩⟩; (try first | exact ⟨rfl, _, World.drewN_drewN _ _ _⟩ | exact ⟨rfl, _, Eq.trans (World.drewN_drewN _ _ _) (congrArg (World.drewN _) (Nat.add_assoc _ _ _))⟩); obtain ⟨Ao18, co18, eo18⟩ := Kd.R_slice HO368.out; subst eo18) | (go_at_call 33; (with_reducible refine (shares_Split.calls t374 t364 t365 _ _ t366 t375 t376 _ ?side1 ?side2 A11.out).mono ?_); (case side1 => repeat (first | exact (Kd.R_reads' HO368.out).2.2 | (with_reducible refine Kd.C_alloc ?_ _) | (with_reducible refine Kd.C_drewN ?_ _) | (with_reducible refine Kd.C_drew ?_))); (case side2 => exact (Kd.R_reads' HO368.out).2.1); rintro e w19 ⟨v377, rfl, ho0, hb⟩; have n0_ := Aside0.mk (Kd.R_below (by (with_reducible repeat (first | apply Kd.R_alloc | apply Kd.R_drewN | apply Kd.R_drew)); exact HO368.out) hb); have n1_ := Aside0.mk (Kd.R_below (by (with_reducible repeat (first | apply Kd.R_alloc | apply Kd.R_drewN | apply Kd.R_drew)); exact HO373.out) hb); have n2_ := Aside0.mk (Kd.R_lower ho0 (below_size (by repeat (first | (with_reducible first | exact HB.out | apply below_alloc | apply pw_below_drewN | apply below_drew1) | exact HB.out)))); have n3_ := Aside0.mk (below_step (by repeat (first | (with_reducible first | exact HB.out | apply below_alloc | apply pw_below_drewN | apply below_drew1) | exact HB.out)) hb); clear HO368; clear HO373; clear HB; have HO368 := n0_; have HO373 := n1_; have HO378 := n2_; have HB := n3_; clear n0_ n1_ n2_ n3_; (try clear hb); (try clear hb2); (try clear hk); (try clear hi); (try clear ho0)) | (go_at_call 34; (with_reducible refine (observatorylaw07_element.calls a0 t379 _ A12.out).mono ?_); rintro e w' ⟨rfl, ⟨nd, rfl⟩⟩; (try first | exact ⟨rfl, _, World.drewN_drewN _ _ _⟩ | exact ⟨rfl, _, Eq.trans (World.drewN_drewN _ _ _) (congrArg (World.drewN _) (Nat.add_assoc _ _ _))⟩); obtain ⟨Ao20, co20, eo20⟩ := Kd.R_slice HO373.out; subst eo20) | (go_at_call 33; (with_reducible refine (shares_Split.calls t379 t364 t365 _ _ t371 t380 t381 _ ?side1 ?side2 A13.out).mono ?_); (case side1 => repeat (first | exact (Kd.R_reads' HO373.out).2.2 | (with_reducible refine Kd.C_alloc ?_ _) | (with_reducible refine Kd.C_drewN ?_ _) | (with_reducible refine Kd.C_drew ?_))); (case side2 => exact (Kd.R_reads' HO373.out).2.1); rintro e w21 ⟨v382, rfl, ho0, hb⟩; have n0_ := Aside0.mk (Kd.R_below (by (with_reducible repeat (first | apply Kd.R_alloc | apply Kd.R_drewN | apply Kd.R_drew)); exact HO368.out) hb); have n1_ := Aside0.mk (Kd.R_below (by (with_reducible repeat (first | apply Kd.R_alloc | apply Kd.R_drewN | apply Kd.R_drew)); exact HO373.out) hb); have n2_ := Aside0.mk (Kd.R_elder' (by (with_reducible repeat (first | apply Kd.R_alloc | apply Kd.R_drewN | apply Kd.R_drew)); exact HO378.out) (Kd.R_base ho0) hb); have n3_ := Aside0.mk (Kd.R_lower (Kd.R_new' ho0 (Kd.R_lt (by (with_reducible repeat (first | apply Kd.R_alloc | apply Kd.R_drewN | apply Kd.R_drew)); exact HO378.out))) (below_size (by repeat (first | (with_reducible first | exact HB.out | apply below_alloc | apply pw_below_drewN | apply below_drew1) | exact HB.out)))); have n4_ := Aside0.mk (below_step (by repeat (first | (with_reducible first | exact HB.out | apply below_alloc | apply pw_below_drewN | apply below_drew1) | exact HB.out)) hb); clear HO368; clear HO373; clear HO378; clear HB; have HO368 := n0_; have HO373 := n1_; have HO378 := n2_; have HO383 := n3_; have HB := n4_; clear n0_ n1_ n2_ n3_ n4_; (try clear hb); (try clear hb2); (try clear hk); (try clear hi); (try clear ho0))); go_upto_region 6 with (first | (go_at_call 31; (with_reducible refine (observatorylaw07_head.calls  t363 _ A7.out).mono ?_); rintro e w15 ⟨rfl, hb⟩; have n0_ := Aside0.mk (below_step (by repeat (first | (with_reducible first | exact HB.out | apply below_alloc | apply pw_below_drewN | apply below_drew1) | exact HB.out)) hb); clear HB; have HB := n0_; clear n0_; (try clear hb); (try clear hb2); (try clear hk); (try clear hi)) | (go_at_call 32; (with_reducible refine (observatorylaw07_made.calls k _ _ l1 a3 a4 t364 t365 t366 _ ?side1 ?side2 A8.out).mono ?_); (case side1 => repeat (first | exact (Kd.C_below HR1.out HB.out) | (with_reducible refine Kd.C_alloc ?_ _) | (with_reducible refine Kd.C_drewN ?_ _) | (with_reducible refine Kd.C_drew ?_))); (case side2 => exact HC1.out); rintro e w16 ⟨v367, rfl, ho0, hb⟩; have n0_ := Aside0.mk (Kd.R_lower ho0 (below_size (by repeat (first | (with_reducible first | exact HB.out | apply below_alloc | apply pw_below_drewN | apply below_drew1) | exact HB.out)))); have n1_ := Aside0.mk (below_step (by repeat (first | (with_reducible first | exact HB.out | apply below_alloc | apply pw_below_drewN | apply below_drew1) | exact HB.out)) hb); clear HB; have HO368 := n0_; have HB := n1_; clear n0_ n1_; (try clear hb); (try clear hb2); (try clear hk); (try clear hi); (try clear ho0)) | (go_at_call 32; (with_reducible refine (observatorylaw07_made.calls k _ _ l2 a3 a4 t369 t370 t371 _ ?side1 ?side2 A9.out).mono ?_); (case side1 => repeat (first | exact (Kd.C_below HR2.out HB.out) | (with_reducible refine Kd.C_alloc ?_ _) | (with_reducible refine Kd.C_drewN ?_ _) | (with_reducible refine Kd.C_drew ?_))); (case side2 => exact HC2.out); rintro e w17 ⟨v372, rfl, ho0, hb⟩; have n0_ := Aside0.mk (Kd.R_elder' (by (with_reducible repeat (first | apply Kd.R_alloc | apply Kd.R_drewN | apply Kd.R_drew)); exact HO368.out) (Kd.R_base ho0) hb); have n1_ := Aside0.mk (Kd.R_lower (Kd.R_new' ho0 (Kd.R_lt (by (with_reducible repeat (first | apply Kd.R_alloc | apply Kd.R_drewN | apply Kd.R_drew)); exact HO368.out))) (below_size (by repeat (first | (with_reducible first | exact HB.out | apply below_alloc | apply pw_below_drewN | apply below_drew1) | exact HB.out)))); have n2_ := Aside0.mk (below_step (by repeat (first | (with_reducible first | exact HB.out | apply below_alloc | apply pw_below_drewN | apply below_drew1) | exact HB.out)) hb); clear HO368; clear HB; have HO368 := n0_; have HO373 := n1_; have HB := n2_; clear n0_ n1_ n2_; (try clear hb); (try clear hb2); (try clear hk); (try clear hi); (try clear ho0)) | (go_at_call 34; (with_reducible refine (observatorylaw07_element.calls a0 t374 _ A10.out).mono ?_); rintro e w' ⟨rfl, ⟨nd, rfl⟩⟩; (try first | exact ⟨rfl, _, World.drewN_drewN _ _ _⟩ | exact ⟨rfl, _, Eq.trans (World.drewN_drewN _ _ _) (congrArg (World.drewN _) (Nat.add_assoc _ _ _))⟩); obtain ⟨Ao18, co18, eo18⟩ := Kd.R_slice HO368.out; subst eo18) | (go_at_call 33; (with_reducible refine (shares_Split.calls t374 t364 t365 _ _ t366 t375 t376 _ ?side1 ?side2 A11.out).mono ?_); (case side1 => repeat (first | exact (Kd.R_reads' HO368.out).2.2 | (with_reducible refine Kd.C_alloc ?_ _) | (with_reducible refine Kd.C_drewN ?_ _) | (with_reducible refine Kd.C_drew ?_))); (case side2 => exact (Kd.R_reads' HO368.out).2.1); rintro e w19 ⟨v377, rfl, ho0, hb⟩; have n0_ := Aside0.mk (Kd.R_below (by (with_reducible repeat (first | apply Kd.R_alloc | apply Kd.R_drewN | apply Kd.R_drew)); exact HO368.out) hb); have n1_ := Aside0.mk (Kd.R_below (by (with_reducible repeat (first | apply Kd.R_alloc | apply Kd.R_drewN | apply Kd.R_drew)); exact HO373.out) hb); have n2_ := Aside0.mk (Kd.R_lower ho0 (below_size (by repeat (first | (with_reducible first | exact HB.out | apply below_alloc | apply pw_below_drewN | apply below_drew1) | exact HB.out)))); have n3_ := Aside0.mk (below_step (by repeat (first | (with_reducible first | exact HB.out | apply below_alloc | apply pw_below_drewN | apply below_drew1) | exact HB.out)) hb); clear HO368; clear HO373; clear HB; have HO368 := n0_; have HO373 := n1_; have HO378 := n2_; have HB := n3_; clear n0_ n1_ n2_ n3_; (try clear hb); (try clear hb2); (try clear hk); (try clear hi); (try clear ho0)) | (go_at_call 34; (with_reducible refine (observatorylaw07_element.calls a0 t379 _ A12.out).mono ?_); rintro e w' ⟨rfl, ⟨nd, rfl⟩⟩; (try first | exact ⟨rfl, _, World.drewN_drewN _ _ _⟩ | exact ⟨rfl, _, Eq.trans (World.drewN_drewN _ _ _) (congrArg (World.drewN _) (Nat.add_assoc _ _ _))⟩); obtain ⟨Ao20, co20, eo20⟩ := Kd.R_slice HO373.out; subst eo20) | (go_at_call 33; (with_reducible refine (shares_Split.calls t379 t364 t365 _ _ t371 t380 t381 _ ?side1 ?side2 A13.out).mono ?_); (case side1 => repeat (first | exact (Kd.R_reads' HO373.out).2.2 | (with_reducible refine Kd.C_alloc ?_ _) | (with_reducible refine Kd.C_drewN ?_ _) | (with_reducible refine Kd.C_drew ?_))); (case side2 => exact (Kd.R_reads' HO373.out).2.1); rintro e w21 ⟨v382, rfl, ho0, hb⟩; have n0_ := Aside0.mk (Kd.R_below (by (with_reducible repeat (first | apply Kd.R_alloc | apply Kd.R_drewN | apply Kd.R_drew)); exact HO368.out) hb); have n1_ := Aside0.mk (Kd.R_below (by (with_reducible repeat (first | apply Kd.R_alloc | apply Kd.R_drewN | apply Kd.R_drew)); exact HO373.out) hb); have n2_ := Aside0.mk (Kd.R_elder' (by (with_reducible repeat (first | apply Kd.R_alloc | apply Kd.R_drewN | apply Kd.R_drew)); exact HO378.out) (Kd.R_base ho0) hb); have n3_ := Aside0.mk (Kd.R_lower (Kd.R_new' ho0 (Kd.R_lt (by (with_reducible repeat (first | apply Kd.R_alloc | apply Kd.R_drewN | apply Kd.R_drew)); exact HO378.out))) (below_size (by repeat (first | (with_reducible first | exact HB.out | apply below_alloc | apply pw_below_drewN | apply below_drew1) | exact HB.out)))); have n4_ := Aside0.mk (below_step (by repeat (first | (with_reducible first | exact HB.out | apply below_alloc | apply pw_below_drewN | apply below_drew1) | exact HB.out)) hb); clear HO368; clear HO373; clear HO378; clear HB; have HO368 := n0_; have HO373 := n1_; have HO378 := n2_; have HO383 := n3_; have HB := n4_; clear n0_ n1_ n2_ n3_ n4_; (try clear hb); (try clear hb2); (try clear hk); (try clear hi); (try clear ho0))))
  (try simp only [Act.put, List.setIfInBounds_toArray, List.set_cons_zero, List.set_cons_succ])
  go_cut [80] (fun v80 wc => ∃ (kq : Nat) (x80_13 : Bool), v80 = .bool x80_13 ∧ Aside0 (observatorylaw07_SharesDiffer.j0 kq a5 t363 t364 t365 t366 t371 t375 t380 x80_13 = some r) ∧ Aside0 (kq ≤ k) ∧ Aside0 (Kd.R (Kd.int .i64) 3 wc w.heap.size (fun k_ => some k_ ≠ ((.slice Ao20 t371.length co20) : Value).ownBlock) (.slice Ao18 t366.length co18) t366) ∧ Aside0 (Kd.R (Kd.int .i64) 3 wc w.heap.size (fun k_ => some k_ ≠ ((.slice Ao18 t366.length co18) : Value).ownBlock) (.slice Ao20 t371.length co20) t371) ∧ Aside0 (Kd.R k54 54 wc w.heap.size (fun k_ => some k_ ≠ (v382 : Value).ownBlock) v377 t375) ∧ Aside0 (Kd.R k54 54 wc w.heap.size (fun k_ => some k_ ≠ (v377 : Value).ownBlock) v382 t380) ∧ Aside0 (Below w.heap.size w wc))
  case first =>
    have H := HC14.out
    clear HC14
    by_cases c22 : t376 = 0
    · rw [if_pos c22] at H
      have c22b0 : (t376 == 0) = true := beq_iff_eq.mpr c22
      have c22b1 : (t376 != 0) = false := bne_eq_false_iff_eq.mpr c22
      clear c22
      (first | rw [c22b0] | (simp only [i64_w, i32_w]; rw [c22b0]) | skip)
      by_cases c23 : t381 = 0
      · rw [if_pos c23] at H
        have c23b0 : (t381 == 0) = true := beq_iff_eq.mpr c23
        have c23b1 : (t381 != 0) = false := bne_eq_false_iff_eq.mpr c23
        clear c23
        by_cases c24 : (t375.length : Int) = t365
        · rw [if_pos c24] at H
          have c24b0 : ((t375.length : Int) == t365) = true := beq_iff_eq.mpr c24
          have c24b1 : ((t375.length : Int) != t365) = false := bne_eq_false_iff_eq.mpr c24
          clear c24
          have H' := Aside0.mk H
          clear H
          obtain ⟨Ao25, co25, eo25⟩ := Kd.R_slice HO378.out
          subst eo25
          obtain ⟨Ao26, co26, eo26⟩ := Kd.R_slice HO383.out
          subst eo26
          go_wp2
          repeat (go_quiet (fail); try go_wp2)
          go_meet
          case rel => exact ⟨_, (((t380.length : Int) != t365)), (by first | rfl | (simp; done) | (simp [*]; done)), H', ⟨by first | omega | exact Nat.le_refl _⟩, ⟨by (with_reducible repeat (first | apply Kd.R_alloc | apply Kd.R_drewN | apply Kd.R_drew)); exact Kd.R_mono HO368.out (fun _ hk => hk.2)⟩, ⟨by (with_reducible repeat (first | apply Kd.R_alloc | apply Kd.R_drewN | apply Kd.R_drew)); exact Kd.R_mono HO373.out (fun _ hk => hk.2)⟩, ⟨by (with_reducible repeat (first | apply Kd.R_alloc | apply Kd.R_drewN | apply Kd.R_drew)); exact Kd.R_mono HO378.out (fun _ hk => hk.2)⟩, ⟨by (with_reducible repeat (first | apply Kd.R_alloc | apply Kd.R_drewN | apply Kd.R_drew)); exact Kd.R_mono HO383.out (fun _ hk => hk.2)⟩, ⟨by repeat (first | (with_reducible first | exact HB.out | apply below_alloc | apply pw_below_drewN | apply below_drew1) | exact HB.out)⟩⟩
        · rw [if_neg c24] at H
          have c24b0 : ((t375.length : Int) == t365) = false := beq_eq_false_iff_ne.mpr c24
          have c24b1 : ((t375.length : Int) != t365) = true := bne_iff_ne.mpr c24
          have H' := Aside0.mk H
          clear H
          obtain ⟨Ao27, co27, eo27⟩ := Kd.R_slice HO378.out
          subst eo27
          go_wp2
          repeat (go_quiet (fail); try go_wp2)
          go_meet
          case rel => exact ⟨_, (true), (by first | rfl | (simp; done) | (simp [*]; done)), H', ⟨by first | omega | exact Nat.le_refl _⟩, ⟨by (with_reducible repeat (first | apply Kd.R_alloc | apply Kd.R_drewN | apply Kd.R_drew)); exact Kd.R_mono HO368.out (fun _ hk => hk.2)⟩, ⟨by (with_reducible repeat (first | apply Kd.R_alloc | apply Kd.R_drewN | apply Kd.R_drew)); exact Kd.R_mono HO373.out (fun _ hk => hk.2)⟩, ⟨by (with_reducible repeat (first | apply Kd.R_alloc | apply Kd.R_drewN | apply Kd.R_drew)); exact Kd.R_mono HO378.out (fun _ hk => hk.2)⟩, ⟨by (with_reducible repeat (first | apply Kd.R_alloc | apply Kd.R_drewN | apply Kd.R_drew)); exact Kd.R_mono HO383.out (fun _ hk => hk.2)⟩, ⟨by repeat (first | (with_reducible first | exact HB.out | apply below_alloc | apply pw_below_drewN | apply below_drew1) | exact HB.out)⟩⟩
      · rw [if_neg c23] at H
        have c23b0 : (t381 == 0) = false := beq_eq_false_iff_ne.mpr c23
        have c23b1 : (t381 != 0) = true := bne_iff_ne.mpr c23
        have H' := Aside0.mk H
        clear H
        go_wp2
        repeat (go_quiet (fail); try go_wp2)
        go_meet
        case rel => exact ⟨_, (true), (by first | rfl | (simp; done) | (simp [*]; done)), H', ⟨by first | omega | exact Nat.le_refl _⟩, ⟨by (with_reducible repeat (first | apply Kd.R_alloc | apply Kd.R_drewN | apply Kd.R_drew)); exact Kd.R_mono HO368.out (fun _ hk => hk.2)⟩, ⟨by (with_reducible repeat (first | apply Kd.R_alloc | apply Kd.R_drewN | apply Kd.R_drew)); exact Kd.R_mono HO373.out (fun _ hk => hk.2)⟩, ⟨by (with_reducible repeat (first | apply Kd.R_alloc | apply Kd.R_drewN | apply Kd.R_drew)); exact Kd.R_mono HO378.out (fun _ hk => hk.2)⟩, ⟨by (with_reducible repeat (first | apply Kd.R_alloc | apply Kd.R_drewN | apply Kd.R_drew)); exact Kd.R_mono HO383.out (fun _ hk => hk.2)⟩, ⟨by repeat (first | (with_reducible first | exact HB.out | apply below_alloc | apply pw_below_drewN | apply below_drew1) | exact HB.out)⟩⟩
    · rw [if_neg c22] at H
      have c22b0 : (t376 == 0) = false := beq_eq_false_iff_ne.mpr c22
      have c22b1 : (t376 != 0) = true := bne_iff_ne.mpr c22
      (first | rw [c22b0] | (simp only [i64_w, i32_w]; rw [c22b0]) | skip)
      have H' := Aside0.mk H
      clear H
      go_wp2
      repeat (go_quiet (fail); try go_wp2)
      go_meet
      case rel => exact ⟨_, (true), (by first | rfl | (simp; done) | (simp [*]; done)), H', ⟨by first | omega | exact Nat.le_refl _⟩, ⟨by (with_reducible repeat (first | apply Kd.R_alloc | apply Kd.R_drewN | apply Kd.R_drew)); exact Kd.R_mono HO368.out (fun _ hk => hk.2)⟩, ⟨by (with_reducible repeat (first | apply Kd.R_alloc | apply Kd.R_drewN | apply Kd.R_drew)); exact Kd.R_mono HO373.out (fun _ hk => hk.2)⟩, ⟨by (with_reducible repeat (first | apply Kd.R_alloc | apply Kd.R_drewN | apply Kd.R_drew)); exact Kd.R_mono HO378.out (fun _ hk => hk.2)⟩, ⟨by (with_reducible repeat (first | apply Kd.R_alloc | apply Kd.R_drewN | apply Kd.R_drew)); exact Kd.R_mono HO383.out (fun _ hk => hk.2)⟩, ⟨by repeat (first | (with_reducible first | exact HB.out | apply below_alloc | apply pw_below_drewN | apply below_drew1) | exact HB.out)⟩⟩
  case rest =>
    clear HC14
    try clear c1
    try clear c2
    try clear p2
    try clear c11
    try clear c22
    try clear c22b0
    try clear c22b1
    try clear c23
    try clear c23b0
    try clear c23b1
    try clear c24
    try clear c24b0
    try clear c24b1
    obtain ⟨kq, x80_13, rfl, HA, HJ13, HO_16, HO_19, HO_20, HO_22, HB⟩ := hcut
    cases kq with
    | zero => exact absurd HA.out (by simp [observatorylaw07_SharesDiffer.j0])
    | succ kj13 =>
      have H := HA.out
      clear HA
      simp only [observatorylaw07_SharesDiffer.j0] at H
      by_cases c28 : x80_13 = true
      · subst c28
        have H1 : (some false) = some r := by rw [if_pos rfl] at H; exact H
        clear H
        have H := H1
        clear H1
        obtain rfl := Option.some.inj H
        go_wp2
        repeat (go_quiet (fail); try go_wp2)
        go_ret
        exact ⟨by first | rfl | (simp [errW_none, errW_some] <;> rfl) | (simp [*, errW_none, errW_some] <;> rfl), by repeat (first | (with_reducible first | exact HB.out | apply below_alloc | apply pw_below_drewN | apply below_drew1) | exact HB.out)⟩
      · replace c28 := Bool.eq_false_iff.mpr c28
        subst c28
        have H1 : (observatorylaw07_SharesDiffer.l0 kj13 a5 t363 t364 t365 t366 t371 t375 t380 true true 0) = some r := by rw [if_neg (show ¬ (false = true) by decide)] at H; exact H
        clear H
        have H := H1
        clear H1
        have H' := Aside0.mk H
        clear H
        go_wp2
        repeat (go_quiet (fail); try go_wp2)
        go_loopg [24, 25, 26] kj13 (fun kq v24 v25 v26 w' => ∃ (x24_2 : Bool) (x25_2 : Bool) (x26_2 : Int), v24 = .bool x24_2 ∧ v25 = .bool x25_2 ∧ v26 = .int .i64 x26_2 ∧ Aside0 (observatorylaw07_SharesDiffer.l0 kq a5 t363 t364 t365 t366 t371 t375 t380 x24_2 x25_2 x26_2 = some r) ∧ Aside0 (kq ≤ kj13) ∧ Aside0 (Kd.R (Kd.int .i64) 3 w' w.heap.size (fun k_ => some k_ ≠ ((.slice Ao20 t371.length co20) : Value).ownBlock) (.slice Ao18 t366.length co18) t366) ∧ Aside0 (Kd.R (Kd.int .i64) 3 w' w.heap.size (fun k_ => some k_ ≠ ((.slice Ao18 t366.length co18) : Value).ownBlock) (.slice Ao20 t371.length co20) t371) ∧ Aside0 (Kd.R k54 54 w' w.heap.size (fun k_ => some k_ ≠ (v382 : Value).ownBlock) v377 t375) ∧ Aside0 (Kd.R k54 54 w' w.heap.size (fun k_ => some k_ ≠ (v377 : Value).ownBlock) v382 t380) ∧ Aside0 (Below w.heap.size w w'))
        case atStart => exact ⟨(true), (true), (0), (by first | rfl | (simp; done) | (simp [*]; done)), (by first | rfl | (simp; done) | (simp [*]; done)), (by first | rfl | (simp; done) | (simp [*]; done)), H', ⟨Nat.le_refl _⟩, ⟨by (with_reducible repeat (first | apply Kd.R_alloc | apply Kd.R_drewN | apply Kd.R_drew)); exact HO_16.out⟩, ⟨by (with_reducible repeat (first | apply Kd.R_alloc | apply Kd.R_drewN | apply Kd.R_drew)); exact HO_19.out⟩, ⟨by (with_reducible repeat (first | apply Kd.R_alloc | apply Kd.R_drewN | apply Kd.R_drew)); exact HO_20.out⟩, ⟨by (with_reducible repeat (first | apply Kd.R_alloc | apply Kd.R_drewN | apply Kd.R_drew)); exact HO_22.out⟩, ⟨by repeat (first | (with_reducible first | exact HB.out | apply below_alloc | apply pw_below_drewN | apply below_drew1) | exact HB.out)⟩⟩
        case round =>
          clear H'
          try clear c1
          try clear c2
          try clear p2
          try clear c11
          try clear c22
          try clear c22b0
          try clear c22b1
          try clear c23
          try clear c23b0
          try clear c23b1
          try clear c24
          try clear c24b0
          try clear c24b1
          try clear c28
          try clear p2
          obtain ⟨x24_2, x25_2, x26_2, rfl, rfl, rfl, HA, HK2, HO_16, HO_19, HO_20, HO_22, HB⟩ := hrel
          cases gk with
          | zero => exact absurd HA.out (by simp [observatorylaw07_SharesDiffer.l0])
          | succ k2 =>
            have H := HA.out
            clear HA
            simp only [observatorylaw07_SharesDiffer.l0] at H
            by_cases c29 : x26_2 < (wrap64 (t364 - 1))
            · rw [if_pos c29] at H
              have c29b0 : decide (x26_2 < (wrap64 (t364 - 1))) = true := decide_eq_true c29
              clear c29
              by_cases c30 : t365 = 0
              · rw [if_pos c30] at H
                exact absurd H (by simp)
              · rw [if_neg c30] at H
                have c30b0 : (t365 == 0) = false := beq_eq_false_iff_ne.mpr c30
                have c30b1 : (t365 != 0) = true := bne_iff_ne.mpr c30
                by_cases c31 : x24_2 = true
                · subst c31
                  have H1 : (if 0 ≤ x26_2 then (if x26_2 < (t366.length : Int) then (if x26_2 < (t371.length : Int) then (if x25_2 = true then (if 0 ≤ (Int.tmod (wrap64 ((wrap64 (a5)) + x26_2)) t365) then (if (Int.tmod (wrap64 ((wrap64 (a5)) + x26_2)) t365) < (t375.length : Int) then (if (Int.tmod (wrap64 ((wrap64 (a5)) + x26_2)) t365) < (t380.length : Int) then (observatorylaw07_SharesDiffer.l0 k2 a5 t363 t364 t365 t366 t371 t375 t380 ((rd t366 x26_2) == (rd t371 x26_2)) (((rd_T54 t375 (Int.tmod (wrap64 ((wrap64 (a5)) + x26_2)) t365)).f0) == ((rd_T54 t380 (Int.tmod (wrap64 ((wrap64 (a5)) + x26_2)) t365)).f0) && (((rd_T54 t375 (Int.tmod (wrap64 ((wrap64 (a5)) + x26_2)) t365)).f1) == ((rd_T54 t380 (Int.tmod (wrap64 ((wrap64 (a5)) + x26_2)) t365)).f1))) (wrap64 (x26_2 + 1))) else (none)) else (none)) else (none)) else (observatorylaw07_SharesDiffer.l0 k2 a5 t363 t364 t365 t366 t371 t375 t380 ((rd t366 x26_2) == (rd t371 x26_2)) false (wrap64 (x26_2 + 1)))) else (none)) else (none)) else (none)) = some r := by rw [if_pos rfl] at H; exact H
                  clear H
                  have H := H1
                  clear H1
                  by_cases c32 : 0 ≤ x26_2
                  · rw [if_pos c32] at H
                    have c32b0 : decide (0 ≤ x26_2) = true := decide_eq_true c32
                    clear c32
                    by_cases c33 : x26_2 < (t366.length : Int)
                    · rw [if_pos c33] at H
                      have c33b0 : decide (x26_2 < (t366.length : Int)) = true := decide_eq_true c33
                      clear c33
                      by_cases c34 : x26_2 < (t371.length : Int)
                      · rw [if_pos c34] at H
                        have c34b0 : decide (x26_2 < (t371.length : Int)) = true := decide_eq_true c34
                        clear c34
                        by_cases c35 : x25_2 = true
                        · subst c35
                          have H1 : (if 0 ≤ (Int.tmod (wrap64 ((wrap64 (a5)) + x26_2)) t365) then (if (Int.tmod (wrap64 ((wrap64 (a5)) + x26_2)) t365) < (t375.length : Int) then (if (Int.tmod (wrap64 ((wrap64 (a5)) + x26_2)) t365) < (t380.length : Int) then (observatorylaw07_SharesDiffer.l0 k2 a5 t363 t364 t365 t366 t371 t375 t380 ((rd t366 x26_2) == (rd t371 x26_2)) (((rd_T54 t375 (Int.tmod (wrap64 ((wrap64 (a5)) + x26_2)) t365)).f0) == ((rd_T54 t380 (Int.tmod (wrap64 ((wrap64 (a5)) + x26_2)) t365)).f0) && (((rd_T54 t375 (Int.tmod (wrap64 ((wrap64 (a5)) + x26_2)) t365)).f1) == ((rd_T54 t380 (Int.tmod (wrap64 ((wrap64 (a5)) + x26_2)) t365)).f1))) (wrap64 (x26_2 + 1))) else (none)) else (none)) else (none)) = some r := by rw [if_pos rfl] at H; exact H
                          clear H
                          have H := H1
                          clear H1
                          obtain ⟨ji36, hji36⟩ : ∃ j_ : Int, (Int.tmod (wrap64 ((wrap64 (a5)) + x26_2)) t365) = j_ := ⟨_, rfl⟩
                          replace H : (if 0 ≤ (ji36) then (if (ji36) < (t375.length : Int) then (if (ji36) < (t380.length : Int) then (observatorylaw07_SharesDiffer.l0 k2 a5 t363 t364 t365 t366 t371 t375 t380 ((rd t366 x26_2) == (rd t371 x26_2)) (((rd_T54 t375 (ji36)).f0) == ((rd_T54 t380 (ji36)).f0) && (((rd_T54 t375 (ji36)).f1) == ((rd_T54 t380 (ji36)).f1))) (wrap64 (x26_2 + 1))) else (none)) else (none)) else (none)) = some r := by first | (rw [hji36] at H; exact H) | (simp only [hji36] at H ⊢; exact H)
                          by_cases c37 : 0 ≤ (ji36)
                          · rw [if_pos c37] at H
                            have c37b0 : decide (0 ≤ (ji36)) = true := decide_eq_true c37
                            clear c37
                            by_cases c38 : (ji36) < (t375.length : Int)
                            · rw [if_pos c38] at H
                              have c38b0 : decide ((ji36) < (t375.length : Int)) = true := decide_eq_true c38
                              clear c38
                              by_cases c39 : (ji36) < (t380.length : Int)
                              · rw [if_pos c39] at H
                                have c39b0 : decide ((ji36) < (t380.length : Int)) = true := decide_eq_true c39
                                clear c39
                                have H' := Aside0.mk H
                                clear H
                                have p384 : 0 ≤ (x26_2 : Int) := of_decide_eq_true (by first | (with_reducible assumption) | assumption)
                                have q384 : x26_2 < (t366.length : Int) := of_decide_eq_true (by first | (with_reducible assumption) | assumption)
                                obtain ⟨ad384, e384, hx384_0⟩ := Kd.at_int (Kd.R_reads' HO_16.out).2.2 x26_2 p384 q384
                                cases e384
                                replace p384 := eq_true p384
                                replace q384 := eq_true q384
                                have p385 : 0 ≤ (x26_2 : Int) := of_decide_eq_true (by first | (with_reducible assumption) | assumption)
                                have q385 : x26_2 < (t371.length : Int) := of_decide_eq_true (by first | (with_reducible assumption) | assumption)
                                obtain ⟨ad385, e385, hx385_0⟩ := Kd.at_int (Kd.R_reads' HO_19.out).2.2 x26_2 p385 q385
                                cases e385
                                replace p385 := eq_true p385
                                replace q385 := eq_true q385
                                obtain ⟨Ao40, co40, eo40⟩ := Kd.R_slice HO_20.out
                                subst eo40
                                have p386 : 0 ≤ ((ji36) : Int) := of_decide_eq_true (by first | (with_reducible assumption) | assumption)
                                have q386 : (ji36) < (t375.length : Int) := of_decide_eq_true (by first | (with_reducible assumption) | assumption)
                                obtain ⟨ad386, e386, hx386_0, hx386_1⟩ := at_T54 (Kd.R_reads' HO_20.out).2.2 (ji36) p386 q386
                                cases e386
                                replace p386 := eq_true p386
                                replace q386 := eq_true q386
                                obtain ⟨Ao41, co41, eo41⟩ := Kd.R_slice HO_22.out
                                subst eo41
                                have p387 : 0 ≤ ((ji36) : Int) := of_decide_eq_true (by first | (with_reducible assumption) | assumption)
                                have q387 : (ji36) < (t380.length : Int) := of_decide_eq_true (by first | (with_reducible assumption) | assumption)
                                obtain ⟨ad387, e387, hx387_0, hx387_1⟩ := at_T54 (Kd.R_reads' HO_22.out).2.2 (ji36) p387 q387
                                cases e387
                                replace p387 := eq_true p387
                                replace q387 := eq_true q387
                                go_wp2
                                repeat (go_quiet (fail); try go_wp2)
                                go_roundg k2
                                case measure => have := HJ13.out; have := HK2.out; omega
                                case rel => exact ⟨(((rd t366 x26_2) == (rd t371 x26_2))), ((((rd_T54 t375 (ji36)).f0) == ((rd_T54 t380 (ji36)).f0) && (((rd_T54 t375 (ji36)).f1) == ((rd_T54 t380 (ji36)).f1)))), (wrap64 (x26_2 + 1)), (by first | rfl | (simp; done) | (simp [*]; done)), (by first | rfl | (simp; done) | (simp only [← hji36] <;> (first | rfl | simp)) | (simp [*]; done)), (by first | rfl | (simp; done) | (simp [*]; done)), H', ⟨by have := HJ13.out; have := HK2.out; omega⟩, ⟨by (with_reducible repeat (first | apply Kd.R_alloc | apply Kd.R_drewN | apply Kd.R_drew)); exact HO_16.out⟩, ⟨by (with_reducible repeat (first | apply Kd.R_alloc | apply Kd.R_drewN | apply Kd.R_drew)); exact HO_19.out⟩, ⟨by (with_reducible repeat (first | apply Kd.R_alloc | apply Kd.R_drewN | apply Kd.R_drew)); exact HO_20.out⟩, ⟨by (with_reducible repeat (first | apply Kd.R_alloc | apply Kd.R_drewN | apply Kd.R_drew)); exact HO_22.out⟩, ⟨by repeat (first | (with_reducible first | exact HB.out | apply below_alloc | apply pw_below_drewN | apply below_drew1) | exact HB.out)⟩⟩
                              · rw [if_neg c39] at H
                                exact absurd H (by simp)
                            · rw [if_neg c38] at H
                              exact absurd H (by simp)
                          · rw [if_neg c37] at H
                            exact absurd H (by simp)
                        · replace c35 := Bool.eq_false_iff.mpr c35
                          subst c35
                          have H1 : (observatorylaw07_SharesDiffer.l0 k2 a5 t363 t364 t365 t366 t371 t375 t380 ((rd t366 x26_2) == (rd t371 x26_2)) false (wrap64 (x26_2 + 1))) = some r := by rw [if_neg (show ¬ (false = true) by decide)] at H; exact H
                          clear H
                          have H := H1
                          clear H1
                          have H' := Aside0.mk H
                          clear H
                          have p384 : 0 ≤ (x26_2 : Int) := of_decide_eq_true (by first | (with_reducible assumption) | assumption)
                          have q384 : x26_2 < (t366.length : Int) := of_decide_eq_true (by first | (with_reducible assumption) | assumption)
                          obtain ⟨ad384, e384, hx384_0⟩ := Kd.at_int (Kd.R_reads' HO_16.out).2.2 x26_2 p384 q384
                          cases e384
                          replace p384 := eq_true p384
                          replace q384 := eq_true q384
                          have p385 : 0 ≤ (x26_2 : Int) := of_decide_eq_true (by first | (with_reducible assumption) | assumption)
                          have q385 : x26_2 < (t371.length : Int) := of_decide_eq_true (by first | (with_reducible assumption) | assumption)
                          obtain ⟨ad385, e385, hx385_0⟩ := Kd.at_int (Kd.R_reads' HO_19.out).2.2 x26_2 p385 q385
                          cases e385
                          replace p385 := eq_true p385
                          replace q385 := eq_true q385
                          go_wp2
                          repeat (go_quiet (fail); try go_wp2)
                          go_roundg k2
                          case measure => have := HJ13.out; have := HK2.out; omega
                          case rel => exact ⟨(((rd t366 x26_2) == (rd t371 x26_2))), (false), (wrap64 (x26_2 + 1)), (by first | rfl | (simp; done) | (simp [*]; done)), (by first | rfl | (simp; done) | (simp [*]; done)), (by first | rfl | (simp; done) | (simp [*]; done)), H', ⟨by have := HJ13.out; have := HK2.out; omega⟩, ⟨by (with_reducible repeat (first | apply Kd.R_alloc | apply Kd.R_drewN | apply Kd.R_drew)); exact HO_16.out⟩, ⟨by (with_reducible repeat (first | apply Kd.R_alloc | apply Kd.R_drewN | apply Kd.R_drew)); exact HO_19.out⟩, ⟨by (with_reducible repeat (first | apply Kd.R_alloc | apply Kd.R_drewN | apply Kd.R_drew)); exact HO_20.out⟩, ⟨by (with_reducible repeat (first | apply Kd.R_alloc | apply Kd.R_drewN | apply Kd.R_drew)); exact HO_22.out⟩, ⟨by repeat (first | (with_reducible first | exact HB.out | apply below_alloc | apply pw_below_drewN | apply below_drew1) | exact HB.out)⟩⟩
                      · rw [if_neg c34] at H
                        exact absurd H (by simp)
                    · rw [if_neg c33] at H
                      exact absurd H (by simp)
                  · rw [if_neg c32] at H
                    exact absurd H (by simp)
                · replace c31 := Bool.eq_false_iff.mpr c31
                  subst c31
                  have H1 : (if x25_2 = true then (if 0 ≤ (Int.tmod (wrap64 ((wrap64 (a5)) + x26_2)) t365) then (if (Int.tmod (wrap64 ((wrap64 (a5)) + x26_2)) t365) < (t375.length : Int) then (if (Int.tmod (wrap64 ((wrap64 (a5)) + x26_2)) t365) < (t380.length : Int) then (observatorylaw07_SharesDiffer.l0 k2 a5 t363 t364 t365 t366 t371 t375 t380 false (((rd_T54 t375 (Int.tmod (wrap64 ((wrap64 (a5)) + x26_2)) t365)).f0) == ((rd_T54 t380 (Int.tmod (wrap64 ((wrap64 (a5)) + x26_2)) t365)).f0) && (((rd_T54 t375 (Int.tmod (wrap64 ((wrap64 (a5)) + x26_2)) t365)).f1) == ((rd_T54 t380 (Int.tmod (wrap64 ((wrap64 (a5)) + x26_2)) t365)).f1))) (wrap64 (x26_2 + 1))) else (none)) else (none)) else (none)) else (observatorylaw07_SharesDiffer.l0 k2 a5 t363 t364 t365 t366 t371 t375 t380 false false (wrap64 (x26_2 + 1)))) = some r := by rw [if_neg (show ¬ (false = true) by decide)] at H; exact H
                  clear H
                  have H := H1
                  clear H1
                  by_cases c42 : x25_2 = true
                  · subst c42
                    have H1 : (if 0 ≤ (Int.tmod (wrap64 ((wrap64 (a5)) + x26_2)) t365) then (if (Int.tmod (wrap64 ((wrap64 (a5)) + x26_2)) t365) < (t375.length : Int) then (if (Int.tmod (wrap64 ((wrap64 (a5)) + x26_2)) t365) < (t380.length : Int) then (observatorylaw07_SharesDiffer.l0 k2 a5 t363 t364 t365 t366 t371 t375 t380 false (((rd_T54 t375 (Int.tmod (wrap64 ((wrap64 (a5)) + x26_2)) t365)).f0) == ((rd_T54 t380 (Int.tmod (wrap64 ((wrap64 (a5)) + x26_2)) t365)).f0) && (((rd_T54 t375 (Int.tmod (wrap64 ((wrap64 (a5)) + x26_2)) t365)).f1) == ((rd_T54 t380 (Int.tmod (wrap64 ((wrap64 (a5)) + x26_2)) t365)).f1))) (wrap64 (x26_2 + 1))) else (none)) else (none)) else (none)) = some r := by rw [if_pos rfl] at H; exact H
                    clear H
                    have H := H1
                    clear H1
                    obtain ⟨ji43, hji43⟩ : ∃ j_ : Int, (Int.tmod (wrap64 ((wrap64 (a5)) + x26_2)) t365) = j_ := ⟨_, rfl⟩
                    replace H : (if 0 ≤ (ji43) then (if (ji43) < (t375.length : Int) then (if (ji43) < (t380.length : Int) then (observatorylaw07_SharesDiffer.l0 k2 a5 t363 t364 t365 t366 t371 t375 t380 false (((rd_T54 t375 (ji43)).f0) == ((rd_T54 t380 (ji43)).f0) && (((rd_T54 t375 (ji43)).f1) == ((rd_T54 t380 (ji43)).f1))) (wrap64 (x26_2 + 1))) else (none)) else (none)) else (none)) = some r := by first | (rw [hji43] at H; exact H) | (simp only [hji43] at H ⊢; exact H)
                    by_cases c44 : 0 ≤ (ji43)
                    · rw [if_pos c44] at H
                      have c44b0 : decide (0 ≤ (ji43)) = true := decide_eq_true c44
                      clear c44
                      by_cases c45 : (ji43) < (t375.length : Int)
                      · rw [if_pos c45] at H
                        have c45b0 : decide ((ji43) < (t375.length : Int)) = true := decide_eq_true c45
                        clear c45
                        by_cases c46 : (ji43) < (t380.length : Int)
                        · rw [if_pos c46] at H
                          have c46b0 : decide ((ji43) < (t380.length : Int)) = true := decide_eq_true c46
                          clear c46
                          have H' := Aside0.mk H
                          clear H
                          obtain ⟨Ao47, co47, eo47⟩ := Kd.R_slice HO_20.out
                          subst eo47
                          have p388 : 0 ≤ ((ji43) : Int) := of_decide_eq_true (by first | (with_reducible assumption) | assumption)
                          have q388 : (ji43) < (t375.length : Int) := of_decide_eq_true (by first | (with_reducible assumption) | assumption)
                          obtain ⟨ad388, e388, hx388_0, hx388_1⟩ := at_T54 (Kd.R_reads' HO_20.out).2.2 (ji43) p388 q388
                          cases e388
                          replace p388 := eq_true p388
                          replace q388 := eq_true q388
                          obtain ⟨Ao48, co48, eo48⟩ := Kd.R_slice HO_22.out
                          subst eo48
                          have p389 : 0 ≤ ((ji43) : Int) := of_decide_eq_true (by first | (with_reducible assumption) | assumption)
                          have q389 : (ji43) < (t380.length : Int) := of_decide_eq_true (by first | (with_reducible assumption) | assumption)
                          obtain ⟨ad389, e389, hx389_0, hx389_1⟩ := at_T54 (Kd.R_reads' HO_22.out).2.2 (ji43) p389 q389
                          cases e389
                          replace p389 := eq_true p389
                          replace q389 := eq_true q389
                          go_wp2
                          repeat (go_quiet (fail); try go_wp2)
                          go_roundg k2
                          case measure => have := HJ13.out; have := HK2.out; omega
                          case rel => exact ⟨(false), ((((rd_T54 t375 (ji43)).f0) == ((rd_T54 t380 (ji43)).f0) && (((rd_T54 t375 (ji43)).f1) == ((rd_T54 t380 (ji43)).f1)))), (wrap64 (x26_2 + 1)), (by first | rfl | (simp; done) | (simp [*]; done)), (by first | rfl | (simp; done) | (simp only [← hji43] <;> (first | rfl | simp)) | (simp [*]; done)), (by first | rfl | (simp; done) | (simp [*]; done)), H', ⟨by have := HJ13.out; have := HK2.out; omega⟩, ⟨by (with_reducible repeat (first | apply Kd.R_alloc | apply Kd.R_drewN | apply Kd.R_drew)); exact HO_16.out⟩, ⟨by (with_reducible repeat (first | apply Kd.R_alloc | apply Kd.R_drewN | apply Kd.R_drew)); exact HO_19.out⟩, ⟨by (with_reducible repeat (first | apply Kd.R_alloc | apply Kd.R_drewN | apply Kd.R_drew)); exact HO_20.out⟩, ⟨by (with_reducible repeat (first | apply Kd.R_alloc | apply Kd.R_drewN | apply Kd.R_drew)); exact HO_22.out⟩, ⟨by repeat (first | (with_reducible first | exact HB.out | apply below_alloc | apply pw_below_drewN | apply below_drew1) | exact HB.out)⟩⟩
                        · rw [if_neg c46] at H
                          exact absurd H (by simp)
                      · rw [if_neg c45] at H
                        exact absurd H (by simp)
                    · rw [if_neg c44] at H
                      exact absurd H (by simp)
                  · replace c42 := Bool.eq_false_iff.mpr c42
                    subst c42
                    have H1 : (observatorylaw07_SharesDiffer.l0 k2 a5 t363 t364 t365 t366 t371 t375 t380 false false (wrap64 (x26_2 + 1))) = some r := by rw [if_neg (show ¬ (false = true) by decide)] at H; exact H
                    clear H
                    have H := H1
                    clear H1
                    have H' := Aside0.mk H
                    clear H
                    go_wp2
                    repeat (go_quiet (fail); try go_wp2)
                    go_roundg k2
                    case measure => have := HJ13.out; have := HK2.out; omega
                    case rel => exact ⟨(false), (false), (wrap64 (x26_2 + 1)), (by first | rfl | (simp; done) | (simp [*]; done)), (by first | rfl | (simp; done) | (simp [*]; done)), (by first | rfl | (simp; done) | (simp [*]; done)), H', ⟨by have := HJ13.out; have := HK2.out; omega⟩, ⟨by (with_reducible repeat (first | apply Kd.R_alloc | apply Kd.R_drewN | apply Kd.R_drew)); exact HO_16.out⟩, ⟨by (with_reducible repeat (first | apply Kd.R_alloc | apply Kd.R_drewN | apply Kd.R_drew)); exact HO_19.out⟩, ⟨by (with_reducible repeat (first | apply Kd.R_alloc | apply Kd.R_drewN | apply Kd.R_drew)); exact HO_20.out⟩, ⟨by (with_reducible repeat (first | apply Kd.R_alloc | apply Kd.R_drewN | apply Kd.R_drew)); exact HO_22.out⟩, ⟨by repeat (first | (with_reducible first | exact HB.out | apply below_alloc | apply pw_below_drewN | apply below_drew1) | exact HB.out)⟩⟩
            · rw [if_neg c29] at H
              have c29b0 : decide (x26_2 < (wrap64 (t364 - 1))) = false := decide_eq_false c29
              clear c29
              by_cases c49 : t363 = true
              · subst c49
                have H1 : (some (x24_2 == x25_2)) = some r := by rw [if_pos rfl] at H; exact H
                clear H
                have H := H1
                clear H1
                obtain rfl := Option.some.inj H
                go_wp2
                repeat (go_quiet (fail); try go_wp2)
                go_ret
                exact ⟨by first | rfl | (simp [errW_none, errW_some] <;> rfl) | (simp [*, errW_none, errW_some] <;> rfl), by repeat (first | (with_reducible first | exact HB.out | apply below_alloc | apply pw_below_drewN | apply below_drew1) | exact HB.out)⟩
              · replace c49 := Bool.eq_false_iff.mpr c49
                subst c49
                have H1 : (some false) = some r := by rw [if_neg (show ¬ (false = true) by decide)] at H; exact H
                clear H
                have H := H1
                clear H1
                obtain rfl := Option.some.inj H
                go_wp2
                repeat (go_quiet (fail); try go_wp2)
                go_ret
                exact ⟨by first | rfl | (simp [errW_none, errW_some] <;> rfl) | (simp [*, errW_none, errW_some] <;> rfl), by repeat (first | (with_reducible first | exact HB.out | apply below_alloc | apply pw_below_drewN | apply below_drew1) | exact HB.out)⟩

/-- THE ONE PURE STATEMENT of observatorylaw07_SharesDiffer: yours. -/
def observatorylaw07_SharesDiffer.Pure : Prop := ∀ (a0 : Int) (l1 : List Int) (l2 : List Int) (a3 : Int) (a4 : Int) (a5 : Int), (Lit.int .i64 a0).wf = true → l1.length ≤ maxLen → l1.length * 8 ≤ 140737488351232 → (∀ x ∈ l1, (Lit.int .i64 x).wf = true) → l2.length ≤ maxLen → l2.length * 8 ≤ 140737488351232 → (∀ x ∈ l2, (Lit.int .i64 x).wf = true) → (Lit.int .u8 a3).wf = true → (Lit.int .u8 a4).wf = true → (Lit.int .u8 a5).wf = true → ∃ k, observatorylaw07_SharesDiffer.f k a0 l1 l2 a3 a4 a5 = some true
theorem observatorylaw07_SharesDiffer.walk (P : observatorylaw07_SharesDiffer.Pure) (a0 : Int) (a1 : Option Addr) (len1 cap1 : Nat) (z1 : List Int) (a2 : Option Addr) (len2 cap2 : Nat) (z2 : List Int) (a3 : Int) (a4 : Int) (a5 : Int) (w : World) (w0 : (Lit.int .i64 a0).wf = true) (w1 : (a1 = none ∧ len1 = 0 ∧ cap1 = 0 ∧ z1 = []) ∨ ∃ x, a1 = some x ∧ len1 ≤ cap1 ∧ cap1 ≤ maxLen ∧ z1.length = cap1 ∧ (∀ i, i < z1.length → w.cell? (x.add i) = some (.int .i64 (z1.getD i 0))) ∧ ∀ n ∈ z1, (Lit.int .i64 n).wf = true) (y1 : len1 * 8 ≤ 140737488351232) (w2 : (a2 = none ∧ len2 = 0 ∧ cap2 = 0 ∧ z2 = []) ∨ ∃ x, a2 = some x ∧ len2 ≤ cap2 ∧ cap2 ≤ maxLen ∧ z2.length = cap2 ∧ (∀ i, i < z2.length → w.cell? (x.add i) = some (.int .i64 (z2.getD i 0))) ∧ ∀ n ∈ z2, (Lit.int .i64 n).wf = true) (y2 : len2 * 8 ≤ 140737488351232) (w3 : (Lit.int .u8 a3).wf = true) (w4 : (Lit.int .u8 a4).wf = true) (w5 : (Lit.int .u8 a5).wf = true) :
    Calls Try.prog 11 #[.int .i64 a0, .slice a1 len1 cap1, .slice a2 len2 cap2, .int .u8 a3, .int .u8 a4, .int .u8 a5] w fun e w' => e = .returned (.bool true) ∧ Below w.heap.size w w' := by
  obtain ⟨l1, rfl, hr1, hm1, hw1, hc1⟩ := ReadsInt.ofRowC w1
  obtain ⟨l2, rfl, hr2, hm2, hw2, hc2⟩ := ReadsInt.ofRowC w2
  obtain ⟨k, h⟩ := P a0 l1 l2 a3 a4 a5 w0 hm1 y1 hw1 hm2 y2 hw2 w3 w4 w5
  refine (observatorylaw07_SharesDiffer.calls k a0 _ _ l1 _ _ l2 a3 a4 a5 true w (Kd.C_of_reads (d := (0 : Int)) (h1 := fun _ => rfl) hr1) hc1 (Kd.C_of_reads (d := (0 : Int)) (h1 := fun _ => rfl) hr2) hc2 h).mono ?_
  rintro e w' ⟨rfl, hd⟩
  exact ⟨rfl, hd⟩

end Go.Proofs.Ytpeinbibaceheaa.X
